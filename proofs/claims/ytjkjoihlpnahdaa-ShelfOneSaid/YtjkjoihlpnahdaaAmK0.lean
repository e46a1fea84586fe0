import Derived.Test.YtjkjoihlpnahdaaAmT
/- The code, cooked, and tied to the program's; written by gen.py. -/
namespace Go.Proofs.Ytjkjoihlpnahdaa
open Go.AM

/-- cartridge/cartridgelaw12.SpanWhole -/
noncomputable def drw3_0 : Array Oper := ((Try.f3.body.map regs).getD []).getD 0 #[]
noncomputable def k3 : KC :=
 .seq (.reg [⟨(some 4), none, .mv (.b false)⟩])
 (.seq (.reg [⟨(some 16), none, .call (.fn 9) []⟩,
    ⟨(some 5), none, .mv (.t 16)⟩])
  (.seq (.seq (.reg [⟨(some 17), none, .mv (.t 5)⟩,
      ⟨(some 18), none, .un .not (.t 17)⟩,
      ⟨(some 19), none, .mv (.t 18)⟩,
      ⟨(some 20), (some (19, false)), .mv (.t 0)⟩,
      ⟨(some 21), (some (19, false)), .bi .len [22] [.t 20]⟩,
      ⟨(some 22), (some (19, false)), .bin .gtr 3 (.t 21) (.i .i64 60)⟩,
      ⟨(some 23), none, .pk (.t 19) (.b true) (.t 22)⟩,
      ⟨(some 24), none, .mv (.t 23)⟩,
      ⟨(some 25), (some (24, false)), .mv (.t 1)⟩,
      ⟨(some 26), (some (24, false)), .bin .lss 3 (.t 25) (.i .i64 1)⟩,
      ⟨(some 27), none, .pk (.t 24) (.b true) (.t 26)⟩,
      ⟨(some 28), none, .mv (.t 27)⟩,
      ⟨(some 29), (some (28, false)), .mv (.t 1)⟩,
      ⟨(some 30), (some (28, false)), .bin .gtr 3 (.t 29) (.i .i64 4000)⟩,
      ⟨(some 31), none, .pk (.t 28) (.b true) (.t 30)⟩])
    (.cond (.t 31)
     (.seq (.reg [⟨(some 32), none, .mv (.t 5)⟩,
        ⟨(some 4), none, .mv (.t 32)⟩])
      (.ret))
     (.skip)))
   (.seq (.reg [⟨(some 34), none, .mv (.t 0)⟩,
      ⟨(some 35), none, .mv (.t 1)⟩,
      ⟨(some 36), none, .call (.fn 10) [.t 34, .t 35]⟩,
      ⟨(some 33), none, .mv (.t 36)⟩,
      ⟨(some 37), none, .ex (.t 33) 0⟩,
      ⟨(some 38), none, .ex (.t 33) 1⟩,
      ⟨(some 6), none, .mv (.t 37)⟩,
      ⟨(some 7), none, .mv (.t 38)⟩])
    (.seq (.reg [⟨(some 8), none, .mv (.i .i64 0)⟩])
     (.seq (.seq (.reg [⟨(some 9), none, .mv (.i .i64 0)⟩])
       (.block 0 (.loop (.seq (.seq (.reg [⟨(some 39), none, .mv (.t 9)⟩,
             ⟨(some 40), none, .mv (.t 0)⟩,
             ⟨(some 41), none, .bi .len [22] [.t 40]⟩,
             ⟨(some 42), none, .bin .lss 3 (.t 39) (.t 41)⟩])
           (.cond (.t 42)
            (.skip)
            (.exit 0)))
          (.seq (.block 1 (.reg [⟨(some 45), none, .mv (.t 8)⟩,
              ⟨(some 46), none, .mv (.t 0)⟩,
              ⟨(some 47), none, .mv (.t 9)⟩,
              ⟨(some 48), none, .ia 22 (.t 46) (.t 47)⟩,
              ⟨(some 49), none, .ld 3 (.t 48)⟩,
              ⟨(some 50), none, .bin .and 3 (.t 49) (.i .i64 63)⟩,
              ⟨(some 51), none, .call (.fn 11) [.t 50]⟩,
              ⟨(some 52), none, .bin .add 3 (.t 45) (.t 51)⟩,
              ⟨(some 8), none, .mv (.t 52)⟩]))
           (.reg [⟨(some 43), none, .mv (.t 9)⟩,
             ⟨(some 44), none, .bin .add 3 (.t 43) (.i .i64 1)⟩,
             ⟨(some 9), none, .mv (.t 44)⟩]))))))
      (.seq (.reg [⟨(some 54), none, .mv (.t 0)⟩,
         ⟨(some 55), none, .call (.fn 12) [.t 54]⟩,
         ⟨(some 56), none, .mv (.t 1)⟩,
         ⟨(some 57), none, .call (.fn 10) [.t 55, .t 56]⟩,
         ⟨(some 53), none, .mv (.t 57)⟩,
         ⟨(some 58), none, .ex (.t 53) 0⟩,
         ⟨(some 59), none, .ex (.t 53) 1⟩,
         ⟨(some 10), none, .mv (.t 58)⟩,
         ⟨(some 11), none, .mv (.t 59)⟩])
       (.seq (.seq (.reg [⟨(some 60), none, .mv (.t 11)⟩,
           ⟨(some 61), none, .call (.fn 13) [.t 60]⟩,
           ⟨(some 62), none, .bin .eql 3 (.t 61) (.i .i64 0)⟩,
           ⟨(some 63), none, .mv (.t 8)⟩,
           ⟨(some 64), none, .mv (.t 1)⟩,
           ⟨(some 65), none, .bin .geq 3 (.t 63) (.t 64)⟩,
           ⟨(some 66), none, .bin .neq 4 (.t 62) (.t 65)⟩,
           ⟨(some 67), none, .mv (.t 66)⟩,
           ⟨(some 68), (some (67, false)), .mv (.t 11)⟩,
           ⟨(some 69), (some (67, false)), .call (.fn 13) [.t 68]⟩,
           ⟨(some 70), (some (67, false)), .bin .neq 3 (.t 69) (.i .i64 0)⟩,
           ⟨(some 71), (some (67, false)), .mv (.t 70)⟩,
           ⟨(some 72), (some (71, true)), .mv (.t 11)⟩,
           ⟨(some 73), (some (71, true)), .call (.fn 13) [.t 72]⟩,
           ⟨(some 74), (some (71, true)), .bin .neq 3 (.t 73) (.i .i64 7)⟩,
           ⟨(some 75), (some (71, true)), .mv (.t 74)⟩,
           ⟨(some 76), (some (75, false)), .mv (.t 10)⟩,
           ⟨(some 77), (some (75, false)), .bi .len [24] [.t 76]⟩,
           ⟨(some 78), (some (75, false)), .bin .neq 3 (.t 77) (.i .i64 0)⟩,
           ⟨(some 79), (some (71, true)), .pk (.t 75) (.b true) (.t 78)⟩,
           ⟨(some 80), (some (67, false)), .pk (.t 71) (.t 79) (.b false)⟩,
           ⟨(some 81), none, .pk (.t 67) (.b true) (.t 80)⟩])
         (.cond (.t 81)
          (.seq (.reg [⟨(some 4), none, .mv (.b false)⟩])
           (.ret))
          (.skip)))
        (.seq (.seq (.reg [⟨(some 82), none, .mv (.t 7)⟩,
            ⟨(some 83), none, .call (.fn 13) [.t 82]⟩,
            ⟨(some 84), none, .bin .neq 3 (.t 83) (.i .i64 0)⟩])
          (.cond (.t 84)
           (.seq (.reg [⟨(some 85), none, .mv (.t 6)⟩,
              ⟨(some 86), none, .bi .len [24] [.t 85]⟩,
              ⟨(some 87), none, .bin .eql 3 (.t 86) (.i .i64 0)⟩,
              ⟨(some 4), none, .mv (.t 87)⟩])
            (.ret))
           (.skip)))
         (.seq (.reg [⟨(some 12), none, .mv (.i .i64 0)⟩])
          (.seq (.reg [⟨(some 13), none, .mv (.i .i64 0)⟩])
           (.seq (.seq (.reg [⟨(some 14), none, .mv (.i .i64 0)⟩])
             (.block 2 (.loop (.seq (.seq (.reg [⟨(some 88), none, .mv (.t 14)⟩,
                   ⟨(some 89), none, .mv (.t 6)⟩,
                   ⟨(some 90), none, .bi .len [24] [.t 89]⟩,
                   ⟨(some 91), none, .bin .lss 3 (.t 88) (.t 90)⟩])
                 (.cond (.t 91)
                  (.skip)
                  (.exit 2)))
                (.seq (.block 3 (.seq (.seq (.drw drw3_0 [⟨(some 94), none, .mv (.t 6)⟩,
                      ⟨(some 95), none, .mv (.t 14)⟩,
                      ⟨(some 96), none, .ia 24 (.t 94) (.t 95)⟩,
                      ⟨(some 97), none, .fa 32 (.t 96) 0⟩,
                      ⟨(some 98), none, .ld 3 (.t 97)⟩,
                      ⟨(some 99), none, .mv (.t 13)⟩,
                      ⟨(some 100), none, .bin .lss 3 (.t 98) (.t 99)⟩,
                      ⟨(some 101), none, .mv (.t 100)⟩,
                      ⟨(some 102), (some (101, false)), .mv (.t 6)⟩,
                      ⟨(some 103), (some (101, false)), .mv (.t 14)⟩,
                      ⟨(some 104), (some (101, false)), .ia 24 (.t 102) (.t 103)⟩,
                      ⟨(some 105), (some (101, false)), .fa 32 (.t 104) 0⟩,
                      ⟨(some 106), (some (101, false)), .ld 3 (.t 105)⟩,
                      ⟨(some 107), (some (101, false)), .mv (.t 0)⟩,
                      ⟨(some 108), (some (101, false)), .bi .len [22] [.t 107]⟩,
                      ⟨(some 109), (some (101, false)), .bin .geq 3 (.t 106) (.t 108)⟩,
                      ⟨(some 110), none, .pk (.t 101) (.b true) (.t 109)⟩,
                      ⟨(some 111), none, .mv (.t 110)⟩,
                      ⟨(some 112), (some (111, false)), .mv (.t 6)⟩,
                      ⟨(some 113), (some (111, false)), .mv (.t 14)⟩,
                      ⟨(some 114), (some (111, false)), .ia 24 (.t 112) (.t 113)⟩,
                      ⟨(some 115), (some (111, false)), .fa 32 (.t 114) 1⟩,
                      ⟨(some 116), (some (111, false)), .ld 3 (.t 115)⟩,
                      ⟨(some 117), (some (111, false)), .mv (.t 12)⟩,
                      ⟨(some 118), (some (111, false)), .bin .neq 3 (.t 116) (.t 117)⟩,
                      ⟨(some 119), none, .pk (.t 111) (.b true) (.t 118)⟩,
                      ⟨(some 120), none, .mv (.t 119)⟩,
                      ⟨(some 121), (some (120, false)), .mv (.t 6)⟩,
                      ⟨(some 122), (some (120, false)), .mv (.t 14)⟩,
                      ⟨(some 123), (some (120, false)), .ia 24 (.t 121) (.t 122)⟩,
                      ⟨(some 124), (some (120, false)), .fa 32 (.t 123) 2⟩,
                      ⟨(some 125), (some (120, false)), .ld 3 (.t 124)⟩,
                      ⟨(some 126), (some (120, false)), .bin .lss 3 (.t 125) (.i .i64 1)⟩,
                      ⟨(some 127), none, .pk (.t 120) (.b true) (.t 126)⟩,
                      ⟨(some 128), none, .mv (.t 127)⟩,
                      ⟨(some 129), (some (128, false)), .mv (.t 6)⟩,
                      ⟨(some 130), (some (128, false)), .mv (.t 14)⟩,
                      ⟨(some 131), (some (128, false)), .ia 24 (.t 129) (.t 130)⟩,
                      ⟨(some 132), (some (128, false)), .fa 32 (.t 131) 2⟩,
                      ⟨(some 133), (some (128, false)), .ld 3 (.t 132)⟩,
                      ⟨(some 134), (some (128, false)), .mv (.t 0)⟩,
                      ⟨(some 135), (some (128, false)), .mv (.t 6)⟩,
                      ⟨(some 136), (some (128, false)), .mv (.t 14)⟩,
                      ⟨(some 137), (some (128, false)), .ia 24 (.t 135) (.t 136)⟩,
                      ⟨(some 138), (some (128, false)), .fa 32 (.t 137) 0⟩,
                      ⟨(some 139), (some (128, false)), .ld 3 (.t 138)⟩,
                      ⟨(some 140), (some (128, false)), .ia 22 (.t 134) (.t 139)⟩,
                      ⟨(some 141), (some (128, false)), .ld 3 (.t 140)⟩,
                      ⟨(some 142), (some (128, false)), .call (.fn 14) [.t 141]⟩,
                      ⟨(some 143), (some (128, false)), .bin .gtr 3 (.t 133) (.t 142)⟩,
                      ⟨(some 144), none, .pk (.t 128) (.b true) (.t 143)⟩,
                      ⟨(some 145), none, .mv (.t 144)⟩,
                      ⟨(some 146), (some (145, false)), .mv (.t 14)⟩,
                      ⟨(some 147), (some (145, false)), .mv (.t 6)⟩,
                      ⟨(some 148), (some (145, false)), .bi .len [24] [.t 147]⟩,
                      ⟨(some 149), (some (145, false)), .bin .sub 3 (.t 148) (.i .i64 1)⟩,
                      ⟨(some 150), (some (145, false)), .bin .lss 3 (.t 146) (.t 149)⟩,
                      ⟨(some 151), (some (145, false)), .mv (.t 150)⟩,
                      ⟨(some 152), (some (151, true)), .mv (.t 6)⟩,
                      ⟨(some 153), (some (151, true)), .mv (.t 14)⟩,
                      ⟨(some 154), (some (151, true)), .ia 24 (.t 152) (.t 153)⟩,
                      ⟨(some 155), (some (151, true)), .fa 32 (.t 154) 2⟩,
                      ⟨(some 156), (some (151, true)), .ld 3 (.t 155)⟩,
                      ⟨(some 157), (some (151, true)), .mv (.t 0)⟩,
                      ⟨(some 158), (some (151, true)), .mv (.t 6)⟩,
                      ⟨(some 159), (some (151, true)), .mv (.t 14)⟩,
                      ⟨(some 160), (some (151, true)), .ia 24 (.t 158) (.t 159)⟩,
                      ⟨(some 161), (some (151, true)), .fa 32 (.t 160) 0⟩,
                      ⟨(some 162), (some (151, true)), .ld 3 (.t 161)⟩,
                      ⟨(some 163), (some (151, true)), .ia 22 (.t 157) (.t 162)⟩,
                      ⟨(some 164), (some (151, true)), .ld 3 (.t 163)⟩,
                      ⟨(some 165), (some (151, true)), .call (.fn 14) [.t 164]⟩,
                      ⟨(some 166), (some (151, true)), .bin .neq 3 (.t 156) (.t 165)⟩,
                      ⟨(some 167), (some (145, false)), .pk (.t 151) (.t 166) (.b false)⟩,
                      ⟨(some 168), none, .pk (.t 145) (.b true) (.t 167)⟩])
                    (.cond (.t 168)
                     (.seq (.reg [⟨(some 4), none, .mv (.b false)⟩])
                      (.ret))
                     (.skip)))
                   (.seq (.seq (.reg [⟨(some 169), none, .mv (.t 13)⟩,
                       ⟨(some 15), none, .mv (.t 169)⟩])
                     (.block 4 (.loop (.seq (.seq (.reg [⟨(some 170), none, .mv (.t 15)⟩,
                           ⟨(some 171), none, .mv (.t 6)⟩,
                           ⟨(some 172), none, .mv (.t 14)⟩,
                           ⟨(some 173), none, .ia 24 (.t 171) (.t 172)⟩,
                           ⟨(some 174), none, .fa 32 (.t 173) 0⟩,
                           ⟨(some 175), none, .ld 3 (.t 174)⟩,
                           ⟨(some 176), none, .bin .lss 3 (.t 170) (.t 175)⟩])
                         (.cond (.t 176)
                          (.skip)
                          (.exit 4)))
                        (.seq (.block 5 (.seq (.reg [⟨(some 179), none, .mv (.t 0)⟩,
                             ⟨(some 180), none, .mv (.t 15)⟩,
                             ⟨(some 181), none, .ia 22 (.t 179) (.t 180)⟩,
                             ⟨(some 182), none, .ld 3 (.t 181)⟩,
                             ⟨(some 183), none, .call (.fn 14) [.t 182]⟩,
                             ⟨(some 184), none, .bin .gtr 3 (.t 183) (.i .i64 0)⟩])
                           (.cond (.t 184)
                            (.seq (.reg [⟨(some 4), none, .mv (.b false)⟩])
                             (.ret))
                            (.skip))))
                         (.reg [⟨(some 177), none, .mv (.t 15)⟩,
                           ⟨(some 178), none, .bin .add 3 (.t 177) (.i .i64 1)⟩,
                           ⟨(some 15), none, .mv (.t 178)⟩]))))))
                    (.seq (.reg [⟨(some 185), none, .mv (.t 12)⟩,
                       ⟨(some 186), none, .mv (.t 6)⟩,
                       ⟨(some 187), none, .mv (.t 14)⟩,
                       ⟨(some 188), none, .ia 24 (.t 186) (.t 187)⟩,
                       ⟨(some 189), none, .fa 32 (.t 188) 2⟩,
                       ⟨(some 190), none, .ld 3 (.t 189)⟩,
                       ⟨(some 191), none, .bin .add 3 (.t 185) (.t 190)⟩,
                       ⟨(some 12), none, .mv (.t 191)⟩])
                     (.reg [⟨(some 192), none, .mv (.t 6)⟩,
                       ⟨(some 193), none, .mv (.t 14)⟩,
                       ⟨(some 194), none, .ia 24 (.t 192) (.t 193)⟩,
                       ⟨(some 195), none, .fa 32 (.t 194) 0⟩,
                       ⟨(some 196), none, .ld 3 (.t 195)⟩,
                       ⟨(some 197), none, .bin .add 3 (.t 196) (.i .i64 1)⟩,
                       ⟨(some 13), none, .mv (.t 197)⟩])))))
                 (.reg [⟨(some 92), none, .mv (.t 14)⟩,
                   ⟨(some 93), none, .bin .add 3 (.t 92) (.i .i64 1)⟩,
                   ⟨(some 14), none, .mv (.t 93)⟩]))))))
            (.seq (.reg [⟨(some 198), none, .mv (.t 12)⟩,
               ⟨(some 199), none, .mv (.t 1)⟩,
               ⟨(some 200), none, .bin .eql 3 (.t 198) (.t 199)⟩,
               ⟨(some 4), none, .mv (.t 200)⟩])
             (.ret)))))))))))))
theorem b3 : Body Try.prog 3 201 [4] k3 := ⟨Enters.of Try.func3 (by kernel_rfl) (by kernel_rfl), _, _, Try.func3, rfl, by kernel_rfl, rfl, rfl⟩

/-- cartridge/cartridgelaw23.MountPlays -/
noncomputable def drw4_0 : Array Oper := ((Try.f4.body.map regs).getD []).getD 0 #[]
noncomputable def drw4_1 : Array Oper := ((Try.f4.body.map regs).getD []).getD 1 #[]
noncomputable def k4 : KC :=
 .seq (.reg [⟨(some 2), none, .mv (.b false)⟩])
 (.seq (.reg [⟨(some 16), none, .call (.fn 15) []⟩,
    ⟨(some 3), none, .mv (.t 16)⟩])
  (.seq (.seq (.reg [⟨(some 17), none, .mv (.t 3)⟩,
      ⟨(some 18), none, .un .not (.t 17)⟩,
      ⟨(some 19), none, .mv (.t 18)⟩,
      ⟨(some 20), (some (19, false)), .mv (.t 0)⟩,
      ⟨(some 21), (some (19, false)), .bi .len [34] [.t 20]⟩,
      ⟨(some 22), (some (19, false)), .bin .gtr 3 (.t 21) (.i .i64 200)⟩,
      ⟨(some 23), none, .pk (.t 19) (.b true) (.t 22)⟩])
    (.cond (.t 23)
     (.seq (.reg [⟨(some 24), none, .mv (.t 3)⟩,
        ⟨(some 2), none, .mv (.t 24)⟩])
      (.ret))
     (.skip)))
   (.seq (.reg [⟨(some 25), none, .bld 37 []⟩,
      ⟨(some 26), none, .box 37 (.t 25)⟩,
      ⟨(some 4), none, .mv (.t 26)⟩])
    (.seq (.reg [⟨(some 27), none, .bld 37 []⟩,
       ⟨(some 28), none, .box 37 (.t 27)⟩,
       ⟨(some 5), none, .mv (.t 28)⟩])
     (.seq (.reg [⟨(some 6), none, .mv (.ns)⟩])
      (.seq (.seq (.reg [⟨(some 7), none, .mv (.i .i64 0)⟩])
        (.block 0 (.loop (.seq (.seq (.reg [⟨(some 29), none, .mv (.t 7)⟩,
              ⟨(some 30), none, .mv (.t 0)⟩,
              ⟨(some 31), none, .bi .len [34] [.t 30]⟩,
              ⟨(some 32), none, .bin .lss 3 (.t 29) (.t 31)⟩])
            (.cond (.t 32)
             (.skip)
             (.exit 0)))
           (.seq (.block 1 (.seq (.reg [⟨(some 35), none, .mv (.t 0)⟩,
                ⟨(some 36), none, .mv (.t 7)⟩,
                ⟨(some 37), none, .ia 34 (.t 35) (.t 36)⟩,
                ⟨(some 38), none, .ld 39 (.t 37)⟩,
                ⟨(some 8), none, .al 39⟩,
                ⟨none, none, .st 39 (.t 8) (.t 38)⟩])
              (.seq (.reg [⟨(some 39), none, .mv (.t 5)⟩,
                 ⟨(some 40), none, .mv (.t 7)⟩,
                 ⟨(some 41), none, .call (.fn 16) [.t 39, .t 40]⟩])
               (.seq (.seq (.reg [⟨(some 42), none, .fa 39 (.t 8) 0⟩,
                   ⟨(some 43), none, .ld 3 (.t 42)⟩])
                 (.block 2 (.seq (.reg [⟨(some 45), none, .bin .eql 3 (.t 43) (.i .i64 0)⟩,
                     ⟨(some 44), none, .mv (.t 45)⟩])
                   (.cond (.t 44)
                    (.seq (.reg [⟨(some 46), none, .mv (.t 4)⟩,
                       ⟨(some 47), none, .fa 39 (.t 8) 1⟩,
                       ⟨(some 48), none, .ld 3 (.t 47)⟩,
                       ⟨(some 49), none, .call (.fn 16) [.t 46, .t 48]⟩])
                     (.reg [⟨(some 50), none, .mv (.t 6)⟩,
                       ⟨(some 51), none, .fa 39 (.t 8) 1⟩,
                       ⟨(some 52), none, .ld 3 (.t 51)⟩,
                       ⟨(some 53), none, .bsl 22 1 [(0, .t 52)]⟩,
                       ⟨(some 54), none, .bi .append [22, 22] [.t 50, .t 53]⟩,
                       ⟨(some 6), none, .mv (.t 54)⟩]))
                    (.seq (.reg [⟨(some 56), none, .bin .eql 3 (.t 43) (.i .i64 1)⟩,
                       ⟨(some 55), none, .mv (.t 56)⟩])
                     (.cond (.t 55)
                      (.seq (.reg [⟨(some 9), none, .mv (.i .i64 0)⟩])
                       (.seq (.reg [⟨(some 10), none, .mv (.ns)⟩])
                        (.seq (.seq (.reg [⟨(some 11), none, .mv (.i .i64 0)⟩])
                          (.block 3 (.loop (.seq (.seq (.reg [⟨(some 57), none, .mv (.t 11)⟩,
                                ⟨(some 58), none, .mv (.t 6)⟩,
                                ⟨(some 59), none, .bi .len [22] [.t 58]⟩,
                                ⟨(some 60), none, .bin .lss 3 (.t 57) (.t 59)⟩])
                              (.cond (.t 60)
                               (.skip)
                               (.exit 3)))
                             (.seq (.block 4 (.seq (.drw drw4_0 [⟨(some 63), none, .mv (.t 6)⟩,
                                  ⟨(some 64), none, .mv (.t 11)⟩,
                                  ⟨(some 65), none, .ia 22 (.t 63) (.t 64)⟩,
                                  ⟨(some 66), none, .ld 3 (.t 65)⟩,
                                  ⟨(some 67), none, .fa 39 (.t 8) 1⟩,
                                  ⟨(some 68), none, .ld 3 (.t 67)⟩,
                                  ⟨(some 69), none, .bin .eql 3 (.t 66) (.t 68)⟩])
                                (.cond (.t 69)
                                 (.reg [⟨(some 70), none, .mv (.t 9)⟩,
                                   ⟨(some 71), none, .bin .add 3 (.t 70) (.i .i64 1)⟩,
                                   ⟨(some 9), none, .mv (.t 71)⟩])
                                 (.reg [⟨(some 72), none, .mv (.t 10)⟩,
                                   ⟨(some 73), none, .mv (.t 6)⟩,
                                   ⟨(some 74), none, .mv (.t 11)⟩,
                                   ⟨(some 75), none, .ia 22 (.t 73) (.t 74)⟩,
                                   ⟨(some 76), none, .ld 3 (.t 75)⟩,
                                   ⟨(some 77), none, .bsl 22 1 [(0, .t 76)]⟩,
                                   ⟨(some 78), none, .bi .append [22, 22] [.t 72, .t 77]⟩,
                                   ⟨(some 10), none, .mv (.t 78)⟩]))))
                              (.reg [⟨(some 61), none, .mv (.t 11)⟩,
                                ⟨(some 62), none, .bin .add 3 (.t 61) (.i .i64 1)⟩,
                                ⟨(some 11), none, .mv (.t 62)⟩]))))))
                         (.seq (.reg [⟨(some 79), none, .mv (.t 10)⟩,
                            ⟨(some 6), none, .mv (.t 79)⟩])
                          (.seq (.reg [⟨(some 80), none, .mv (.t 4)⟩,
                             ⟨(some 81), none, .fa 39 (.t 8) 1⟩,
                             ⟨(some 82), none, .ld 3 (.t 81)⟩,
                             ⟨(some 83), none, .call (.fn 17) [.t 80, .t 82]⟩,
                             ⟨(some 84), none, .mv (.t 9)⟩,
                             ⟨(some 85), none, .bin .neq 3 (.t 83) (.t 84)⟩])
                           (.cond (.t 85)
                            (.seq (.reg [⟨(some 2), none, .mv (.b false)⟩])
                             (.ret))
                            (.skip)))))))
                      (.skip)))))))
                (.seq (.reg [⟨(some 87), none, .mv (.t 4)⟩,
                   ⟨(some 88), none, .call (.fn 18) [.t 87]⟩,
                   ⟨(some 86), none, .mv (.t 88)⟩,
                   ⟨(some 89), none, .ex (.t 86) 0⟩,
                   ⟨(some 90), none, .ex (.t 86) 1⟩,
                   ⟨(some 12), none, .mv (.t 89)⟩,
                   ⟨(some 13), none, .mv (.t 90)⟩])
                 (.seq (.seq (.reg [⟨(some 91), none, .mv (.t 4)⟩,
                     ⟨(some 92), none, .call (.fn 19) [.t 91]⟩,
                     ⟨(some 93), none, .mv (.t 6)⟩,
                     ⟨(some 94), none, .bi .len [22] [.t 93]⟩,
                     ⟨(some 95), none, .bin .neq 3 (.t 92) (.t 94)⟩,
                     ⟨(some 96), none, .mv (.t 95)⟩,
                     ⟨(some 97), (some (96, false)), .mv (.t 13)⟩,
                     ⟨(some 98), (some (96, false)), .mv (.t 6)⟩,
                     ⟨(some 99), (some (96, false)), .bi .len [22] [.t 98]⟩,
                     ⟨(some 100), (some (96, false)), .bin .gtr 3 (.t 99) (.i .i64 0)⟩,
                     ⟨(some 101), (some (96, false)), .bin .neq 4 (.t 97) (.t 100)⟩,
                     ⟨(some 102), none, .pk (.t 96) (.b true) (.t 101)⟩,
                     ⟨(some 103), none, .mv (.t 102)⟩,
                     ⟨(some 104), (some (103, false)), .mv (.t 13)⟩,
                     ⟨(some 105), (some (103, false)), .mv (.t 104)⟩,
                     ⟨(some 106), (some (105, true)), .mv (.t 12)⟩,
                     ⟨(some 107), (some (105, true)), .mv (.t 6)⟩,
                     ⟨(some 108), (some (105, true)), .ia 22 (.t 107) (.i .i64 0)⟩,
                     ⟨(some 109), (some (105, true)), .ld 3 (.t 108)⟩,
                     ⟨(some 110), (some (105, true)), .bin .neq 3 (.t 106) (.t 109)⟩,
                     ⟨(some 111), (some (103, false)), .pk (.t 105) (.t 110) (.b false)⟩,
                     ⟨(some 112), none, .pk (.t 103) (.b true) (.t 111)⟩])
                   (.cond (.t 112)
                    (.seq (.reg [⟨(some 2), none, .mv (.b false)⟩])
                     (.ret))
                    (.skip)))
                  (.seq (.reg [⟨(some 14), none, .mv (.b false)⟩])
                   (.seq (.seq (.reg [⟨(some 15), none, .mv (.i .i64 0)⟩])
                     (.block 5 (.loop (.seq (.seq (.reg [⟨(some 113), none, .mv (.t 15)⟩,
                           ⟨(some 114), none, .mv (.t 6)⟩,
                           ⟨(some 115), none, .bi .len [22] [.t 114]⟩,
                           ⟨(some 116), none, .bin .lss 3 (.t 113) (.t 115)⟩])
                         (.cond (.t 116)
                          (.skip)
                          (.exit 5)))
                        (.seq (.block 6 (.drw drw4_1 [⟨(some 119), none, .mv (.t 14)⟩,
                            ⟨(some 120), none, .mv (.t 119)⟩,
                            ⟨(some 121), (some (120, false)), .mv (.t 6)⟩,
                            ⟨(some 122), (some (120, false)), .mv (.t 15)⟩,
                            ⟨(some 123), (some (120, false)), .ia 22 (.t 121) (.t 122)⟩,
                            ⟨(some 124), (some (120, false)), .ld 3 (.t 123)⟩,
                            ⟨(some 125), (some (120, false)), .fa 39 (.t 8) 1⟩,
                            ⟨(some 126), (some (120, false)), .ld 3 (.t 125)⟩,
                            ⟨(some 127), (some (120, false)), .bin .eql 3 (.t 124) (.t 126)⟩,
                            ⟨(some 128), none, .pk (.t 120) (.b true) (.t 127)⟩,
                            ⟨(some 14), none, .mv (.t 128)⟩]))
                         (.reg [⟨(some 117), none, .mv (.t 15)⟩,
                           ⟨(some 118), none, .bin .add 3 (.t 117) (.i .i64 1)⟩,
                           ⟨(some 15), none, .mv (.t 118)⟩]))))))
                    (.seq (.reg [⟨(some 129), none, .mv (.t 4)⟩,
                       ⟨(some 130), none, .fa 39 (.t 8) 1⟩,
                       ⟨(some 131), none, .ld 3 (.t 130)⟩,
                       ⟨(some 132), none, .call (.fn 20) [.t 129, .t 131]⟩,
                       ⟨(some 133), none, .mv (.t 14)⟩,
                       ⟨(some 134), none, .bin .neq 4 (.t 132) (.t 133)⟩])
                     (.cond (.t 134)
                      (.seq (.reg [⟨(some 2), none, .mv (.b false)⟩])
                       (.ret))
                      (.skip)))))))))))
            (.reg [⟨(some 33), none, .mv (.t 7)⟩,
              ⟨(some 34), none, .bin .add 3 (.t 33) (.i .i64 1)⟩,
              ⟨(some 7), none, .mv (.t 34)⟩]))))))
       (.seq (.reg [⟨(some 2), none, .mv (.b true)⟩])
        (.ret))))))))
theorem b4 : Body Try.prog 4 135 [2] k4 := ⟨Enters.of Try.func4 (by kernel_rfl) (by kernel_rfl), _, _, Try.func4, rfl, by kernel_rfl, rfl, rfl⟩

/-- cartridge/cartridgelaw23.MountOrder -/
noncomputable def drw5_0 : Array Oper := ((Try.f5.body.map regs).getD []).getD 0 #[]
noncomputable def k5 : KC :=
 .seq (.reg [⟨(some 2), none, .mv (.b false)⟩])
 (.seq (.reg [⟨(some 12), none, .call (.fn 15) []⟩,
    ⟨(some 3), none, .mv (.t 12)⟩])
  (.seq (.seq (.reg [⟨(some 13), none, .mv (.t 3)⟩,
      ⟨(some 14), none, .un .not (.t 13)⟩,
      ⟨(some 15), none, .mv (.t 14)⟩,
      ⟨(some 16), (some (15, false)), .mv (.t 0)⟩,
      ⟨(some 17), (some (15, false)), .bi .len [22] [.t 16]⟩,
      ⟨(some 18), (some (15, false)), .bin .gtr 3 (.t 17) (.i .i64 100)⟩,
      ⟨(some 19), none, .pk (.t 15) (.b true) (.t 18)⟩])
    (.cond (.t 19)
     (.seq (.reg [⟨(some 20), none, .mv (.t 3)⟩,
        ⟨(some 2), none, .mv (.t 20)⟩])
      (.ret))
     (.skip)))
   (.seq (.reg [⟨(some 21), none, .bld 37 []⟩,
      ⟨(some 22), none, .box 37 (.t 21)⟩,
      ⟨(some 4), none, .mv (.t 22)⟩])
    (.seq (.seq (.reg [⟨(some 5), none, .mv (.i .i64 0)⟩])
      (.block 0 (.loop (.seq (.seq (.reg [⟨(some 23), none, .mv (.t 5)⟩,
            ⟨(some 24), none, .mv (.t 0)⟩,
            ⟨(some 25), none, .bi .len [22] [.t 24]⟩,
            ⟨(some 26), none, .bin .lss 3 (.t 23) (.t 25)⟩])
          (.cond (.t 26)
           (.skip)
           (.exit 0)))
         (.seq (.block 1 (.reg [⟨(some 29), none, .mv (.t 4)⟩,
             ⟨(some 30), none, .mv (.t 0)⟩,
             ⟨(some 31), none, .mv (.t 5)⟩,
             ⟨(some 32), none, .ia 22 (.t 30) (.t 31)⟩,
             ⟨(some 33), none, .ld 3 (.t 32)⟩,
             ⟨(some 34), none, .bin .and 3 (.t 33) (.i .i64 7)⟩,
             ⟨(some 35), none, .call (.fn 16) [.t 29, .t 34]⟩]))
          (.reg [⟨(some 27), none, .mv (.t 5)⟩,
            ⟨(some 28), none, .bin .add 3 (.t 27) (.i .i64 1)⟩,
            ⟨(some 5), none, .mv (.t 28)⟩]))))))
     (.seq (.seq (.reg [⟨(some 6), none, .mv (.i .i64 0)⟩])
       (.block 2 (.loop (.seq (.seq (.reg [⟨(some 36), none, .mv (.t 6)⟩,
             ⟨(some 37), none, .mv (.t 0)⟩,
             ⟨(some 38), none, .bi .len [22] [.t 37]⟩,
             ⟨(some 39), none, .bin .lss 3 (.t 36) (.t 38)⟩])
           (.cond (.t 39)
            (.skip)
            (.exit 2)))
          (.seq (.block 3 (.seq (.reg [⟨(some 7), none, .mv (.i .i64 0)⟩])
             (.seq (.reg [⟨(some 8), none, .mv (.b true)⟩])
              (.seq (.seq (.reg [⟨(some 9), none, .mv (.i .i64 0)⟩])
                (.block 4 (.loop (.seq (.seq (.reg [⟨(some 42), none, .mv (.t 9)⟩,
                      ⟨(some 43), none, .mv (.t 0)⟩,
                      ⟨(some 44), none, .bi .len [22] [.t 43]⟩,
                      ⟨(some 45), none, .bin .lss 3 (.t 42) (.t 44)⟩])
                    (.cond (.t 45)
                     (.skip)
                     (.exit 4)))
                   (.seq (.block 5 (.seq (.drw drw5_0 [⟨(some 48), none, .mv (.t 0)⟩,
                        ⟨(some 49), none, .mv (.t 9)⟩,
                        ⟨(some 50), none, .ia 22 (.t 48) (.t 49)⟩,
                        ⟨(some 51), none, .ld 3 (.t 50)⟩,
                        ⟨(some 52), none, .bin .and 3 (.t 51) (.i .i64 7)⟩,
                        ⟨(some 53), none, .mv (.t 0)⟩,
                        ⟨(some 54), none, .mv (.t 6)⟩,
                        ⟨(some 55), none, .ia 22 (.t 53) (.t 54)⟩,
                        ⟨(some 56), none, .ld 3 (.t 55)⟩,
                        ⟨(some 57), none, .bin .and 3 (.t 56) (.i .i64 7)⟩,
                        ⟨(some 58), none, .bin .eql 3 (.t 52) (.t 57)⟩])
                      (.cond (.t 58)
                       (.seq (.reg [⟨(some 59), none, .mv (.t 7)⟩,
                          ⟨(some 60), none, .bin .add 3 (.t 59) (.i .i64 1)⟩,
                          ⟨(some 7), none, .mv (.t 60)⟩])
                        (.reg [⟨(some 61), none, .mv (.t 8)⟩,
                          ⟨(some 62), none, .mv (.t 61)⟩,
                          ⟨(some 63), (some (62, true)), .mv (.t 9)⟩,
                          ⟨(some 64), (some (62, true)), .mv (.t 6)⟩,
                          ⟨(some 65), (some (62, true)), .bin .geq 3 (.t 63) (.t 64)⟩,
                          ⟨(some 66), none, .pk (.t 62) (.t 65) (.b false)⟩,
                          ⟨(some 8), none, .mv (.t 66)⟩]))
                       (.skip))))
                    (.reg [⟨(some 46), none, .mv (.t 9)⟩,
                      ⟨(some 47), none, .bin .add 3 (.t 46) (.i .i64 1)⟩,
                      ⟨(some 9), none, .mv (.t 47)⟩]))))))
               (.seq (.seq (.reg [⟨(some 67), none, .mv (.t 8)⟩,
                   ⟨(some 68), none, .un .not (.t 67)⟩])
                 (.cond (.t 68)
                  (.exit 3)
                  (.skip)))
                (.seq (.reg [⟨(some 70), none, .mv (.t 4)⟩,
                   ⟨(some 71), none, .call (.fn 18) [.t 70]⟩,
                   ⟨(some 69), none, .mv (.t 71)⟩,
                   ⟨(some 72), none, .ex (.t 69) 0⟩,
                   ⟨(some 73), none, .ex (.t 69) 1⟩,
                   ⟨(some 10), none, .mv (.t 72)⟩,
                   ⟨(some 11), none, .mv (.t 73)⟩])
                 (.seq (.reg [⟨(some 74), none, .mv (.t 11)⟩,
                    ⟨(some 75), none, .un .not (.t 74)⟩,
                    ⟨(some 76), none, .mv (.t 75)⟩,
                    ⟨(some 77), (some (76, false)), .mv (.t 10)⟩,
                    ⟨(some 78), (some (76, false)), .mv (.t 0)⟩,
                    ⟨(some 79), (some (76, false)), .mv (.t 6)⟩,
                    ⟨(some 80), (some (76, false)), .ia 22 (.t 78) (.t 79)⟩,
                    ⟨(some 81), (some (76, false)), .ld 3 (.t 80)⟩,
                    ⟨(some 82), (some (76, false)), .bin .and 3 (.t 81) (.i .i64 7)⟩,
                    ⟨(some 83), (some (76, false)), .bin .neq 3 (.t 77) (.t 82)⟩,
                    ⟨(some 84), none, .pk (.t 76) (.b true) (.t 83)⟩,
                    ⟨(some 85), none, .mv (.t 84)⟩,
                    ⟨(some 86), (some (85, false)), .mv (.t 4)⟩,
                    ⟨(some 87), (some (85, false)), .mv (.t 10)⟩,
                    ⟨(some 88), (some (85, false)), .call (.fn 17) [.t 86, .t 87]⟩,
                    ⟨(some 89), (some (85, false)), .mv (.t 7)⟩,
                    ⟨(some 90), (some (85, false)), .bin .neq 3 (.t 88) (.t 89)⟩,
                    ⟨(some 91), none, .pk (.t 85) (.b true) (.t 90)⟩,
                    ⟨(some 92), none, .mv (.t 91)⟩,
                    ⟨(some 93), (some (92, false)), .mv (.t 4)⟩,
                    ⟨(some 94), (some (92, false)), .mv (.t 10)⟩,
                    ⟨(some 95), (some (92, false)), .call (.fn 20) [.t 93, .t 94]⟩,
                    ⟨(some 96), none, .pk (.t 92) (.b true) (.t 95)⟩])
                  (.cond (.t 96)
                   (.seq (.reg [⟨(some 2), none, .mv (.b false)⟩])
                    (.ret))
                   (.skip)))))))))
           (.reg [⟨(some 40), none, .mv (.t 6)⟩,
             ⟨(some 41), none, .bin .add 3 (.t 40) (.i .i64 1)⟩,
             ⟨(some 6), none, .mv (.t 41)⟩]))))))
      (.seq (.reg [⟨(some 97), none, .mv (.t 4)⟩,
         ⟨(some 98), none, .call (.fn 19) [.t 97]⟩,
         ⟨(some 99), none, .bin .eql 3 (.t 98) (.i .i64 0)⟩,
         ⟨(some 2), none, .mv (.t 99)⟩])
       (.ret)))))))
theorem b5 : Body Try.prog 5 100 [2] k5 := ⟨Enters.of Try.func5 (by kernel_rfl) (by kernel_rfl), _, _, Try.func5, rfl, by kernel_rfl, rfl, rfl⟩

/-- cartridge/cartridgelaw22.ShelfPlays -/
noncomputable def drw6_0 : Array Oper := ((Try.f6.body.map regs).getD []).getD 0 #[]
noncomputable def drw6_1 : Array Oper := ((Try.f6.body.map regs).getD []).getD 1 #[]
noncomputable def drw6_2 : Array Oper := ((Try.f6.body.map regs).getD []).getD 2 #[]
noncomputable def k6 : KC :=
 .seq (.reg [⟨(some 6), none, .mv (.b false)⟩])
 (.seq (.reg [⟨(some 14), none, .call (.fn 21) []⟩,
    ⟨(some 7), none, .mv (.t 14)⟩])
  (.seq (.seq (.reg [⟨(some 15), none, .mv (.t 7)⟩,
      ⟨(some 16), none, .un .not (.t 15)⟩,
      ⟨(some 17), none, .mv (.t 16)⟩,
      ⟨(some 18), (some (17, false)), .mv (.t 0)⟩,
      ⟨(some 19), (some (17, false)), .bi .len [22] [.t 18]⟩,
      ⟨(some 20), (some (17, false)), .bin .gtr 3 (.t 19) (.i .i64 40)⟩,
      ⟨(some 21), none, .pk (.t 17) (.b true) (.t 20)⟩,
      ⟨(some 22), none, .mv (.t 21)⟩,
      ⟨(some 23), (some (22, false)), .mv (.t 2)⟩,
      ⟨(some 24), (some (22, false)), .bi .len [47] [.t 23]⟩,
      ⟨(some 25), (some (22, false)), .bin .gtr 3 (.t 24) (.i .i64 100)⟩,
      ⟨(some 26), none, .pk (.t 22) (.b true) (.t 25)⟩])
    (.cond (.t 26)
     (.seq (.reg [⟨(some 27), none, .mv (.t 7)⟩,
        ⟨(some 6), none, .mv (.t 27)⟩])
      (.ret))
     (.skip)))
   (.seq (.reg [⟨(some 29), none, .mv (.t 0)⟩,
      ⟨(some 30), none, .bi .append [22, 22] [.ns, .t 29]⟩,
      ⟨(some 31), none, .mv (.t 1)⟩,
      ⟨(some 32), none, .call (.fn 22) [.t 30, .t 31]⟩,
      ⟨(some 28), none, .mv (.t 32)⟩,
      ⟨(some 33), none, .ex (.t 28) 0⟩,
      ⟨(some 34), none, .ex (.t 28) 1⟩,
      ⟨(some 8), none, .mv (.t 33)⟩,
      ⟨(some 9), none, .mv (.t 34)⟩])
    (.seq (.reg [⟨(some 36), none, .mv (.t 0)⟩,
       ⟨(some 37), none, .mv (.t 1)⟩,
       ⟨(some 38), none, .call (.fn 23) [.t 36, .t 37]⟩,
       ⟨(some 35), none, .mv (.t 38)⟩,
       ⟨(some 39), none, .ex (.t 35) 0⟩,
       ⟨(some 40), none, .ex (.t 35) 1⟩,
       ⟨(some 10), none, .mv (.t 39)⟩,
       ⟨(some 11), none, .mv (.t 40)⟩])
     (.seq (.seq (.reg [⟨(some 41), none, .mv (.t 9)⟩,
         ⟨(some 42), none, .call (.fn 24) [.t 41]⟩,
         ⟨(some 43), none, .mv (.t 11)⟩,
         ⟨(some 44), none, .bin .neq 3 (.t 42) (.t 43)⟩,
         ⟨(some 45), none, .mv (.t 44)⟩,
         ⟨(some 46), (some (45, false)), .mv (.t 8)⟩,
         ⟨(some 47), (some (45, false)), .bin .eql 48 (.t 46) (.np)⟩,
         ⟨(some 48), (some (45, false)), .mv (.t 11)⟩,
         ⟨(some 49), (some (45, false)), .bin .neq 3 (.t 48) (.i .i64 0)⟩,
         ⟨(some 50), (some (45, false)), .bin .neq 4 (.t 47) (.t 49)⟩,
         ⟨(some 51), none, .pk (.t 45) (.b true) (.t 50)⟩])
       (.cond (.t 51)
        (.seq (.reg [⟨(some 6), none, .mv (.b false)⟩])
         (.ret))
        (.skip)))
      (.seq (.seq (.reg [⟨(some 52), none, .mv (.t 11)⟩,
          ⟨(some 53), none, .bin .neq 3 (.t 52) (.i .i64 0)⟩])
        (.cond (.t 53)
         (.seq (.reg [⟨(some 6), none, .mv (.b true)⟩])
          (.ret))
         (.skip)))
       (.seq (.seq (.reg [⟨(some 12), none, .mv (.i .i64 0)⟩])
         (.block 0 (.loop (.seq (.seq (.reg [⟨(some 54), none, .mv (.t 12)⟩,
               ⟨(some 55), none, .mv (.t 2)⟩,
               ⟨(some 56), none, .bi .len [47] [.t 55]⟩,
               ⟨(some 57), none, .bin .lss 3 (.t 54) (.t 56)⟩])
             (.cond (.t 57)
              (.skip)
              (.exit 0)))
            (.seq (.block 1 (.seq (.reg [⟨(some 60), none, .mv (.t 2)⟩,
                 ⟨(some 61), none, .mv (.t 12)⟩,
                 ⟨(some 62), none, .ia 47 (.t 60) (.t 61)⟩,
                 ⟨(some 63), none, .ld 55 (.t 62)⟩,
                 ⟨(some 13), none, .al 55⟩,
                 ⟨none, none, .st 55 (.t 13) (.t 63)⟩])
               (.seq (.seq (.reg [⟨(some 64), none, .fa 55 (.t 13) 0⟩,
                   ⟨(some 65), none, .ld 3 (.t 64)⟩])
                 (.block 2 (.seq (.reg [⟨(some 67), none, .bin .eql 3 (.t 65) (.i .i64 0)⟩,
                     ⟨(some 66), none, .mv (.t 67)⟩])
                   (.cond (.t 66)
                    (.seq (.drw drw6_0 [⟨(some 68), none, .mv (.t 8)⟩,
                       ⟨(some 69), none, .fa 55 (.t 13) 1⟩,
                       ⟨(some 70), none, .ld 3 (.t 69)⟩,
                       ⟨(some 71), none, .fa 55 (.t 13) 2⟩,
                       ⟨(some 72), none, .ld 3 (.t 71)⟩,
                       ⟨(some 73), none, .call (.fn 25) [.t 68, .t 70, .t 72]⟩,
                       ⟨(some 74), none, .call (.fn 24) [.t 73]⟩,
                       ⟨(some 75), none, .mv (.t 10)⟩,
                       ⟨(some 76), none, .fa 55 (.t 13) 1⟩,
                       ⟨(some 77), none, .ld 3 (.t 76)⟩,
                       ⟨(some 78), none, .fa 55 (.t 13) 2⟩,
                       ⟨(some 79), none, .ld 3 (.t 78)⟩,
                       ⟨(some 80), none, .call (.fn 26) [.t 75, .t 77, .t 79]⟩,
                       ⟨(some 81), none, .bin .neq 3 (.t 74) (.t 80)⟩])
                     (.cond (.t 81)
                      (.seq (.reg [⟨(some 6), none, .mv (.b false)⟩])
                       (.ret))
                      (.skip)))
                    (.seq (.reg [⟨(some 83), none, .bin .eql 3 (.t 65) (.i .i64 1)⟩,
                       ⟨(some 82), none, .mv (.t 83)⟩])
                     (.cond (.t 82)
                      (.seq (.drw drw6_1 [⟨(some 84), none, .mv (.t 8)⟩,
                         ⟨(some 85), none, .fa 55 (.t 13) 2⟩,
                         ⟨(some 86), none, .ld 3 (.t 85)⟩,
                         ⟨(some 87), none, .call (.fn 27) [.t 84, .t 86]⟩,
                         ⟨(some 88), none, .call (.fn 24) [.t 87]⟩,
                         ⟨(some 89), none, .mv (.t 10)⟩,
                         ⟨(some 90), none, .fa 55 (.t 13) 2⟩,
                         ⟨(some 91), none, .ld 3 (.t 90)⟩,
                         ⟨(some 92), none, .call (.fn 28) [.t 89, .t 91]⟩,
                         ⟨(some 93), none, .bin .neq 3 (.t 88) (.t 92)⟩])
                       (.cond (.t 93)
                        (.seq (.reg [⟨(some 6), none, .mv (.b false)⟩])
                         (.ret))
                        (.skip)))
                      (.skip)))))))
                (.seq (.drw drw6_2 [⟨(some 94), none, .mv (.t 8)⟩,
                   ⟨(some 95), none, .fa 55 (.t 13) 1⟩,
                   ⟨(some 96), none, .ld 3 (.t 95)⟩,
                   ⟨(some 97), none, .call (.fn 29) [.t 94, .t 96]⟩,
                   ⟨(some 98), none, .mv (.t 10)⟩,
                   ⟨(some 99), none, .fa 55 (.t 13) 1⟩,
                   ⟨(some 100), none, .ld 3 (.t 99)⟩,
                   ⟨(some 101), none, .call (.fn 30) [.t 98, .t 100]⟩,
                   ⟨(some 102), none, .bin .neq 3 (.t 97) (.t 101)⟩,
                   ⟨(some 103), none, .mv (.t 102)⟩,
                   ⟨(some 104), (some (103, false)), .mv (.t 8)⟩,
                   ⟨(some 105), (some (103, false)), .fa 55 (.t 13) 1⟩,
                   ⟨(some 106), (some (103, false)), .ld 3 (.t 105)⟩,
                   ⟨(some 107), (some (103, false)), .call (.fn 31) [.t 104, .t 106]⟩,
                   ⟨(some 108), (some (103, false)), .mv (.t 10)⟩,
                   ⟨(some 109), (some (103, false)), .fa 55 (.t 13) 1⟩,
                   ⟨(some 110), (some (103, false)), .ld 3 (.t 109)⟩,
                   ⟨(some 111), (some (103, false)), .call (.fn 32) [.t 108, .t 110]⟩,
                   ⟨(some 112), (some (103, false)), .bin .neq 3 (.t 107) (.t 111)⟩,
                   ⟨(some 113), none, .pk (.t 103) (.b true) (.t 112)⟩,
                   ⟨(some 114), none, .mv (.t 113)⟩,
                   ⟨(some 115), (some (114, false)), .mv (.t 8)⟩,
                   ⟨(some 116), (some (114, false)), .fa 55 (.t 13) 2⟩,
                   ⟨(some 117), (some (114, false)), .ld 3 (.t 116)⟩,
                   ⟨(some 118), (some (114, false)), .call (.fn 33) [.t 115, .t 117]⟩,
                   ⟨(some 119), (some (114, false)), .mv (.t 10)⟩,
                   ⟨(some 120), (some (114, false)), .fa 55 (.t 13) 2⟩,
                   ⟨(some 121), (some (114, false)), .ld 3 (.t 120)⟩,
                   ⟨(some 122), (some (114, false)), .call (.fn 34) [.t 119, .t 121]⟩,
                   ⟨(some 123), (some (114, false)), .bin .neq 3 (.t 118) (.t 122)⟩,
                   ⟨(some 124), none, .pk (.t 114) (.b true) (.t 123)⟩])
                 (.cond (.t 124)
                  (.seq (.reg [⟨(some 6), none, .mv (.b false)⟩])
                   (.ret))
                  (.skip))))))
             (.reg [⟨(some 58), none, .mv (.t 12)⟩,
               ⟨(some 59), none, .bin .add 3 (.t 58) (.i .i64 1)⟩,
               ⟨(some 12), none, .mv (.t 59)⟩]))))))
        (.seq (.reg [⟨(some 6), none, .mv (.b true)⟩])
         (.ret)))))))))
theorem b6 : Body Try.prog 6 125 [6] k6 := ⟨Enters.of Try.func6 (by kernel_rfl) (by kernel_rfl), _, _, Try.func6, rfl, by kernel_rfl, rfl, rfl⟩

/-- cartridge/cartridgelaw22.ShelfOne -/
noncomputable def drw7_0 : Array Oper := ((Try.f7.body.map regs).getD []).getD 0 #[]
noncomputable def drw7_1 : Array Oper := ((Try.f7.body.map regs).getD []).getD 1 #[]
noncomputable def k7 : KC :=
 .seq (.reg [⟨(some 6), none, .mv (.b false)⟩])
 (.seq (.reg [⟨(some 17), none, .call (.fn 21) []⟩,
    ⟨(some 7), none, .mv (.t 17)⟩])
  (.seq (.seq (.reg [⟨(some 18), none, .mv (.t 7)⟩,
      ⟨(some 19), none, .un .not (.t 18)⟩,
      ⟨(some 20), none, .mv (.t 19)⟩,
      ⟨(some 21), (some (20, false)), .mv (.t 0)⟩,
      ⟨(some 22), (some (20, false)), .bin .lss 3 (.t 21) (.i .i64 0)⟩,
      ⟨(some 23), none, .pk (.t 20) (.b true) (.t 22)⟩,
      ⟨(some 24), none, .mv (.t 23)⟩,
      ⟨(some 25), (some (24, false)), .mv (.t 0)⟩,
      ⟨(some 26), (some (24, false)), .bin .gtr 3 (.t 25) (.i .i64 30)⟩,
      ⟨(some 27), none, .pk (.t 24) (.b true) (.t 26)⟩,
      ⟨(some 28), none, .mv (.t 27)⟩,
      ⟨(some 29), (some (28, false)), .mv (.t 1)⟩,
      ⟨(some 30), (some (28, false)), .bin .lss 3 (.t 29) (.i .i64 1)⟩,
      ⟨(some 31), none, .pk (.t 28) (.b true) (.t 30)⟩,
      ⟨(some 32), none, .mv (.t 31)⟩,
      ⟨(some 33), (some (32, false)), .mv (.t 1)⟩,
      ⟨(some 34), (some (32, false)), .bin .gtr 3 (.t 33) (.i .i64 4)⟩,
      ⟨(some 35), none, .pk (.t 32) (.b true) (.t 34)⟩,
      ⟨(some 36), none, .mv (.t 35)⟩,
      ⟨(some 37), (some (36, false)), .mv (.t 2)⟩,
      ⟨(some 38), (some (36, false)), .bi .len [47] [.t 37]⟩,
      ⟨(some 39), (some (36, false)), .bin .gtr 3 (.t 38) (.i .i64 100)⟩,
      ⟨(some 40), none, .pk (.t 36) (.b true) (.t 39)⟩])
    (.cond (.t 40)
     (.seq (.reg [⟨(some 41), none, .mv (.t 7)⟩,
        ⟨(some 6), none, .mv (.t 41)⟩])
      (.ret))
     (.skip)))
   (.seq (.reg [⟨(some 8), none, .mv (.ns)⟩])
    (.seq (.seq (.reg [⟨(some 9), none, .mv (.i .i64 0)⟩])
      (.block 0 (.loop (.seq (.seq (.reg [⟨(some 42), none, .mv (.t 9)⟩,
            ⟨(some 43), none, .mv (.t 0)⟩,
            ⟨(some 44), none, .bin .lss 3 (.t 42) (.t 43)⟩])
          (.cond (.t 44)
           (.skip)
           (.exit 0)))
         (.seq (.block 1 (.reg [⟨(some 47), none, .mv (.t 8)⟩,
             ⟨(some 48), none, .mv (.t 9)⟩,
             ⟨(some 49), none, .bin .add 3 (.i .i64 10) (.t 48)⟩,
             ⟨(some 50), none, .bsl 22 1 [(0, .t 49)]⟩,
             ⟨(some 51), none, .bi .append [22, 22] [.t 47, .t 50]⟩,
             ⟨(some 8), none, .mv (.t 51)⟩]))
          (.reg [⟨(some 45), none, .mv (.t 9)⟩,
            ⟨(some 46), none, .bin .add 3 (.t 45) (.i .i64 1)⟩,
            ⟨(some 9), none, .mv (.t 46)⟩]))))))
     (.seq (.reg [⟨(some 53), none, .mv (.t 8)⟩,
        ⟨(some 54), none, .mv (.t 1)⟩,
        ⟨(some 55), none, .call (.fn 22) [.t 53, .t 54]⟩,
        ⟨(some 52), none, .mv (.t 55)⟩,
        ⟨(some 56), none, .ex (.t 52) 0⟩,
        ⟨(some 57), none, .ex (.t 52) 1⟩,
        ⟨(some 10), none, .mv (.t 56)⟩,
        ⟨(some 11), none, .mv (.t 57)⟩])
      (.seq (.seq (.reg [⟨(some 58), none, .mv (.t 11)⟩,
          ⟨(some 59), none, .call (.fn 24) [.t 58]⟩,
          ⟨(some 60), none, .bin .neq 3 (.t 59) (.i .i64 0)⟩,
          ⟨(some 61), none, .mv (.t 60)⟩,
          ⟨(some 62), (some (61, false)), .mv (.t 10)⟩,
          ⟨(some 63), (some (61, false)), .bin .eql 48 (.t 62) (.np)⟩,
          ⟨(some 64), none, .pk (.t 61) (.b true) (.t 63)⟩])
        (.cond (.t 64)
         (.seq (.reg [⟨(some 6), none, .mv (.b false)⟩])
          (.ret))
         (.skip)))
       (.seq (.seq (.reg [⟨(some 12), none, .mv (.i .i64 0)⟩])
         (.block 2 (.loop (.seq (.seq (.reg [⟨(some 65), none, .mv (.t 12)⟩,
               ⟨(some 66), none, .mv (.t 2)⟩,
               ⟨(some 67), none, .bi .len [47] [.t 66]⟩,
               ⟨(some 68), none, .bin .lss 3 (.t 65) (.t 67)⟩])
             (.cond (.t 68)
              (.skip)
              (.exit 2)))
            (.seq (.block 3 (.seq (.seq (.reg [⟨(some 71), none, .mv (.t 2)⟩,
                  ⟨(some 72), none, .mv (.t 12)⟩,
                  ⟨(some 73), none, .ia 47 (.t 71) (.t 72)⟩,
                  ⟨(some 74), none, .fa 55 (.t 73) 0⟩,
                  ⟨(some 75), none, .ld 3 (.t 74)⟩,
                  ⟨(some 76), none, .bin .eql 3 (.t 75) (.i .i64 0)⟩])
                (.cond (.t 76)
                 (.drw drw7_0 [⟨(some 77), none, .mv (.t 10)⟩,
                   ⟨(some 78), none, .mv (.t 2)⟩,
                   ⟨(some 79), none, .mv (.t 12)⟩,
                   ⟨(some 80), none, .ia 47 (.t 78) (.t 79)⟩,
                   ⟨(some 81), none, .fa 55 (.t 80) 1⟩,
                   ⟨(some 82), none, .ld 3 (.t 81)⟩,
                   ⟨(some 83), none, .call (.fn 35) [.t 82, .i .i64 0, .i .i64 40]⟩,
                   ⟨(some 84), none, .bin .add 3 (.i .i64 10) (.t 83)⟩,
                   ⟨(some 85), none, .mv (.t 2)⟩,
                   ⟨(some 86), none, .mv (.t 12)⟩,
                   ⟨(some 87), none, .ia 47 (.t 85) (.t 86)⟩,
                   ⟨(some 88), none, .fa 55 (.t 87) 2⟩,
                   ⟨(some 89), none, .ld 3 (.t 88)⟩,
                   ⟨(some 90), none, .call (.fn 25) [.t 77, .t 84, .t 89]⟩])
                 (.reg [⟨(some 91), none, .mv (.t 10)⟩,
                   ⟨(some 92), none, .mv (.t 2)⟩,
                   ⟨(some 93), none, .mv (.t 12)⟩,
                   ⟨(some 94), none, .ia 47 (.t 92) (.t 93)⟩,
                   ⟨(some 95), none, .fa 55 (.t 94) 2⟩,
                   ⟨(some 96), none, .ld 3 (.t 95)⟩,
                   ⟨(some 97), none, .call (.fn 27) [.t 91, .t 96]⟩])))
               (.seq (.seq (.reg [⟨(some 13), none, .mv (.i .i64 0)⟩])
                 (.block 4 (.loop (.seq (.seq (.reg [⟨(some 98), none, .mv (.t 13)⟩,
                       ⟨(some 99), none, .mv (.t 0)⟩,
                       ⟨(some 100), none, .bin .lss 3 (.t 98) (.t 99)⟩])
                     (.cond (.t 100)
                      (.skip)
                      (.exit 4)))
                    (.seq (.block 5 (.seq (.reg [⟨(some 103), none, .mv (.t 10)⟩,
                         ⟨(some 104), none, .mv (.t 8)⟩,
                         ⟨(some 105), none, .mv (.t 13)⟩,
                         ⟨(some 106), none, .ia 22 (.t 104) (.t 105)⟩,
                         ⟨(some 107), none, .ld 3 (.t 106)⟩,
                         ⟨(some 108), none, .call (.fn 31) [.t 103, .t 107]⟩,
                         ⟨(some 14), none, .mv (.t 108)⟩])
                       (.seq (.drw drw7_1 [⟨(some 109), none, .mv (.t 10)⟩,
                          ⟨(some 110), none, .mv (.t 8)⟩,
                          ⟨(some 111), none, .mv (.t 13)⟩,
                          ⟨(some 112), none, .ia 22 (.t 110) (.t 111)⟩,
                          ⟨(some 113), none, .ld 3 (.t 112)⟩,
                          ⟨(some 114), none, .call (.fn 29) [.t 109, .t 113]⟩,
                          ⟨(some 115), none, .mv (.t 13)⟩,
                          ⟨(some 116), none, .bin .eql 3 (.t 114) (.t 115)⟩,
                          ⟨(some 117), none, .mv (.t 14)⟩,
                          ⟨(some 118), none, .bin .eql 3 (.t 117) (.i .i64 (-1))⟩,
                          ⟨(some 119), none, .bin .neq 4 (.t 116) (.t 118)⟩,
                          ⟨(some 120), none, .mv (.t 119)⟩,
                          ⟨(some 121), (some (120, false)), .mv (.t 14)⟩,
                          ⟨(some 122), (some (120, false)), .bin .geq 3 (.t 121) (.i .i64 0)⟩,
                          ⟨(some 123), (some (120, false)), .mv (.t 122)⟩,
                          ⟨(some 124), (some (123, true)), .mv (.t 10)⟩,
                          ⟨(some 125), (some (123, true)), .mv (.t 14)⟩,
                          ⟨(some 126), (some (123, true)), .call (.fn 33) [.t 124, .t 125]⟩,
                          ⟨(some 127), (some (123, true)), .mv (.t 8)⟩,
                          ⟨(some 128), (some (123, true)), .mv (.t 13)⟩,
                          ⟨(some 129), (some (123, true)), .ia 22 (.t 127) (.t 128)⟩,
                          ⟨(some 130), (some (123, true)), .ld 3 (.t 129)⟩,
                          ⟨(some 131), (some (123, true)), .bin .neq 3 (.t 126) (.t 130)⟩,
                          ⟨(some 132), (some (120, false)), .pk (.t 123) (.t 131) (.b false)⟩,
                          ⟨(some 133), none, .pk (.t 120) (.b true) (.t 132)⟩,
                          ⟨(some 134), none, .mv (.t 133)⟩,
                          ⟨(some 135), (some (134, false)), .mv (.t 10)⟩,
                          ⟨(some 136), (some (134, false)), .mv (.t 8)⟩,
                          ⟨(some 137), (some (134, false)), .mv (.t 13)⟩,
                          ⟨(some 138), (some (134, false)), .ia 22 (.t 136) (.t 137)⟩,
                          ⟨(some 139), (some (134, false)), .ld 3 (.t 138)⟩,
                          ⟨(some 140), (some (134, false)), .call (.fn 29) [.t 135, .t 139]⟩,
                          ⟨(some 141), (some (134, false)), .bin .geq 3 (.t 140) (.i .i64 0)⟩,
                          ⟨(some 142), (some (134, false)), .mv (.t 141)⟩,
                          ⟨(some 143), (some (142, true)), .mv (.t 14)⟩,
                          ⟨(some 144), (some (142, true)), .bin .geq 3 (.t 143) (.i .i64 0)⟩,
                          ⟨(some 145), (some (134, false)), .pk (.t 142) (.t 144) (.b false)⟩,
                          ⟨(some 146), none, .pk (.t 134) (.b true) (.t 145)⟩])
                        (.cond (.t 146)
                         (.seq (.reg [⟨(some 6), none, .mv (.b false)⟩])
                          (.ret))
                         (.skip)))))
                     (.reg [⟨(some 101), none, .mv (.t 13)⟩,
                       ⟨(some 102), none, .bin .add 3 (.t 101) (.i .i64 1)⟩,
                       ⟨(some 13), none, .mv (.t 102)⟩]))))))
                (.seq (.reg [⟨(some 15), none, .mv (.i .i64 0)⟩])
                 (.block 6 (.loop (.seq (.seq (.reg [⟨(some 147), none, .mv (.t 15)⟩,
                       ⟨(some 148), none, .mv (.t 1)⟩,
                       ⟨(some 149), none, .bin .lss 3 (.t 147) (.t 148)⟩])
                     (.cond (.t 149)
                      (.skip)
                      (.exit 6)))
                    (.seq (.block 7 (.seq (.reg [⟨(some 152), none, .mv (.t 10)⟩,
                         ⟨(some 153), none, .mv (.t 15)⟩,
                         ⟨(some 154), none, .call (.fn 33) [.t 152, .t 153]⟩,
                         ⟨(some 16), none, .mv (.t 154)⟩])
                       (.seq (.reg [⟨(some 155), none, .mv (.t 16)⟩,
                          ⟨(some 156), none, .bin .neq 3 (.t 155) (.i .i64 0)⟩,
                          ⟨(some 157), none, .mv (.t 156)⟩,
                          ⟨(some 158), (some (157, true)), .mv (.t 10)⟩,
                          ⟨(some 159), (some (157, true)), .mv (.t 16)⟩,
                          ⟨(some 160), (some (157, true)), .call (.fn 31) [.t 158, .t 159]⟩,
                          ⟨(some 161), (some (157, true)), .mv (.t 15)⟩,
                          ⟨(some 162), (some (157, true)), .bin .neq 3 (.t 160) (.t 161)⟩,
                          ⟨(some 163), none, .pk (.t 157) (.t 162) (.b false)⟩])
                        (.cond (.t 163)
                         (.seq (.reg [⟨(some 6), none, .mv (.b false)⟩])
                          (.ret))
                         (.skip)))))
                     (.reg [⟨(some 150), none, .mv (.t 15)⟩,
                       ⟨(some 151), none, .bin .add 3 (.t 150) (.i .i64 1)⟩,
                       ⟨(some 15), none, .mv (.t 151)⟩])))))))))
             (.reg [⟨(some 69), none, .mv (.t 12)⟩,
               ⟨(some 70), none, .bin .add 3 (.t 69) (.i .i64 1)⟩,
               ⟨(some 12), none, .mv (.t 70)⟩]))))))
        (.seq (.reg [⟨(some 6), none, .mv (.b true)⟩])
         (.ret)))))))))
theorem b7 : Body Try.prog 7 164 [6] k7 := ⟨Enters.of Try.func7 (by kernel_rfl) (by kernel_rfl), _, _, Try.func7, rfl, by kernel_rfl, rfl, rfl⟩

/-- cartridge/cartridgelaw22.ShelfBack -/
def k8 : KC :=
 .seq (.reg [⟨(some 8), none, .mv (.b false)⟩])
 (.seq (.reg [⟨(some 20), none, .call (.fn 21) []⟩,
    ⟨(some 9), none, .mv (.t 20)⟩])
  (.seq (.seq (.reg [⟨(some 21), none, .mv (.t 9)⟩,
      ⟨(some 22), none, .un .not (.t 21)⟩,
      ⟨(some 23), none, .mv (.t 22)⟩,
      ⟨(some 24), (some (23, false)), .mv (.t 0)⟩,
      ⟨(some 25), (some (23, false)), .bin .lss 3 (.t 24) (.i .i64 1)⟩,
      ⟨(some 26), none, .pk (.t 23) (.b true) (.t 25)⟩,
      ⟨(some 27), none, .mv (.t 26)⟩,
      ⟨(some 28), (some (27, false)), .mv (.t 0)⟩,
      ⟨(some 29), (some (27, false)), .bin .gtr 3 (.t 28) (.i .i64 30)⟩,
      ⟨(some 30), none, .pk (.t 27) (.b true) (.t 29)⟩,
      ⟨(some 31), none, .mv (.t 30)⟩,
      ⟨(some 32), (some (31, false)), .mv (.t 1)⟩,
      ⟨(some 33), (some (31, false)), .bin .lss 3 (.t 32) (.i .i64 0)⟩,
      ⟨(some 34), none, .pk (.t 31) (.b true) (.t 33)⟩,
      ⟨(some 35), none, .mv (.t 34)⟩,
      ⟨(some 36), (some (35, false)), .mv (.t 1)⟩,
      ⟨(some 37), (some (35, false)), .mv (.t 0)⟩,
      ⟨(some 38), (some (35, false)), .bin .geq 3 (.t 36) (.t 37)⟩,
      ⟨(some 39), none, .pk (.t 35) (.b true) (.t 38)⟩,
      ⟨(some 40), none, .mv (.t 39)⟩,
      ⟨(some 41), (some (40, false)), .mv (.t 2)⟩,
      ⟨(some 42), (some (40, false)), .bin .lss 3 (.t 41) (.i .i64 1)⟩,
      ⟨(some 43), none, .pk (.t 40) (.b true) (.t 42)⟩,
      ⟨(some 44), none, .mv (.t 43)⟩,
      ⟨(some 45), (some (44, false)), .mv (.t 2)⟩,
      ⟨(some 46), (some (44, false)), .bin .gtr 3 (.t 45) (.i .i64 4)⟩,
      ⟨(some 47), none, .pk (.t 44) (.b true) (.t 46)⟩,
      ⟨(some 48), none, .mv (.t 47)⟩,
      ⟨(some 49), (some (48, false)), .mv (.t 3)⟩,
      ⟨(some 50), (some (48, false)), .bin .lss 3 (.t 49) (.i .i64 0)⟩,
      ⟨(some 51), none, .pk (.t 48) (.b true) (.t 50)⟩,
      ⟨(some 52), none, .mv (.t 51)⟩,
      ⟨(some 53), (some (52, false)), .mv (.t 3)⟩,
      ⟨(some 54), (some (52, false)), .mv (.t 2)⟩,
      ⟨(some 55), (some (52, false)), .bin .geq 3 (.t 53) (.t 54)⟩,
      ⟨(some 56), none, .pk (.t 52) (.b true) (.t 55)⟩])
    (.cond (.t 56)
     (.seq (.reg [⟨(some 57), none, .mv (.t 9)⟩,
        ⟨(some 8), none, .mv (.t 57)⟩])
      (.ret))
     (.skip)))
   (.seq (.reg [⟨(some 10), none, .mv (.ns)⟩])
    (.seq (.seq (.reg [⟨(some 11), none, .mv (.i .i64 0)⟩])
      (.block 0 (.loop (.seq (.seq (.reg [⟨(some 58), none, .mv (.t 11)⟩,
            ⟨(some 59), none, .mv (.t 0)⟩,
            ⟨(some 60), none, .bin .lss 3 (.t 58) (.t 59)⟩])
          (.cond (.t 60)
           (.skip)
           (.exit 0)))
         (.seq (.block 1 (.reg [⟨(some 63), none, .mv (.t 10)⟩,
             ⟨(some 64), none, .mv (.t 11)⟩,
             ⟨(some 65), none, .bin .mul 3 (.i .i64 7) (.t 64)⟩,
             ⟨(some 66), none, .bin .add 3 (.t 65) (.i .i64 3)⟩,
             ⟨(some 67), none, .bsl 22 1 [(0, .t 66)]⟩,
             ⟨(some 68), none, .bi .append [22, 22] [.t 63, .t 67]⟩,
             ⟨(some 10), none, .mv (.t 68)⟩]))
          (.reg [⟨(some 61), none, .mv (.t 11)⟩,
            ⟨(some 62), none, .bin .add 3 (.t 61) (.i .i64 1)⟩,
            ⟨(some 11), none, .mv (.t 62)⟩]))))))
     (.seq (.reg [⟨(some 70), none, .mv (.t 10)⟩,
        ⟨(some 71), none, .mv (.t 2)⟩,
        ⟨(some 72), none, .call (.fn 22) [.t 70, .t 71]⟩,
        ⟨(some 69), none, .mv (.t 72)⟩,
        ⟨(some 73), none, .ex (.t 69) 0⟩,
        ⟨(some 74), none, .ex (.t 69) 1⟩,
        ⟨(some 12), none, .mv (.t 73)⟩,
        ⟨(some 13), none, .mv (.t 74)⟩])
      (.seq (.seq (.reg [⟨(some 75), none, .mv (.t 13)⟩,
          ⟨(some 76), none, .call (.fn 24) [.t 75]⟩,
          ⟨(some 77), none, .bin .neq 3 (.t 76) (.i .i64 0)⟩,
          ⟨(some 78), none, .mv (.t 77)⟩,
          ⟨(some 79), (some (78, false)), .mv (.t 12)⟩,
          ⟨(some 80), (some (78, false)), .bin .eql 48 (.t 79) (.np)⟩,
          ⟨(some 81), none, .pk (.t 78) (.b true) (.t 80)⟩])
        (.cond (.t 81)
         (.seq (.reg [⟨(some 8), none, .mv (.b false)⟩])
          (.ret))
         (.skip)))
       (.seq (.reg [⟨(some 82), none, .mv (.t 12)⟩,
          ⟨(some 83), none, .mv (.t 3)⟩,
          ⟨(some 84), none, .call (.fn 27) [.t 82, .t 83]⟩,
          ⟨(some 14), none, .mv (.t 84)⟩])
        (.seq (.reg [⟨(some 85), none, .mv (.t 12)⟩,
           ⟨(some 86), none, .mv (.t 10)⟩,
           ⟨(some 87), none, .mv (.t 1)⟩,
           ⟨(some 88), none, .ia 22 (.t 86) (.t 87)⟩,
           ⟨(some 89), none, .ld 3 (.t 88)⟩,
           ⟨(some 90), none, .mv (.t 3)⟩,
           ⟨(some 91), none, .call (.fn 25) [.t 85, .t 89, .t 90]⟩,
           ⟨(some 15), none, .mv (.t 91)⟩])
         (.seq (.reg [⟨(some 92), none, .mv (.t 12)⟩,
            ⟨(some 93), none, .mv (.t 10)⟩,
            ⟨(some 94), none, .mv (.t 1)⟩,
            ⟨(some 95), none, .ia 22 (.t 93) (.t 94)⟩,
            ⟨(some 96), none, .ld 3 (.t 95)⟩,
            ⟨(some 97), none, .mv (.t 3)⟩,
            ⟨(some 98), none, .call (.fn 25) [.t 92, .t 96, .t 97]⟩,
            ⟨(some 16), none, .mv (.t 98)⟩])
          (.seq (.reg [⟨(some 99), none, .mv (.t 12)⟩,
             ⟨(some 100), none, .mv (.t 3)⟩,
             ⟨(some 101), none, .call (.fn 33) [.t 99, .t 100]⟩,
             ⟨(some 17), none, .mv (.t 101)⟩])
           (.seq (.reg [⟨(some 102), none, .mv (.t 12)⟩,
              ⟨(some 103), none, .mv (.t 10)⟩,
              ⟨(some 104), none, .mv (.t 1)⟩,
              ⟨(some 105), none, .ia 22 (.t 103) (.t 104)⟩,
              ⟨(some 106), none, .ld 3 (.t 105)⟩,
              ⟨(some 107), none, .call (.fn 29) [.t 102, .t 106]⟩,
              ⟨(some 18), none, .mv (.t 107)⟩])
            (.seq (.reg [⟨(some 108), none, .mv (.t 12)⟩,
               ⟨(some 109), none, .mv (.t 3)⟩,
               ⟨(some 110), none, .call (.fn 27) [.t 108, .t 109]⟩,
               ⟨(some 19), none, .mv (.t 110)⟩])
             (.seq (.reg [⟨(some 111), none, .mv (.t 14)⟩,
                ⟨(some 112), none, .call (.fn 24) [.t 111]⟩,
                ⟨(some 113), none, .bin .eql 3 (.t 112) (.i .i64 11)⟩,
                ⟨(some 114), none, .mv (.t 113)⟩,
                ⟨(some 115), (some (114, true)), .mv (.t 15)⟩,
                ⟨(some 116), (some (114, true)), .call (.fn 24) [.t 115]⟩,
                ⟨(some 117), (some (114, true)), .bin .eql 3 (.t 116) (.i .i64 0)⟩,
                ⟨(some 118), none, .pk (.t 114) (.t 117) (.b false)⟩,
                ⟨(some 119), none, .mv (.t 118)⟩,
                ⟨(some 120), (some (119, true)), .mv (.t 16)⟩,
                ⟨(some 121), (some (119, true)), .call (.fn 24) [.t 120]⟩,
                ⟨(some 122), (some (119, true)), .bin .eql 3 (.t 121) (.i .i64 11)⟩,
                ⟨(some 123), none, .pk (.t 119) (.t 122) (.b false)⟩,
                ⟨(some 124), none, .mv (.t 123)⟩,
                ⟨(some 125), (some (124, true)), .mv (.t 17)⟩,
                ⟨(some 126), (some (124, true)), .mv (.t 10)⟩,
                ⟨(some 127), (some (124, true)), .mv (.t 1)⟩,
                ⟨(some 128), (some (124, true)), .ia 22 (.t 126) (.t 127)⟩,
                ⟨(some 129), (some (124, true)), .ld 3 (.t 128)⟩,
                ⟨(some 130), (some (124, true)), .bin .eql 3 (.t 125) (.t 129)⟩,
                ⟨(some 131), none, .pk (.t 124) (.t 130) (.b false)⟩,
                ⟨(some 132), none, .mv (.t 131)⟩,
                ⟨(some 133), (some (132, true)), .mv (.t 18)⟩,
                ⟨(some 134), (some (132, true)), .bin .eql 3 (.t 133) (.i .i64 (-1))⟩,
                ⟨(some 135), none, .pk (.t 132) (.t 134) (.b false)⟩,
                ⟨(some 136), none, .mv (.t 135)⟩,
                ⟨(some 137), (some (136, true)), .mv (.t 19)⟩,
                ⟨(some 138), (some (136, true)), .call (.fn 24) [.t 137]⟩,
                ⟨(some 139), (some (136, true)), .bin .eql 3 (.t 138) (.i .i64 0)⟩,
                ⟨(some 140), none, .pk (.t 136) (.t 139) (.b false)⟩,
                ⟨(some 141), none, .mv (.t 140)⟩,
                ⟨(some 142), (some (141, true)), .mv (.t 12)⟩,
                ⟨(some 143), (some (141, true)), .mv (.t 10)⟩,
                ⟨(some 144), (some (141, true)), .mv (.t 1)⟩,
                ⟨(some 145), (some (141, true)), .ia 22 (.t 143) (.t 144)⟩,
                ⟨(some 146), (some (141, true)), .ld 3 (.t 145)⟩,
                ⟨(some 147), (some (141, true)), .call (.fn 29) [.t 142, .t 146]⟩,
                ⟨(some 148), (some (141, true)), .mv (.t 1)⟩,
                ⟨(some 149), (some (141, true)), .bin .eql 3 (.t 147) (.t 148)⟩,
                ⟨(some 150), none, .pk (.t 141) (.t 149) (.b false)⟩,
                ⟨(some 151), none, .mv (.t 150)⟩,
                ⟨(some 152), (some (151, true)), .mv (.t 12)⟩,
                ⟨(some 153), (some (151, true)), .mv (.t 3)⟩,
                ⟨(some 154), (some (151, true)), .call (.fn 33) [.t 152, .t 153]⟩,
                ⟨(some 155), (some (151, true)), .bin .eql 3 (.t 154) (.i .i64 0)⟩,
                ⟨(some 156), none, .pk (.t 151) (.t 155) (.b false)⟩,
                ⟨(some 157), none, .mv (.t 156)⟩,
                ⟨(some 158), (some (157, true)), .mv (.t 12)⟩,
                ⟨(some 159), (some (157, true)), .mv (.t 10)⟩,
                ⟨(some 160), (some (157, true)), .mv (.t 1)⟩,
                ⟨(some 161), (some (157, true)), .ia 22 (.t 159) (.t 160)⟩,
                ⟨(some 162), (some (157, true)), .ld 3 (.t 161)⟩,
                ⟨(some 163), (some (157, true)), .call (.fn 31) [.t 158, .t 162]⟩,
                ⟨(some 164), (some (157, true)), .bin .eql 3 (.t 163) (.i .i64 (-1))⟩,
                ⟨(some 165), none, .pk (.t 157) (.t 164) (.b false)⟩,
                ⟨(some 8), none, .mv (.t 165)⟩])
              (.ret))))))))))))))
theorem b8 : Body Try.prog 8 166 [8] k8 := ⟨Enters.of Try.func8 (by kernel_rfl) (by kernel_rfl), _, _, Try.func8, rfl, by kernel_rfl, rfl, rfl⟩

/-- cartridge/cartridgelaw12.alive -/
def k9 : KC :=
 .seq (.reg [⟨(some 0), none, .mv (.b false)⟩])
 (.seq (.reg [⟨(some 4), none, .bsl 22 1 [(0, .i .i64 3)]⟩,
    ⟨(some 5), none, .call (.fn 10) [.t 4, .i .i64 5]⟩,
    ⟨(some 3), none, .mv (.t 5)⟩,
    ⟨(some 6), none, .ex (.t 3) 0⟩,
    ⟨(some 7), none, .ex (.t 3) 1⟩,
    ⟨(some 1), none, .mv (.t 6)⟩,
    ⟨(some 2), none, .mv (.t 7)⟩])
  (.seq (.reg [⟨(some 8), none, .call (.fn 14) [.i .i64 3]⟩,
     ⟨(some 9), none, .bin .eql 3 (.t 8) (.i .i64 64)⟩,
     ⟨(some 10), none, .mv (.t 9)⟩,
     ⟨(some 11), (some (10, true)), .mv (.t 2)⟩,
     ⟨(some 12), (some (10, true)), .call (.fn 13) [.t 11]⟩,
     ⟨(some 13), (some (10, true)), .bin .eql 3 (.t 12) (.i .i64 0)⟩,
     ⟨(some 14), none, .pk (.t 10) (.t 13) (.b false)⟩,
     ⟨(some 15), none, .mv (.t 14)⟩,
     ⟨(some 16), (some (15, true)), .mv (.t 1)⟩,
     ⟨(some 17), (some (15, true)), .bi .len [24] [.t 16]⟩,
     ⟨(some 18), (some (15, true)), .bin .eql 3 (.t 17) (.i .i64 1)⟩,
     ⟨(some 19), none, .pk (.t 15) (.t 18) (.b false)⟩,
     ⟨(some 20), none, .mv (.t 19)⟩,
     ⟨(some 21), (some (20, true)), .mv (.t 1)⟩,
     ⟨(some 22), (some (20, true)), .ia 24 (.t 21) (.i .i64 0)⟩,
     ⟨(some 23), (some (20, true)), .ld 32 (.t 22)⟩,
     ⟨(some 24), (some (20, true)), .bld 32 [(2, .i .i64 5)]⟩,
     ⟨(some 25), (some (20, true)), .bin .eql 32 (.t 23) (.t 24)⟩,
     ⟨(some 26), none, .pk (.t 20) (.t 25) (.b false)⟩,
     ⟨(some 0), none, .mv (.t 26)⟩])
   (.ret)))
theorem b9 : Body Try.prog 9 27 [0] k9 := ⟨Enters.of Try.func9 (by kernel_rfl) (by kernel_rfl), _, _, Try.func9, rfl, by kernel_rfl, rfl, rfl⟩

/-- cartridge/span.Plan -/
def k10 : KC :=
 .seq (.reg [⟨(some 4), none, .mv (.ns)⟩,
   ⟨(some 5), none, .mv (.i .i64 0)⟩])
 (.seq (.seq (.reg [⟨(some 11), none, .mv (.t 1)⟩,
     ⟨(some 12), none, .bin .lss 3 (.t 11) (.i .i64 0)⟩,
     ⟨(some 13), none, .mv (.t 12)⟩,
     ⟨(some 14), (some (13, false)), .mv (.t 1)⟩,
     ⟨(some 15), (some (13, false)), .bin .gtr 3 (.t 14) (.i .i64 4000)⟩,
     ⟨(some 16), none, .pk (.t 13) (.b true) (.t 15)⟩])
   (.cond (.t 16)
    (.seq (.reg [⟨(some 4), none, .mv (.ns)⟩,
       ⟨(some 5), none, .mv (.i .i64 1)⟩])
     (.ret))
    (.skip)))
  (.seq (.reg [⟨(some 6), none, .mv (.ns)⟩])
   (.seq (.reg [⟨(some 7), none, .mv (.i .i64 0)⟩])
    (.seq (.seq (.reg [⟨(some 17), none, .mv (.t 0)⟩,
        ⟨(some 18), none, .bi .len [22] [.t 17]⟩,
        ⟨(some 19), none, .mv (.i .i64 0)⟩])
      (.block 0 (.loop (.seq (.reg [⟨(some 20), none, .bin .lss 3 (.t 19) (.t 18)⟩])
         (.seq (.cond (.t 20)
           (.skip)
           (.exit 0))
          (.seq (.block 1 (.seq (.reg [⟨(some 21), none, .mv (.t 19)⟩,
               ⟨(some 22), none, .ia 22 (.t 17) (.t 19)⟩,
               ⟨(some 23), none, .ld 3 (.t 22)⟩,
               ⟨(some 8), none, .mv (.t 21)⟩,
               ⟨(some 9), none, .mv (.t 23)⟩])
             (.seq (.reg [⟨(some 24), none, .mv (.t 9)⟩,
                ⟨(some 25), none, .call (.fn 14) [.t 24]⟩,
                ⟨(some 26), none, .mv (.t 1)⟩,
                ⟨(some 27), none, .mv (.t 7)⟩,
                ⟨(some 28), none, .bin .sub 3 (.t 26) (.t 27)⟩,
                ⟨(some 29), none, .bi .min [3, 3] [.t 25, .t 28]⟩,
                ⟨(some 10), none, .mv (.t 29)⟩])
              (.seq (.seq (.reg [⟨(some 30), none, .mv (.t 10)⟩,
                  ⟨(some 31), none, .bin .eql 3 (.t 30) (.i .i64 0)⟩,
                  ⟨(some 32), none, .mv (.t 31)⟩,
                  ⟨(some 33), (some (32, true)), .mv (.t 1)⟩,
                  ⟨(some 34), (some (32, true)), .bin .gtr 3 (.t 33) (.i .i64 0)⟩,
                  ⟨(some 35), (some (32, true)), .mv (.t 34)⟩,
                  ⟨(some 36), (some (35, false)), .mv (.t 9)⟩,
                  ⟨(some 37), (some (35, false)), .bin .lss 3 (.t 36) (.i .i64 2)⟩,
                  ⟨(some 38), (some (32, true)), .pk (.t 35) (.b true) (.t 37)⟩,
                  ⟨(some 39), none, .pk (.t 32) (.t 38) (.b false)⟩])
                (.cond (.t 39)
                 (.exit 1)
                 (.skip)))
               (.seq (.reg [⟨(some 40), none, .mv (.t 6)⟩,
                  ⟨(some 41), none, .mv (.t 8)⟩,
                  ⟨(some 42), none, .mv (.t 7)⟩,
                  ⟨(some 43), none, .mv (.t 10)⟩,
                  ⟨(some 44), none, .bld 32 [(0, .t 41), (1, .t 42), (2, .t 43)]⟩,
                  ⟨(some 45), none, .bsl 24 1 [(0, .t 44)]⟩,
                  ⟨(some 46), none, .bi .append [24, 24] [.t 40, .t 45]⟩,
                  ⟨(some 6), none, .mv (.t 46)⟩])
                (.seq (.reg [⟨(some 47), none, .mv (.t 7)⟩,
                   ⟨(some 48), none, .mv (.t 10)⟩,
                   ⟨(some 49), none, .bin .add 3 (.t 47) (.t 48)⟩,
                   ⟨(some 7), none, .mv (.t 49)⟩])
                 (.seq (.reg [⟨(some 50), none, .mv (.t 7)⟩,
                    ⟨(some 51), none, .mv (.t 1)⟩,
                    ⟨(some 52), none, .bin .eql 3 (.t 50) (.t 51)⟩])
                  (.cond (.t 52)
                   (.seq (.reg [⟨(some 53), none, .mv (.t 6)⟩,
                      ⟨(some 4), none, .mv (.t 53)⟩,
                      ⟨(some 5), none, .mv (.i .i64 0)⟩])
                    (.ret))
                   (.skip)))))))))
           (.reg [⟨(some 54), none, .bin .add 3 (.t 19) (.i .i64 1)⟩,
             ⟨(some 19), none, .mv (.t 54)⟩])))))))
     (.seq (.reg [⟨(some 4), none, .mv (.ns)⟩,
        ⟨(some 5), none, .mv (.i .i64 7)⟩])
      (.ret))))))
theorem b10 : Body Try.prog 10 55 [4, 5] k10 := ⟨Enters.of Try.func10 (by kernel_rfl) (by kernel_rfl), _, _, Try.func10, rfl, by kernel_rfl, rfl, rfl⟩

/-- cartridge/cartridgeref10.Fits -/
def k11 : KC :=
 .seq (.reg [⟨(some 2), none, .mv (.i .i64 0)⟩])
 (.seq (.block 0 (.seq (.reg [⟨(some 4), none, .mv (.t 0)⟩,
      ⟨(some 5), none, .bin .lss 3 (.t 4) (.i .i64 3)⟩,
      ⟨(some 3), none, .mv (.t 5)⟩])
    (.cond (.t 3)
     (.seq (.reg [⟨(some 2), none, .mv (.i .i64 0)⟩])
      (.ret))
     (.seq (.reg [⟨(some 7), none, .mv (.t 0)⟩,
        ⟨(some 8), none, .bin .gtr 3 (.t 7) (.i .i64 1099511627776)⟩,
        ⟨(some 6), none, .mv (.t 8)⟩])
      (.cond (.t 6)
       (.seq (.reg [⟨(some 2), none, .mv (.i .i64 70368744177536)⟩])
        (.ret))
       (.skip))))))
  (.seq (.reg [⟨(some 9), none, .mv (.t 0)⟩,
     ⟨(some 10), none, .bin .sub 3 (.t 9) (.i .i64 2)⟩,
     ⟨(some 11), none, .bin .mul 3 (.i .i64 64) (.t 10)⟩,
     ⟨(some 2), none, .mv (.t 11)⟩])
   (.ret)))
theorem b11 : Body Try.prog 11 12 [2] k11 := ⟨Enters.of Try.func11 (by kernel_rfl) (by kernel_rfl), _, _, Try.func11, rfl, by kernel_rfl, rfl, rfl⟩

/-- cartridge/cartridgelaw12.small -/
def k12 : KC :=
 .seq (.reg [⟨(some 2), none, .mv (.ns)⟩])
 (.seq (.reg [⟨(some 3), none, .mv (.ns)⟩])
  (.seq (.seq (.reg [⟨(some 4), none, .mv (.i .i64 0)⟩])
    (.block 0 (.loop (.seq (.seq (.reg [⟨(some 5), none, .mv (.t 4)⟩,
          ⟨(some 6), none, .mv (.t 0)⟩,
          ⟨(some 7), none, .bi .len [22] [.t 6]⟩,
          ⟨(some 8), none, .bin .lss 3 (.t 5) (.t 7)⟩])
        (.cond (.t 8)
         (.skip)
         (.exit 0)))
       (.seq (.block 1 (.reg [⟨(some 11), none, .mv (.t 3)⟩,
           ⟨(some 12), none, .mv (.t 0)⟩,
           ⟨(some 13), none, .mv (.t 4)⟩,
           ⟨(some 14), none, .ia 22 (.t 12) (.t 13)⟩,
           ⟨(some 15), none, .ld 3 (.t 14)⟩,
           ⟨(some 16), none, .bin .and 3 (.t 15) (.i .i64 63)⟩,
           ⟨(some 17), none, .bsl 22 1 [(0, .t 16)]⟩,
           ⟨(some 18), none, .bi .append [22, 22] [.t 11, .t 17]⟩,
           ⟨(some 3), none, .mv (.t 18)⟩]))
        (.reg [⟨(some 9), none, .mv (.t 4)⟩,
          ⟨(some 10), none, .bin .add 3 (.t 9) (.i .i64 1)⟩,
          ⟨(some 4), none, .mv (.t 10)⟩]))))))
   (.seq (.reg [⟨(some 19), none, .mv (.t 3)⟩,
      ⟨(some 2), none, .mv (.t 19)⟩])
    (.ret))))
theorem b12 : Body Try.prog 12 20 [2] k12 := ⟨Enters.of Try.func12 (by kernel_rfl) (by kernel_rfl), _, _, Try.func12, rfl, by kernel_rfl, rfl, rfl⟩

/-- cartridge/cartridgelaw12.num -/
def k13 : KC :=
 .seq (.reg [⟨(some 2), none, .mv (.i .i64 0)⟩])
 (.seq (.reg [⟨(some 3), none, .mv (.t 0)⟩,
    ⟨(some 2), none, .mv (.t 3)⟩])
  (.ret))
theorem b13 : Body Try.prog 13 4 [2] k13 := ⟨Enters.of Try.func13 (by kernel_rfl) (by kernel_rfl), _, _, Try.func13, rfl, by kernel_rfl, rfl, rfl⟩

/-- cartridge/span.Fits -/
def k14 : KC :=
 .seq (.reg [⟨(some 2), none, .mv (.i .i64 0)⟩])
 (.seq (.reg [⟨(some 3), none, .mv (.t 0)⟩,
    ⟨(some 4), none, .bi .min [3, 3] [.t 3, .i .i64 1099511627776]⟩,
    ⟨(some 5), none, .bi .max [3, 3] [.i .i64 2, .t 4]⟩,
    ⟨(some 6), none, .bin .sub 3 (.t 5) (.i .i64 2)⟩,
    ⟨(some 7), none, .bin .mul 3 (.i .i64 64) (.t 6)⟩,
    ⟨(some 2), none, .mv (.t 7)⟩])
  (.ret))
theorem b14 : Body Try.prog 14 8 [2] k14 := ⟨Enters.of Try.func14 (by kernel_rfl) (by kernel_rfl), _, _, Try.func14, rfl, by kernel_rfl, rfl, rfl⟩

/-- cartridge/cartridgelaw23.alive -/
def k15 : KC :=
 .seq (.reg [⟨(some 0), none, .mv (.b false)⟩])
 (.seq (.reg [⟨(some 5), none, .bld 37 []⟩,
    ⟨(some 6), none, .box 37 (.t 5)⟩,
    ⟨(some 1), none, .mv (.t 6)⟩])
  (.seq (.reg [⟨(some 7), none, .mv (.t 1)⟩,
     ⟨(some 8), none, .call (.fn 19) [.t 7]⟩,
     ⟨(some 2), none, .mv (.t 8)⟩])
   (.seq (.reg [⟨(some 9), none, .mv (.t 1)⟩,
      ⟨(some 10), none, .call (.fn 16) [.t 9, .i .i64 4]⟩])
    (.seq (.reg [⟨(some 12), none, .mv (.t 1)⟩,
       ⟨(some 13), none, .call (.fn 18) [.t 12]⟩,
       ⟨(some 11), none, .mv (.t 13)⟩,
       ⟨(some 14), none, .ex (.t 11) 0⟩,
       ⟨(some 15), none, .ex (.t 11) 1⟩,
       ⟨(some 3), none, .mv (.t 14)⟩,
       ⟨(some 4), none, .mv (.t 15)⟩])
     (.seq (.reg [⟨(some 16), none, .mv (.t 2)⟩,
        ⟨(some 17), none, .bin .eql 3 (.t 16) (.i .i64 0)⟩,
        ⟨(some 18), none, .mv (.t 17)⟩,
        ⟨(some 19), (some (18, true)), .mv (.t 4)⟩,
        ⟨(some 20), none, .pk (.t 18) (.t 19) (.b false)⟩,
        ⟨(some 21), none, .mv (.t 20)⟩,
        ⟨(some 22), (some (21, true)), .mv (.t 3)⟩,
        ⟨(some 23), (some (21, true)), .bin .eql 3 (.t 22) (.i .i64 4)⟩,
        ⟨(some 24), none, .pk (.t 21) (.t 23) (.b false)⟩,
        ⟨(some 25), none, .mv (.t 24)⟩,
        ⟨(some 26), (some (25, true)), .mv (.t 1)⟩,
        ⟨(some 27), (some (25, true)), .call (.fn 20) [.t 26, .i .i64 4]⟩,
        ⟨(some 28), none, .pk (.t 25) (.t 27) (.b false)⟩,
        ⟨(some 29), none, .mv (.t 28)⟩,
        ⟨(some 30), (some (29, true)), .mv (.t 1)⟩,
        ⟨(some 31), (some (29, true)), .call (.fn 17) [.t 30, .i .i64 4]⟩,
        ⟨(some 32), (some (29, true)), .bin .eql 3 (.t 31) (.i .i64 1)⟩,
        ⟨(some 33), none, .pk (.t 29) (.t 32) (.b false)⟩,
        ⟨(some 0), none, .mv (.t 33)⟩])
      (.ret))))))
theorem b15 : Body Try.prog 15 34 [0] k15 := ⟨Enters.of Try.func15 (by kernel_rfl) (by kernel_rfl), _, _, Try.func15, rfl, by kernel_rfl, rfl, rfl⟩

/-- (*cartridge/mount.Line).Add -/
def k16 : KC :=
 .seq (.reg [⟨(some 4), none, .mv (.t 0)⟩,
   ⟨(some 5), none, .bin .neq 35 (.t 4) (.np)⟩])
 (.cond (.t 5)
  (.reg [⟨(some 6), none, .mv (.t 0)⟩,
    ⟨(some 7), none, .mv (.t 0)⟩,
    ⟨(some 8), none, .nc (.t 7)⟩,
    ⟨(some 9), none, .fa 37 (.t 8) 0⟩,
    ⟨(some 10), none, .ld 22 (.t 9)⟩,
    ⟨(some 11), none, .mv (.t 1)⟩,
    ⟨(some 12), none, .bsl 22 1 [(0, .t 11)]⟩,
    ⟨(some 13), none, .bi .append [22, 22] [.t 10, .t 12]⟩,
    ⟨(some 14), none, .nc (.t 6)⟩,
    ⟨(some 15), none, .fa 37 (.t 14) 0⟩,
    ⟨none, none, .st 22 (.t 15) (.t 13)⟩])
  (.skip))
theorem b16 : Body Try.prog 16 16 [] k16 := ⟨Enters.of Try.func16 (by kernel_rfl) (by kernel_rfl), _, _, Try.func16, rfl, by kernel_rfl, rfl, rfl⟩

/-- (*cartridge/mount.Line).Serve -/
def k17 : KC :=
 .seq (.reg [⟨(some 3), none, .box 3 (.t 1)⟩,
   ⟨(some 4), none, .mv (.i .i64 0)⟩])
 (.seq (.reg [⟨(some 6), none, .mv (.t 0)⟩,
    ⟨(some 7), none, .call (.fn 19) [.t 6]⟩,
    ⟨(some 5), none, .mv (.t 7)⟩])
  (.seq (.seq (.reg [⟨(some 8), none, .mv (.t 5)⟩,
      ⟨(some 9), none, .bin .gtr 3 (.t 8) (.i .i64 0)⟩])
    (.cond (.t 9)
     (.reg [⟨(some 10), none, .mv (.t 0)⟩,
       ⟨(some 11), none, .mv (.t 0)⟩,
       ⟨(some 12), none, .nc (.t 11)⟩,
       ⟨(some 13), none, .fa 37 (.t 12) 0⟩,
       ⟨(some 14), none, .ld 22 (.t 13)⟩,
       ⟨(some 15), none, .mf 37 [.t 3]⟩,
       ⟨(some 16), none, .call (.fn 36) [.t 14, .t 15]⟩,
       ⟨(some 17), none, .nc (.t 10)⟩,
       ⟨(some 18), none, .fa 37 (.t 17) 0⟩,
       ⟨none, none, .st 22 (.t 18) (.t 16)⟩])
     (.skip)))
   (.seq (.reg [⟨(some 19), none, .mv (.t 5)⟩,
      ⟨(some 20), none, .mv (.t 0)⟩,
      ⟨(some 21), none, .call (.fn 19) [.t 20]⟩,
      ⟨(some 22), none, .bin .sub 3 (.t 19) (.t 21)⟩,
      ⟨(some 4), none, .mv (.t 22)⟩])
    (.ret))))
theorem b17 : Body Try.prog 17 23 [4] k17 := ⟨Enters.of Try.func17 (by kernel_rfl) (by kernel_rfl), _, _, Try.func17, rfl, by kernel_rfl, rfl, rfl⟩

/-- (*cartridge/mount.Line).First -/
def k18 : KC :=
 .seq (.reg [⟨(some 2), none, .mv (.i .i64 0)⟩,
   ⟨(some 3), none, .mv (.b false)⟩])
 (.seq (.seq (.reg [⟨(some 4), none, .mv (.t 0)⟩,
     ⟨(some 5), none, .call (.fn 19) [.t 4]⟩,
     ⟨(some 6), none, .bin .eql 3 (.t 5) (.i .i64 0)⟩])
   (.cond (.t 6)
    (.seq (.reg [⟨(some 2), none, .mv (.i .i64 0)⟩,
       ⟨(some 3), none, .mv (.b false)⟩])
     (.ret))
    (.skip)))
  (.seq (.reg [⟨(some 7), none, .mv (.t 0)⟩,
     ⟨(some 8), none, .nc (.t 7)⟩,
     ⟨(some 9), none, .fa 37 (.t 8) 0⟩,
     ⟨(some 10), none, .ld 22 (.t 9)⟩,
     ⟨(some 11), none, .ia 22 (.t 10) (.i .i64 0)⟩,
     ⟨(some 12), none, .ld 3 (.t 11)⟩,
     ⟨(some 2), none, .mv (.t 12)⟩,
     ⟨(some 3), none, .mv (.b true)⟩])
   (.ret)))
theorem b18 : Body Try.prog 18 13 [2, 3] k18 := ⟨Enters.of Try.func18 (by kernel_rfl) (by kernel_rfl), _, _, Try.func18, rfl, by kernel_rfl, rfl, rfl⟩

/-- (*cartridge/mount.Line).Len -/
def k19 : KC :=
 .seq (.reg [⟨(some 2), none, .mv (.i .i64 0)⟩])
 (.seq (.seq (.reg [⟨(some 3), none, .mv (.t 0)⟩,
     ⟨(some 4), none, .bin .eql 35 (.t 3) (.np)⟩])
   (.cond (.t 4)
    (.seq (.reg [⟨(some 2), none, .mv (.i .i64 0)⟩])
     (.ret))
    (.skip)))
  (.seq (.reg [⟨(some 5), none, .mv (.t 0)⟩,
     ⟨(some 6), none, .nc (.t 5)⟩,
     ⟨(some 7), none, .fa 37 (.t 6) 0⟩,
     ⟨(some 8), none, .ld 22 (.t 7)⟩,
     ⟨(some 9), none, .bi .len [22] [.t 8]⟩,
     ⟨(some 2), none, .mv (.t 9)⟩])
   (.ret)))
theorem b19 : Body Try.prog 19 10 [2] k19 := ⟨Enters.of Try.func19 (by kernel_rfl) (by kernel_rfl), _, _, Try.func19, rfl, by kernel_rfl, rfl, rfl⟩

/-- (*cartridge/mount.Line).Wants -/
def k20 : KC :=
 .seq (.reg [⟨(some 4), none, .mv (.b false)⟩])
 (.seq (.reg [⟨(some 5), none, .mv (.t 0)⟩,
    ⟨(some 6), none, .bin .neq 35 (.t 5) (.np)⟩,
    ⟨(some 7), none, .mv (.t 6)⟩,
    ⟨(some 8), (some (7, true)), .mv (.t 0)⟩,
    ⟨(some 9), (some (7, true)), .nc (.t 8)⟩,
    ⟨(some 10), (some (7, true)), .fa 37 (.t 9) 0⟩,
    ⟨(some 11), (some (7, true)), .ld 22 (.t 10)⟩,
    ⟨(some 12), (some (7, true)), .mv (.t 1)⟩,
    ⟨(some 13), (some (7, true)), .call (.fn 38) [.t 11, .t 12]⟩,
    ⟨(some 14), none, .pk (.t 7) (.t 13) (.b false)⟩,
    ⟨(some 4), none, .mv (.t 14)⟩])
  (.ret))
theorem b20 : Body Try.prog 20 15 [4] k20 := ⟨Enters.of Try.func20 (by kernel_rfl) (by kernel_rfl), _, _, Try.func20, rfl, by kernel_rfl, rfl, rfl⟩

/-- cartridge/cartridgelaw22.alive -/
def k21 : KC :=
 .seq (.reg [⟨(some 0), none, .mv (.b false)⟩])
 (.seq (.reg [⟨(some 6), none, .bsl 22 1 [(0, .i .i64 5)]⟩,
    ⟨(some 7), none, .call (.fn 22) [.t 6, .i .i64 1]⟩,
    ⟨(some 5), none, .mv (.t 7)⟩,
    ⟨(some 8), none, .ex (.t 5) 0⟩,
    ⟨(some 9), none, .ex (.t 5) 1⟩,
    ⟨(some 1), none, .mv (.t 8)⟩,
    ⟨(some 2), none, .mv (.t 9)⟩])
  (.seq (.seq (.reg [⟨(some 10), none, .mv (.t 2)⟩,
      ⟨(some 11), none, .call (.fn 24) [.t 10]⟩,
      ⟨(some 12), none, .bin .neq 3 (.t 11) (.i .i64 0)⟩,
      ⟨(some 13), none, .mv (.t 12)⟩,
      ⟨(some 14), (some (13, false)), .mv (.t 1)⟩,
      ⟨(some 15), (some (13, false)), .bin .eql 48 (.t 14) (.np)⟩,
      ⟨(some 16), none, .pk (.t 13) (.b true) (.t 15)⟩])
    (.cond (.t 16)
     (.seq (.reg [⟨(some 0), none, .mv (.b false)⟩])
      (.ret))
     (.skip)))
   (.seq (.reg [⟨(some 17), none, .mv (.t 1)⟩,
      ⟨(some 18), none, .call (.fn 29) [.t 17, .i .i64 5]⟩,
      ⟨(some 3), none, .mv (.t 18)⟩])
    (.seq (.reg [⟨(some 19), none, .mv (.t 1)⟩,
       ⟨(some 20), none, .call (.fn 25) [.t 19, .i .i64 5, .i .i64 0]⟩,
       ⟨(some 4), none, .mv (.t 20)⟩])
     (.seq (.reg [⟨(some 21), none, .mv (.t 3)⟩,
        ⟨(some 22), none, .bin .eql 3 (.t 21) (.i .i64 0)⟩,
        ⟨(some 23), none, .mv (.t 22)⟩,
        ⟨(some 24), (some (23, true)), .mv (.t 4)⟩,
        ⟨(some 25), (some (23, true)), .call (.fn 24) [.t 24]⟩,
        ⟨(some 26), (some (23, true)), .bin .eql 3 (.t 25) (.i .i64 0)⟩,
        ⟨(some 27), none, .pk (.t 23) (.t 26) (.b false)⟩,
        ⟨(some 28), none, .mv (.t 27)⟩,
        ⟨(some 29), (some (28, true)), .mv (.t 1)⟩,
        ⟨(some 30), (some (28, true)), .call (.fn 33) [.t 29, .i .i64 0]⟩,
        ⟨(some 31), (some (28, true)), .bin .eql 3 (.t 30) (.i .i64 5)⟩,
        ⟨(some 32), none, .pk (.t 28) (.t 31) (.b false)⟩,
        ⟨(some 33), none, .mv (.t 32)⟩,
        ⟨(some 34), (some (33, true)), .mv (.t 1)⟩,
        ⟨(some 35), (some (33, true)), .call (.fn 29) [.t 34, .i .i64 5]⟩,
        ⟨(some 36), (some (33, true)), .bin .eql 3 (.t 35) (.i .i64 (-1))⟩,
        ⟨(some 37), none, .pk (.t 33) (.t 36) (.b false)⟩,
        ⟨(some 0), none, .mv (.t 37)⟩])
      (.ret))))))
theorem b21 : Body Try.prog 21 38 [0] k21 := ⟨Enters.of Try.func21 (by kernel_rfl) (by kernel_rfl), _, _, Try.func21, rfl, by kernel_rfl, rfl, rfl⟩

/-- cartridge/shelf.New -/
noncomputable def drw22_0 : Array Oper := ((Try.f22.body.map regs).getD []).getD 0 #[]
noncomputable def k22 : KC :=
 .seq (.reg [⟨(some 4), none, .mv (.np)⟩,
   ⟨(some 5), none, .mv (.i .i64 0)⟩])
 (.seq (.seq (.reg [⟨(some 8), none, .mv (.t 0)⟩,
     ⟨(some 9), none, .bi .len [22] [.t 8]⟩,
     ⟨(some 10), none, .bin .gtr 3 (.t 9) (.i .i64 30)⟩,
     ⟨(some 11), none, .mv (.t 10)⟩,
     ⟨(some 12), (some (11, false)), .mv (.t 1)⟩,
     ⟨(some 13), (some (11, false)), .bin .lss 3 (.t 12) (.i .i64 1)⟩,
     ⟨(some 14), none, .pk (.t 11) (.b true) (.t 13)⟩,
     ⟨(some 15), none, .mv (.t 14)⟩,
     ⟨(some 16), (some (15, false)), .mv (.t 1)⟩,
     ⟨(some 17), (some (15, false)), .bin .gtr 3 (.t 16) (.i .i64 4)⟩,
     ⟨(some 18), none, .pk (.t 15) (.b true) (.t 17)⟩])
   (.cond (.t 18)
    (.seq (.reg [⟨(some 4), none, .mv (.np)⟩,
       ⟨(some 5), none, .mv (.i .i64 1)⟩])
     (.ret))
    (.skip)))
  (.seq (.seq (.reg [⟨(some 19), none, .mv (.t 0)⟩,
      ⟨(some 20), none, .bi .len [22] [.t 19]⟩,
      ⟨(some 21), none, .mv (.i .i64 0)⟩])
    (.block 0 (.loop (.seq (.reg [⟨(some 22), none, .bin .lss 3 (.t 21) (.t 20)⟩])
       (.seq (.cond (.t 22)
         (.skip)
         (.exit 0))
        (.seq (.block 1 (.seq (.reg [⟨(some 23), none, .mv (.t 21)⟩,
             ⟨(some 24), none, .ia 22 (.t 19) (.t 21)⟩,
             ⟨(some 25), none, .ld 3 (.t 24)⟩,
             ⟨(some 6), none, .mv (.t 23)⟩,
             ⟨(some 7), none, .mv (.t 25)⟩])
           (.seq (.reg [⟨(some 26), none, .mv (.t 7)⟩,
              ⟨(some 27), none, .bin .lss 3 (.t 26) (.i .i64 1)⟩,
              ⟨(some 28), none, .mv (.t 27)⟩,
              ⟨(some 29), (some (28, false)), .mv (.t 0)⟩,
              ⟨(some 30), (some (28, false)), .mv (.t 6)⟩,
              ⟨(some 31), (some (28, false)), .sli 22 (.t 29) none (some (.t 30)) none⟩,
              ⟨(some 32), (some (28, false)), .mv (.t 7)⟩,
              ⟨(some 33), (some (28, false)), .call (.fn 38) [.t 31, .t 32]⟩,
              ⟨(some 34), none, .pk (.t 28) (.b true) (.t 33)⟩])
            (.cond (.t 34)
             (.seq (.reg [⟨(some 4), none, .mv (.np)⟩,
                ⟨(some 5), none, .mv (.i .i64 1)⟩])
              (.ret))
             (.skip)))))
         (.reg [⟨(some 35), none, .bin .add 3 (.t 21) (.i .i64 1)⟩,
           ⟨(some 21), none, .mv (.t 35)⟩])))))))
   (.seq (.drw drw22_0 [⟨(some 36), none, .mv (.t 0)⟩,
      ⟨(some 37), none, .call (.fn 39) [.t 36]⟩,
      ⟨(some 38), none, .mv (.t 1)⟩,
      ⟨(some 39), none, .mk 22 (.t 38) (.t 38)⟩,
      ⟨(some 40), none, .bld 65 [(0, .t 37), (1, .t 39)]⟩,
      ⟨(some 41), none, .box 65 (.t 40)⟩,
      ⟨(some 4), none, .mv (.t 41)⟩,
      ⟨(some 5), none, .mv (.i .i64 0)⟩])
    (.ret))))
theorem b22 : Body Try.prog 22 42 [4, 5] k22 := ⟨Enters.of Try.func22 (by kernel_rfl) (by kernel_rfl), _, _, Try.func22, rfl, by kernel_rfl, rfl, rfl⟩

/-- cartridge/cartridgeref22.NewShelf -/
noncomputable def drw23_0 : Array Oper := ((Try.f23.body.map regs).getD []).getD 0 #[]
noncomputable def k23 : KC :=
 .seq (.reg [⟨(some 4), none, .mv (.np)⟩,
   ⟨(some 5), none, .mv (.i .i64 0)⟩])
 (.seq (.seq (.reg [⟨(some 8), none, .mv (.t 0)⟩,
     ⟨(some 9), none, .bi .len [22] [.t 8]⟩,
     ⟨(some 10), none, .bin .gtr 3 (.t 9) (.i .i64 30)⟩,
     ⟨(some 11), none, .mv (.t 10)⟩,
     ⟨(some 12), (some (11, false)), .mv (.t 1)⟩,
     ⟨(some 13), (some (11, false)), .bin .lss 3 (.t 12) (.i .i64 1)⟩,
     ⟨(some 14), none, .pk (.t 11) (.b true) (.t 13)⟩,
     ⟨(some 15), none, .mv (.t 14)⟩,
     ⟨(some 16), (some (15, false)), .mv (.t 1)⟩,
     ⟨(some 17), (some (15, false)), .bin .gtr 3 (.t 16) (.i .i64 4)⟩,
     ⟨(some 18), none, .pk (.t 15) (.b true) (.t 17)⟩])
   (.cond (.t 18)
    (.seq (.reg [⟨(some 4), none, .mv (.np)⟩,
       ⟨(some 5), none, .mv (.i .i64 1)⟩])
     (.ret))
    (.skip)))
  (.seq (.reg [⟨(some 19), none, .mv (.t 1)⟩,
     ⟨(some 20), none, .mk 22 (.t 19) (.t 19)⟩,
     ⟨(some 21), none, .bld 67 [(2, .t 20)]⟩,
     ⟨(some 22), none, .box 67 (.t 21)⟩,
     ⟨(some 6), none, .mv (.t 22)⟩])
   (.seq (.seq (.reg [⟨(some 7), none, .mv (.i .i64 0)⟩])
     (.block 0 (.loop (.seq (.seq (.reg [⟨(some 23), none, .mv (.t 7)⟩,
           ⟨(some 24), none, .mv (.t 0)⟩,
           ⟨(some 25), none, .bi .len [22] [.t 24]⟩,
           ⟨(some 26), none, .bin .lss 3 (.t 23) (.t 25)⟩])
         (.cond (.t 26)
          (.skip)
          (.exit 0)))
        (.seq (.block 1 (.seq (.seq (.reg [⟨(some 29), none, .mv (.t 0)⟩,
              ⟨(some 30), none, .mv (.t 7)⟩,
              ⟨(some 31), none, .ia 22 (.t 29) (.t 30)⟩,
              ⟨(some 32), none, .ld 3 (.t 31)⟩,
              ⟨(some 33), none, .bin .lss 3 (.t 32) (.i .i64 1)⟩,
              ⟨(some 34), none, .mv (.t 33)⟩,
              ⟨(some 35), (some (34, false)), .mv (.t 6)⟩,
              ⟨(some 36), (some (34, false)), .mv (.t 0)⟩,
              ⟨(some 37), (some (34, false)), .mv (.t 7)⟩,
              ⟨(some 38), (some (34, false)), .ia 22 (.t 36) (.t 37)⟩,
              ⟨(some 39), (some (34, false)), .ld 3 (.t 38)⟩,
              ⟨(some 40), (some (34, false)), .call (.fn 40) [.t 35, .t 39]⟩,
              ⟨(some 41), (some (34, false)), .bin .geq 3 (.t 40) (.i .i64 0)⟩,
              ⟨(some 42), none, .pk (.t 34) (.b true) (.t 41)⟩])
            (.cond (.t 42)
             (.seq (.reg [⟨(some 4), none, .mv (.np)⟩,
                ⟨(some 5), none, .mv (.i .i64 1)⟩])
              (.ret))
             (.skip)))
           (.seq (.drw drw23_0 [⟨(some 43), none, .mv (.t 6)⟩,
              ⟨(some 44), none, .mv (.t 6)⟩,
              ⟨(some 45), none, .nc (.t 44)⟩,
              ⟨(some 46), none, .fa 67 (.t 45) 0⟩,
              ⟨(some 47), none, .ld 22 (.t 46)⟩,
              ⟨(some 48), none, .mv (.t 0)⟩,
              ⟨(some 49), none, .mv (.t 7)⟩,
              ⟨(some 50), none, .ia 22 (.t 48) (.t 49)⟩,
              ⟨(some 51), none, .ld 3 (.t 50)⟩,
              ⟨(some 52), none, .bsl 22 1 [(0, .t 51)]⟩,
              ⟨(some 53), none, .bi .append [22, 22] [.t 47, .t 52]⟩,
              ⟨(some 54), none, .nc (.t 43)⟩,
              ⟨(some 55), none, .fa 67 (.t 54) 0⟩,
              ⟨none, none, .st 22 (.t 55) (.t 53)⟩])
            (.reg [⟨(some 56), none, .mv (.t 6)⟩,
              ⟨(some 57), none, .mv (.t 6)⟩,
              ⟨(some 58), none, .nc (.t 57)⟩,
              ⟨(some 59), none, .fa 67 (.t 58) 1⟩,
              ⟨(some 60), none, .ld 22 (.t 59)⟩,
              ⟨(some 61), none, .bsl 22 1 [(0, .i .i64 (-1))]⟩,
              ⟨(some 62), none, .bi .append [22, 22] [.t 60, .t 61]⟩,
              ⟨(some 63), none, .nc (.t 56)⟩,
              ⟨(some 64), none, .fa 67 (.t 63) 1⟩,
              ⟨none, none, .st 22 (.t 64) (.t 62)⟩]))))
         (.reg [⟨(some 27), none, .mv (.t 7)⟩,
           ⟨(some 28), none, .bin .add 3 (.t 27) (.i .i64 1)⟩,
           ⟨(some 7), none, .mv (.t 28)⟩]))))))
    (.seq (.reg [⟨(some 65), none, .mv (.t 6)⟩,
       ⟨(some 4), none, .mv (.t 65)⟩,
       ⟨(some 5), none, .mv (.i .i64 0)⟩])
     (.ret)))))
theorem b23 : Body Try.prog 23 66 [4, 5] k23 := ⟨Enters.of Try.func23 (by kernel_rfl) (by kernel_rfl), _, _, Try.func23, rfl, by kernel_rfl, rfl, rfl⟩

/-- cartridge/cartridgelaw22.num -/
def k24 : KC :=
 .seq (.reg [⟨(some 2), none, .mv (.i .i64 0)⟩])
 (.seq (.reg [⟨(some 3), none, .mv (.t 0)⟩,
    ⟨(some 2), none, .mv (.t 3)⟩])
  (.ret))
theorem b24 : Body Try.prog 24 4 [2] k24 := ⟨Enters.of Try.func24 (by kernel_rfl) (by kernel_rfl), _, _, Try.func24, rfl, by kernel_rfl, rfl, rfl⟩

/-- (*cartridge/shelf.Shelf).Move -/
def k25 : KC :=
 .seq (.reg [⟨(some 6), none, .mv (.i .i64 0)⟩])
 (.seq (.block 0 (.seq (.reg [⟨(some 8), none, .mv (.t 0)⟩,
      ⟨(some 9), none, .mv (.t 1)⟩,
      ⟨(some 10), none, .call (.fn 41) [.t 8, .t 9]⟩,
      ⟨(some 11), none, .un .not (.t 10)⟩,
      ⟨(some 12), none, .mv (.t 11)⟩,
      ⟨(some 13), (some (12, false)), .mv (.t 0)⟩,
      ⟨(some 14), (some (12, false)), .mv (.t 2)⟩,
      ⟨(some 15), (some (12, false)), .call (.fn 42) [.t 13, .t 14]⟩,
      ⟨(some 16), (some (12, false)), .un .not (.t 15)⟩,
      ⟨(some 17), none, .pk (.t 12) (.b true) (.t 16)⟩,
      ⟨(some 7), none, .mv (.t 17)⟩])
    (.cond (.t 7)
     (.seq (.reg [⟨(some 6), none, .mv (.i .i64 1)⟩])
      (.ret))
     (.seq (.reg [⟨(some 19), none, .mv (.t 0)⟩,
        ⟨(some 20), none, .mv (.t 1)⟩,
        ⟨(some 21), none, .call (.fn 31) [.t 19, .t 20]⟩,
        ⟨(some 22), none, .bin .neq 3 (.t 21) (.i .i64 (-1))⟩,
        ⟨(some 23), none, .mv (.t 22)⟩,
        ⟨(some 24), (some (23, false)), .mv (.t 0)⟩,
        ⟨(some 25), (some (23, false)), .nc (.t 24)⟩,
        ⟨(some 26), (some (23, false)), .fa 65 (.t 25) 1⟩,
        ⟨(some 27), (some (23, false)), .ld 22 (.t 26)⟩,
        ⟨(some 28), (some (23, false)), .mv (.t 2)⟩,
        ⟨(some 29), (some (23, false)), .ia 22 (.t 27) (.t 28)⟩,
        ⟨(some 30), (some (23, false)), .ld 3 (.t 29)⟩,
        ⟨(some 31), (some (23, false)), .bin .neq 3 (.t 30) (.i .i64 0)⟩,
        ⟨(some 32), none, .pk (.t 23) (.b true) (.t 31)⟩,
        ⟨(some 18), none, .mv (.t 32)⟩])
      (.cond (.t 18)
       (.seq (.reg [⟨(some 6), none, .mv (.i .i64 11)⟩])
        (.ret))
       (.skip))))))
  (.seq (.reg [⟨(some 33), none, .mv (.t 0)⟩,
     ⟨(some 34), none, .nc (.t 33)⟩,
     ⟨(some 35), none, .fa 65 (.t 34) 1⟩,
     ⟨(some 36), none, .ld 22 (.t 35)⟩,
     ⟨(some 37), none, .mv (.t 2)⟩,
     ⟨(some 38), none, .mv (.t 1)⟩,
     ⟨(some 39), none, .ia 22 (.t 36) (.t 37)⟩,
     ⟨none, none, .st 3 (.t 39) (.t 38)⟩])
   (.seq (.reg [⟨(some 6), none, .mv (.i .i64 0)⟩])
    (.ret))))
theorem b25 : Body Try.prog 25 40 [6] k25 := ⟨Enters.of Try.func25 (by kernel_rfl) (by kernel_rfl), _, _, Try.func25, rfl, by kernel_rfl, rfl, rfl⟩

/-- (*cartridge/cartridgeref22.Shelf).Move -/
def k26 : KC :=
 .seq (.reg [⟨(some 6), none, .mv (.i .i64 0)⟩])
 (.seq (.reg [⟨(some 8), none, .mv (.t 0)⟩,
    ⟨(some 9), none, .mv (.t 1)⟩,
    ⟨(some 10), none, .call (.fn 40) [.t 8, .t 9]⟩,
    ⟨(some 7), none, .mv (.t 10)⟩])
  (.seq (.seq (.reg [⟨(some 11), none, .mv (.t 7)⟩,
      ⟨(some 12), none, .bin .lss 3 (.t 11) (.i .i64 0)⟩,
      ⟨(some 13), none, .mv (.t 12)⟩,
      ⟨(some 14), (some (13, false)), .mv (.t 2)⟩,
      ⟨(some 15), (some (13, false)), .bin .lss 3 (.t 14) (.i .i64 0)⟩,
      ⟨(some 16), none, .pk (.t 13) (.b true) (.t 15)⟩,
      ⟨(some 17), none, .mv (.t 16)⟩,
      ⟨(some 18), (some (17, false)), .mv (.t 2)⟩,
      ⟨(some 19), (some (17, false)), .mv (.t 0)⟩,
      ⟨(some 20), (some (17, false)), .nc (.t 19)⟩,
      ⟨(some 21), (some (17, false)), .fa 67 (.t 20) 2⟩,
      ⟨(some 22), (some (17, false)), .ld 22 (.t 21)⟩,
      ⟨(some 23), (some (17, false)), .bi .len [22] [.t 22]⟩,
      ⟨(some 24), (some (17, false)), .bin .geq 3 (.t 18) (.t 23)⟩,
      ⟨(some 25), none, .pk (.t 17) (.b true) (.t 24)⟩])
    (.cond (.t 25)
     (.seq (.reg [⟨(some 6), none, .mv (.i .i64 1)⟩])
      (.ret))
     (.skip)))
   (.seq (.seq (.reg [⟨(some 26), none, .mv (.t 0)⟩,
       ⟨(some 27), none, .nc (.t 26)⟩,
       ⟨(some 28), none, .fa 67 (.t 27) 1⟩,
       ⟨(some 29), none, .ld 22 (.t 28)⟩,
       ⟨(some 30), none, .mv (.t 7)⟩,
       ⟨(some 31), none, .ia 22 (.t 29) (.t 30)⟩,
       ⟨(some 32), none, .ld 3 (.t 31)⟩,
       ⟨(some 33), none, .bin .geq 3 (.t 32) (.i .i64 0)⟩,
       ⟨(some 34), none, .mv (.t 33)⟩,
       ⟨(some 35), (some (34, false)), .mv (.t 0)⟩,
       ⟨(some 36), (some (34, false)), .nc (.t 35)⟩,
       ⟨(some 37), (some (34, false)), .fa 67 (.t 36) 2⟩,
       ⟨(some 38), (some (34, false)), .ld 22 (.t 37)⟩,
       ⟨(some 39), (some (34, false)), .mv (.t 2)⟩,
       ⟨(some 40), (some (34, false)), .ia 22 (.t 38) (.t 39)⟩,
       ⟨(some 41), (some (34, false)), .ld 3 (.t 40)⟩,
       ⟨(some 42), (some (34, false)), .bin .neq 3 (.t 41) (.i .i64 0)⟩,
       ⟨(some 43), none, .pk (.t 34) (.b true) (.t 42)⟩])
     (.cond (.t 43)
      (.seq (.reg [⟨(some 6), none, .mv (.i .i64 11)⟩])
       (.ret))
      (.skip)))
    (.seq (.reg [⟨(some 44), none, .mv (.t 0)⟩,
       ⟨(some 45), none, .nc (.t 44)⟩,
       ⟨(some 46), none, .fa 67 (.t 45) 1⟩,
       ⟨(some 47), none, .ld 22 (.t 46)⟩,
       ⟨(some 48), none, .mv (.t 7)⟩,
       ⟨(some 49), none, .mv (.t 2)⟩,
       ⟨(some 50), none, .ia 22 (.t 47) (.t 48)⟩,
       ⟨none, none, .st 3 (.t 50) (.t 49)⟩])
     (.seq (.reg [⟨(some 51), none, .mv (.t 0)⟩,
        ⟨(some 52), none, .nc (.t 51)⟩,
        ⟨(some 53), none, .fa 67 (.t 52) 2⟩,
        ⟨(some 54), none, .ld 22 (.t 53)⟩,
        ⟨(some 55), none, .mv (.t 2)⟩,
        ⟨(some 56), none, .mv (.t 1)⟩,
        ⟨(some 57), none, .ia 22 (.t 54) (.t 55)⟩,
        ⟨none, none, .st 3 (.t 57) (.t 56)⟩])
      (.seq (.reg [⟨(some 6), none, .mv (.i .i64 0)⟩])
       (.ret)))))))
theorem b26 : Body Try.prog 26 58 [6] k26 := ⟨Enters.of Try.func26 (by kernel_rfl) (by kernel_rfl), _, _, Try.func26, rfl, by kernel_rfl, rfl, rfl⟩

/-- (*cartridge/shelf.Shelf).Back -/
def k27 : KC :=
 .seq (.reg [⟨(some 4), none, .mv (.i .i64 0)⟩])
 (.seq (.block 0 (.seq (.reg [⟨(some 6), none, .mv (.t 0)⟩,
      ⟨(some 7), none, .mv (.t 1)⟩,
      ⟨(some 8), none, .call (.fn 42) [.t 6, .t 7]⟩,
      ⟨(some 9), none, .un .not (.t 8)⟩,
      ⟨(some 5), none, .mv (.t 9)⟩])
    (.cond (.t 5)
     (.seq (.reg [⟨(some 4), none, .mv (.i .i64 1)⟩])
      (.ret))
     (.seq (.reg [⟨(some 11), none, .mv (.t 0)⟩,
        ⟨(some 12), none, .nc (.t 11)⟩,
        ⟨(some 13), none, .fa 65 (.t 12) 1⟩,
        ⟨(some 14), none, .ld 22 (.t 13)⟩,
        ⟨(some 15), none, .mv (.t 1)⟩,
        ⟨(some 16), none, .ia 22 (.t 14) (.t 15)⟩,
        ⟨(some 17), none, .ld 3 (.t 16)⟩,
        ⟨(some 18), none, .bin .eql 3 (.t 17) (.i .i64 0)⟩,
        ⟨(some 10), none, .mv (.t 18)⟩])
      (.cond (.t 10)
       (.seq (.reg [⟨(some 4), none, .mv (.i .i64 11)⟩])
        (.ret))
       (.skip))))))
  (.seq (.reg [⟨(some 19), none, .mv (.t 0)⟩,
     ⟨(some 20), none, .nc (.t 19)⟩,
     ⟨(some 21), none, .fa 65 (.t 20) 1⟩,
     ⟨(some 22), none, .ld 22 (.t 21)⟩,
     ⟨(some 23), none, .mv (.t 1)⟩,
     ⟨(some 24), none, .ia 22 (.t 22) (.t 23)⟩,
     ⟨none, none, .st 3 (.t 24) (.i .i64 0)⟩])
   (.seq (.reg [⟨(some 4), none, .mv (.i .i64 0)⟩])
    (.ret))))
theorem b27 : Body Try.prog 27 25 [4] k27 := ⟨Enters.of Try.func27 (by kernel_rfl) (by kernel_rfl), _, _, Try.func27, rfl, by kernel_rfl, rfl, rfl⟩

/-- (*cartridge/cartridgeref22.Shelf).Back -/
noncomputable def drw28_0 : Array Oper := ((Try.f28.body.map regs).getD []).getD 0 #[]
noncomputable def k28 : KC :=
 .seq (.reg [⟨(some 4), none, .mv (.i .i64 0)⟩])
 (.seq (.seq (.reg [⟨(some 5), none, .mv (.t 1)⟩,
     ⟨(some 6), none, .bin .lss 3 (.t 5) (.i .i64 0)⟩,
     ⟨(some 7), none, .mv (.t 6)⟩,
     ⟨(some 8), (some (7, false)), .mv (.t 1)⟩,
     ⟨(some 9), (some (7, false)), .mv (.t 0)⟩,
     ⟨(some 10), (some (7, false)), .nc (.t 9)⟩,
     ⟨(some 11), (some (7, false)), .fa 67 (.t 10) 2⟩,
     ⟨(some 12), (some (7, false)), .ld 22 (.t 11)⟩,
     ⟨(some 13), (some (7, false)), .bi .len [22] [.t 12]⟩,
     ⟨(some 14), (some (7, false)), .bin .geq 3 (.t 8) (.t 13)⟩,
     ⟨(some 15), none, .pk (.t 7) (.b true) (.t 14)⟩])
   (.cond (.t 15)
    (.seq (.reg [⟨(some 4), none, .mv (.i .i64 1)⟩])
     (.ret))
    (.skip)))
  (.seq (.seq (.reg [⟨(some 16), none, .mv (.t 0)⟩,
      ⟨(some 17), none, .nc (.t 16)⟩,
      ⟨(some 18), none, .fa 67 (.t 17) 2⟩,
      ⟨(some 19), none, .ld 22 (.t 18)⟩,
      ⟨(some 20), none, .mv (.t 1)⟩,
      ⟨(some 21), none, .ia 22 (.t 19) (.t 20)⟩,
      ⟨(some 22), none, .ld 3 (.t 21)⟩,
      ⟨(some 23), none, .bin .eql 3 (.t 22) (.i .i64 0)⟩])
    (.cond (.t 23)
     (.seq (.reg [⟨(some 4), none, .mv (.i .i64 11)⟩])
      (.ret))
     (.skip)))
   (.seq (.drw drw28_0 [⟨(some 24), none, .mv (.t 0)⟩,
      ⟨(some 25), none, .nc (.t 24)⟩,
      ⟨(some 26), none, .fa 67 (.t 25) 1⟩,
      ⟨(some 27), none, .ld 22 (.t 26)⟩,
      ⟨(some 28), none, .mv (.t 0)⟩,
      ⟨(some 29), none, .mv (.t 0)⟩,
      ⟨(some 30), none, .nc (.t 29)⟩,
      ⟨(some 31), none, .fa 67 (.t 30) 2⟩,
      ⟨(some 32), none, .ld 22 (.t 31)⟩,
      ⟨(some 33), none, .mv (.t 1)⟩,
      ⟨(some 34), none, .ia 22 (.t 32) (.t 33)⟩,
      ⟨(some 35), none, .ld 3 (.t 34)⟩,
      ⟨(some 36), none, .call (.fn 40) [.t 28, .t 35]⟩,
      ⟨(some 37), none, .ia 22 (.t 27) (.t 36)⟩,
      ⟨none, none, .st 3 (.t 37) (.i .i64 (-1))⟩])
    (.seq (.reg [⟨(some 38), none, .mv (.t 0)⟩,
       ⟨(some 39), none, .nc (.t 38)⟩,
       ⟨(some 40), none, .fa 67 (.t 39) 2⟩,
       ⟨(some 41), none, .ld 22 (.t 40)⟩,
       ⟨(some 42), none, .mv (.t 1)⟩,
       ⟨(some 43), none, .ia 22 (.t 41) (.t 42)⟩,
       ⟨none, none, .st 3 (.t 43) (.i .i64 0)⟩])
     (.seq (.reg [⟨(some 4), none, .mv (.i .i64 0)⟩])
      (.ret))))))
theorem b28 : Body Try.prog 28 44 [4] k28 := ⟨Enters.of Try.func28 (by kernel_rfl) (by kernel_rfl), _, _, Try.func28, rfl, by kernel_rfl, rfl, rfl⟩

/-- (*cartridge/shelf.Shelf).Slot -/
def k29 : KC :=
 .seq (.reg [⟨(some 4), none, .mv (.i .i64 0)⟩])
 (.seq (.seq (.reg [⟨(some 5), none, .mv (.t 0)⟩,
     ⟨(some 6), none, .mv (.t 1)⟩,
     ⟨(some 7), none, .call (.fn 41) [.t 5, .t 6]⟩,
     ⟨(some 8), none, .un .not (.t 7)⟩,
     ⟨(some 9), none, .mv (.t 8)⟩,
     ⟨(some 10), (some (9, false)), .mv (.t 0)⟩,
     ⟨(some 11), (some (9, false)), .mv (.t 1)⟩,
     ⟨(some 12), (some (9, false)), .call (.fn 31) [.t 10, .t 11]⟩,
     ⟨(some 13), (some (9, false)), .bin .neq 3 (.t 12) (.i .i64 (-1))⟩,
     ⟨(some 14), none, .pk (.t 9) (.b true) (.t 13)⟩])
   (.cond (.t 14)
    (.seq (.reg [⟨(some 4), none, .mv (.i .i64 (-1))⟩])
     (.ret))
    (.skip)))
  (.seq (.reg [⟨(some 15), none, .mv (.t 0)⟩,
     ⟨(some 16), none, .nc (.t 15)⟩,
     ⟨(some 17), none, .fa 65 (.t 16) 0⟩,
     ⟨(some 18), none, .ld 22 (.t 17)⟩,
     ⟨(some 19), none, .mv (.t 1)⟩,
     ⟨(some 20), none, .call (.fn 43) [.t 18, .t 19]⟩,
     ⟨(some 4), none, .mv (.t 20)⟩])
   (.ret)))
theorem b29 : Body Try.prog 29 21 [4] k29 := ⟨Enters.of Try.func29 (by kernel_rfl) (by kernel_rfl), _, _, Try.func29, rfl, by kernel_rfl, rfl, rfl⟩

/-- (*cartridge/cartridgeref22.Shelf).Slot -/
def k30 : KC :=
 .seq (.reg [⟨(some 4), none, .mv (.i .i64 0)⟩])
 (.seq (.reg [⟨(some 6), none, .mv (.t 0)⟩,
    ⟨(some 7), none, .mv (.t 1)⟩,
    ⟨(some 8), none, .call (.fn 40) [.t 6, .t 7]⟩,
    ⟨(some 5), none, .mv (.t 8)⟩])
  (.seq (.seq (.reg [⟨(some 9), none, .mv (.t 5)⟩,
      ⟨(some 10), none, .bin .lss 3 (.t 9) (.i .i64 0)⟩,
      ⟨(some 11), none, .mv (.t 10)⟩,
      ⟨(some 12), (some (11, false)), .mv (.t 0)⟩,
      ⟨(some 13), (some (11, false)), .nc (.t 12)⟩,
      ⟨(some 14), (some (11, false)), .fa 67 (.t 13) 1⟩,
      ⟨(some 15), (some (11, false)), .ld 22 (.t 14)⟩,
      ⟨(some 16), (some (11, false)), .mv (.t 5)⟩,
      ⟨(some 17), (some (11, false)), .ia 22 (.t 15) (.t 16)⟩,
      ⟨(some 18), (some (11, false)), .ld 3 (.t 17)⟩,
      ⟨(some 19), (some (11, false)), .bin .geq 3 (.t 18) (.i .i64 0)⟩,
      ⟨(some 20), none, .pk (.t 11) (.b true) (.t 19)⟩])
    (.cond (.t 20)
     (.seq (.reg [⟨(some 4), none, .mv (.i .i64 (-1))⟩])
      (.ret))
     (.skip)))
   (.seq (.reg [⟨(some 21), none, .mv (.t 5)⟩,
      ⟨(some 4), none, .mv (.t 21)⟩])
    (.ret))))
theorem b30 : Body Try.prog 30 22 [4] k30 := ⟨Enters.of Try.func30 (by kernel_rfl) (by kernel_rfl), _, _, Try.func30, rfl, by kernel_rfl, rfl, rfl⟩

/-- (*cartridge/shelf.Shelf).Drive -/
def k31 : KC :=
 .seq (.reg [⟨(some 4), none, .mv (.i .i64 0)⟩])
 (.seq (.seq (.reg [⟨(some 5), none, .mv (.t 0)⟩,
     ⟨(some 6), none, .mv (.t 1)⟩,
     ⟨(some 7), none, .call (.fn 41) [.t 5, .t 6]⟩,
     ⟨(some 8), none, .un .not (.t 7)⟩])
   (.cond (.t 8)
    (.seq (.reg [⟨(some 4), none, .mv (.i .i64 (-1))⟩])
     (.ret))
    (.skip)))
  (.seq (.reg [⟨(some 9), none, .mv (.t 0)⟩,
     ⟨(some 10), none, .nc (.t 9)⟩,
     ⟨(some 11), none, .fa 65 (.t 10) 1⟩,
     ⟨(some 12), none, .ld 22 (.t 11)⟩,
     ⟨(some 13), none, .mv (.t 1)⟩,
     ⟨(some 14), none, .call (.fn 43) [.t 12, .t 13]⟩,
     ⟨(some 4), none, .mv (.t 14)⟩])
   (.ret)))
theorem b31 : Body Try.prog 31 15 [4] k31 := ⟨Enters.of Try.func31 (by kernel_rfl) (by kernel_rfl), _, _, Try.func31, rfl, by kernel_rfl, rfl, rfl⟩

/-- (*cartridge/cartridgeref22.Shelf).Drive -/
def k32 : KC :=
 .seq (.reg [⟨(some 4), none, .mv (.i .i64 0)⟩])
 (.seq (.reg [⟨(some 6), none, .mv (.t 0)⟩,
    ⟨(some 7), none, .mv (.t 1)⟩,
    ⟨(some 8), none, .call (.fn 40) [.t 6, .t 7]⟩,
    ⟨(some 5), none, .mv (.t 8)⟩])
  (.seq (.seq (.reg [⟨(some 9), none, .mv (.t 5)⟩,
      ⟨(some 10), none, .bin .lss 3 (.t 9) (.i .i64 0)⟩])
    (.cond (.t 10)
     (.seq (.reg [⟨(some 4), none, .mv (.i .i64 (-1))⟩])
      (.ret))
     (.skip)))
   (.seq (.reg [⟨(some 11), none, .mv (.t 0)⟩,
      ⟨(some 12), none, .nc (.t 11)⟩,
      ⟨(some 13), none, .fa 67 (.t 12) 1⟩,
      ⟨(some 14), none, .ld 22 (.t 13)⟩,
      ⟨(some 15), none, .mv (.t 5)⟩,
      ⟨(some 16), none, .ia 22 (.t 14) (.t 15)⟩,
      ⟨(some 17), none, .ld 3 (.t 16)⟩,
      ⟨(some 4), none, .mv (.t 17)⟩])
    (.ret))))
theorem b32 : Body Try.prog 32 18 [4] k32 := ⟨Enters.of Try.func32 (by kernel_rfl) (by kernel_rfl), _, _, Try.func32, rfl, by kernel_rfl, rfl, rfl⟩

/-- (*cartridge/shelf.Shelf).Mounted -/
def k33 : KC :=
 .seq (.reg [⟨(some 4), none, .mv (.i .i64 0)⟩])
 (.seq (.seq (.reg [⟨(some 5), none, .mv (.t 0)⟩,
     ⟨(some 6), none, .mv (.t 1)⟩,
     ⟨(some 7), none, .call (.fn 42) [.t 5, .t 6]⟩,
     ⟨(some 8), none, .un .not (.t 7)⟩])
   (.cond (.t 8)
    (.seq (.reg [⟨(some 4), none, .mv (.i .i64 0)⟩])
     (.ret))
    (.skip)))
  (.seq (.reg [⟨(some 9), none, .mv (.t 0)⟩,
     ⟨(some 10), none, .nc (.t 9)⟩,
     ⟨(some 11), none, .fa 65 (.t 10) 1⟩,
     ⟨(some 12), none, .ld 22 (.t 11)⟩,
     ⟨(some 13), none, .mv (.t 1)⟩,
     ⟨(some 14), none, .ia 22 (.t 12) (.t 13)⟩,
     ⟨(some 15), none, .ld 3 (.t 14)⟩,
     ⟨(some 4), none, .mv (.t 15)⟩])
   (.ret)))
theorem b33 : Body Try.prog 33 16 [4] k33 := ⟨Enters.of Try.func33 (by kernel_rfl) (by kernel_rfl), _, _, Try.func33, rfl, by kernel_rfl, rfl, rfl⟩

/-- (*cartridge/cartridgeref22.Shelf).Mounted -/
def k34 : KC :=
 .seq (.reg [⟨(some 4), none, .mv (.i .i64 0)⟩])
 (.seq (.seq (.reg [⟨(some 5), none, .mv (.t 1)⟩,
     ⟨(some 6), none, .bin .lss 3 (.t 5) (.i .i64 0)⟩,
     ⟨(some 7), none, .mv (.t 6)⟩,
     ⟨(some 8), (some (7, false)), .mv (.t 1)⟩,
     ⟨(some 9), (some (7, false)), .mv (.t 0)⟩,
     ⟨(some 10), (some (7, false)), .nc (.t 9)⟩,
     ⟨(some 11), (some (7, false)), .fa 67 (.t 10) 2⟩,
     ⟨(some 12), (some (7, false)), .ld 22 (.t 11)⟩,
     ⟨(some 13), (some (7, false)), .bi .len [22] [.t 12]⟩,
     ⟨(some 14), (some (7, false)), .bin .geq 3 (.t 8) (.t 13)⟩,
     ⟨(some 15), none, .pk (.t 7) (.b true) (.t 14)⟩])
   (.cond (.t 15)
    (.seq (.reg [⟨(some 4), none, .mv (.i .i64 0)⟩])
     (.ret))
    (.skip)))
  (.seq (.reg [⟨(some 16), none, .mv (.t 0)⟩,
     ⟨(some 17), none, .nc (.t 16)⟩,
     ⟨(some 18), none, .fa 67 (.t 17) 2⟩,
     ⟨(some 19), none, .ld 22 (.t 18)⟩,
     ⟨(some 20), none, .mv (.t 1)⟩,
     ⟨(some 21), none, .ia 22 (.t 19) (.t 20)⟩,
     ⟨(some 22), none, .ld 3 (.t 21)⟩,
     ⟨(some 4), none, .mv (.t 22)⟩])
   (.ret)))
theorem b34 : Body Try.prog 34 23 [4] k34 := ⟨Enters.of Try.func34 (by kernel_rfl) (by kernel_rfl), _, _, Try.func34, rfl, by kernel_rfl, rfl, rfl⟩

/-- cartridge/cartridgeref1.Cut -/
def k35 : KC :=
 .seq (.reg [⟨(some 6), none, .mv (.i .i64 0)⟩])
 (.seq (.block 0 (.seq (.reg [⟨(some 8), none, .mv (.t 0)⟩,
      ⟨(some 9), none, .mv (.t 1)⟩,
      ⟨(some 10), none, .bin .lss 3 (.t 8) (.t 9)⟩,
      ⟨(some 7), none, .mv (.t 10)⟩])
    (.cond (.t 7)
     (.seq (.reg [⟨(some 11), none, .mv (.t 1)⟩,
        ⟨(some 6), none, .mv (.t 11)⟩])
      (.ret))
     (.seq (.reg [⟨(some 13), none, .mv (.t 0)⟩,
        ⟨(some 14), none, .mv (.t 2)⟩,
        ⟨(some 15), none, .bin .gtr 3 (.t 13) (.t 14)⟩,
        ⟨(some 12), none, .mv (.t 15)⟩])
      (.cond (.t 12)
       (.seq (.reg [⟨(some 16), none, .mv (.t 2)⟩,
          ⟨(some 6), none, .mv (.t 16)⟩])
        (.ret))
       (.skip))))))
  (.seq (.reg [⟨(some 17), none, .mv (.t 0)⟩,
     ⟨(some 6), none, .mv (.t 17)⟩])
   (.ret)))
theorem b35 : Body Try.prog 35 18 [6] k35 := ⟨Enters.of Try.func35 (by kernel_rfl) (by kernel_rfl), _, _, Try.func35, rfl, by kernel_rfl, rfl, rfl⟩

/-- slices.DeleteFunc[[]int,int] -/
def k36 : KC :=
 .seq (.reg [⟨(some 4), none, .mv (.ns)⟩])
 (.seq (.reg [⟨(some 8), none, .mv (.t 0)⟩,
    ⟨(some 9), none, .mv (.t 1)⟩,
    ⟨(some 10), none, .call (.fn 44) [.t 8, .t 9]⟩,
    ⟨(some 5), none, .mv (.t 10)⟩])
  (.seq (.seq (.reg [⟨(some 11), none, .mv (.t 5)⟩,
      ⟨(some 12), none, .bin .eql 3 (.t 11) (.i .i64 (-1))⟩])
    (.cond (.t 12)
     (.seq (.reg [⟨(some 13), none, .mv (.t 0)⟩,
        ⟨(some 4), none, .mv (.t 13)⟩])
      (.ret))
     (.skip)))
   (.seq (.seq (.reg [⟨(some 14), none, .mv (.t 5)⟩,
       ⟨(some 15), none, .bin .add 3 (.t 14) (.i .i64 1)⟩,
       ⟨(some 6), none, .mv (.t 15)⟩])
     (.block 0 (.loop (.seq (.seq (.reg [⟨(some 16), none, .mv (.t 6)⟩,
           ⟨(some 17), none, .mv (.t 0)⟩,
           ⟨(some 18), none, .bi .len [22] [.t 17]⟩,
           ⟨(some 19), none, .bin .lss 3 (.t 16) (.t 18)⟩])
         (.cond (.t 19)
          (.skip)
          (.exit 0)))
        (.seq (.block 1 (.seq (.reg [⟨(some 22), none, .mv (.t 0)⟩,
             ⟨(some 23), none, .mv (.t 6)⟩,
             ⟨(some 24), none, .ia 22 (.t 22) (.t 23)⟩,
             ⟨(some 25), none, .ld 3 (.t 24)⟩,
             ⟨(some 7), none, .mv (.t 25)⟩])
           (.seq (.reg [⟨(some 26), none, .mv (.t 1)⟩,
              ⟨(some 27), none, .mv (.t 7)⟩,
              ⟨(some 28), none, .call (.t 26) [.t 27]⟩,
              ⟨(some 29), none, .un .not (.t 28)⟩])
            (.cond (.t 29)
             (.seq (.reg [⟨(some 30), none, .mv (.t 0)⟩,
                ⟨(some 31), none, .mv (.t 5)⟩,
                ⟨(some 32), none, .mv (.t 7)⟩,
                ⟨(some 33), none, .ia 22 (.t 30) (.t 31)⟩,
                ⟨none, none, .st 3 (.t 33) (.t 32)⟩])
              (.reg [⟨(some 34), none, .mv (.t 5)⟩,
                ⟨(some 35), none, .bin .add 3 (.t 34) (.i .i64 1)⟩,
                ⟨(some 5), none, .mv (.t 35)⟩]))
             (.skip)))))
         (.reg [⟨(some 20), none, .mv (.t 6)⟩,
           ⟨(some 21), none, .bin .add 3 (.t 20) (.i .i64 1)⟩,
           ⟨(some 6), none, .mv (.t 21)⟩]))))))
    (.seq (.reg [⟨(some 36), none, .mv (.t 0)⟩,
       ⟨(some 37), none, .mv (.t 5)⟩,
       ⟨(some 38), none, .sli 22 (.t 36) (some (.t 37)) none none⟩,
       ⟨none, none, .bi .clear [22] [.t 38]⟩])
     (.seq (.reg [⟨(some 39), none, .mv (.t 0)⟩,
        ⟨(some 40), none, .mv (.t 5)⟩,
        ⟨(some 41), none, .sli 22 (.t 39) none (some (.t 40)) none⟩,
        ⟨(some 4), none, .mv (.t 41)⟩])
      (.ret))))))
theorem b36 : Body Try.prog 36 42 [4] k36 := ⟨Enters.of Try.func36 (by kernel_rfl) (by kernel_rfl), _, _, Try.func36, rfl, by kernel_rfl, rfl, rfl⟩

/-- (*cartridge/mount.Line).Serve$1 -/
def k37 : KC :=
 .seq (.reg [⟨(some 3), none, .mv (.b false)⟩])
 (.seq (.reg [⟨(some 4), none, .mv (.t 0)⟩,
    ⟨(some 5), none, .ld 3 (.t 1)⟩,
    ⟨(some 6), none, .bin .eql 3 (.t 4) (.t 5)⟩,
    ⟨(some 3), none, .mv (.t 6)⟩])
  (.ret))
theorem b37 : Body Try.prog 37 7 [3] k37 := ⟨Enters.of Try.func37 (by kernel_rfl) (by kernel_rfl), _, _, Try.func37, rfl, by kernel_rfl, rfl, rfl⟩

/-- slices.Contains[[]int,int] -/
def k38 : KC :=
 .seq (.reg [⟨(some 4), none, .mv (.b false)⟩])
 (.seq (.reg [⟨(some 5), none, .mv (.t 0)⟩,
    ⟨(some 6), none, .mv (.t 1)⟩,
    ⟨(some 7), none, .call (.fn 43) [.t 5, .t 6]⟩,
    ⟨(some 8), none, .bin .geq 3 (.t 7) (.i .i64 0)⟩,
    ⟨(some 4), none, .mv (.t 8)⟩])
  (.ret))
theorem b38 : Body Try.prog 38 9 [4] k38 := ⟨Enters.of Try.func38 (by kernel_rfl) (by kernel_rfl), _, _, Try.func38, rfl, by kernel_rfl, rfl, rfl⟩

/-- slices.Clone[[]int,int] -/
def k39 : KC :=
 .seq (.reg [⟨(some 2), none, .mv (.ns)⟩])
 (.seq (.seq (.reg [⟨(some 3), none, .mv (.t 0)⟩,
     ⟨(some 4), none, .bin .eql 22 (.t 3) (.ns)⟩])
   (.cond (.t 4)
    (.seq (.reg [⟨(some 2), none, .mv (.ns)⟩])
     (.ret))
    (.skip)))
  (.seq (.reg [⟨(some 5), none, .bsl 22 0 []⟩,
     ⟨(some 6), none, .mv (.t 0)⟩,
     ⟨(some 7), none, .bi .append [22, 22] [.t 5, .t 6]⟩,
     ⟨(some 2), none, .mv (.t 7)⟩])
   (.ret)))
theorem b39 : Body Try.prog 39 8 [2] k39 := ⟨Enters.of Try.func39 (by kernel_rfl) (by kernel_rfl), _, _, Try.func39, rfl, by kernel_rfl, rfl, rfl⟩

/-- (*cartridge/cartridgeref22.Shelf).find -/
def k40 : KC :=
 .seq (.reg [⟨(some 4), none, .mv (.i .i64 0)⟩])
 (.seq (.seq (.reg [⟨(some 5), none, .mv (.i .i64 0)⟩])
   (.block 0 (.loop (.seq (.seq (.reg [⟨(some 6), none, .mv (.t 5)⟩,
         ⟨(some 7), none, .mv (.t 0)⟩,
         ⟨(some 8), none, .nc (.t 7)⟩,
         ⟨(some 9), none, .fa 67 (.t 8) 0⟩,
         ⟨(some 10), none, .ld 22 (.t 9)⟩,
         ⟨(some 11), none, .bi .len [22] [.t 10]⟩,
         ⟨(some 12), none, .bin .lss 3 (.t 6) (.t 11)⟩])
       (.cond (.t 12)
        (.skip)
        (.exit 0)))
      (.seq (.block 1 (.seq (.reg [⟨(some 15), none, .mv (.t 0)⟩,
           ⟨(some 16), none, .nc (.t 15)⟩,
           ⟨(some 17), none, .fa 67 (.t 16) 0⟩,
           ⟨(some 18), none, .ld 22 (.t 17)⟩,
           ⟨(some 19), none, .mv (.t 5)⟩,
           ⟨(some 20), none, .ia 22 (.t 18) (.t 19)⟩,
           ⟨(some 21), none, .ld 3 (.t 20)⟩,
           ⟨(some 22), none, .mv (.t 1)⟩,
           ⟨(some 23), none, .bin .eql 3 (.t 21) (.t 22)⟩])
         (.cond (.t 23)
          (.seq (.reg [⟨(some 24), none, .mv (.t 5)⟩,
             ⟨(some 4), none, .mv (.t 24)⟩])
           (.ret))
          (.skip))))
       (.reg [⟨(some 13), none, .mv (.t 5)⟩,
         ⟨(some 14), none, .bin .add 3 (.t 13) (.i .i64 1)⟩,
         ⟨(some 5), none, .mv (.t 14)⟩]))))))
  (.seq (.reg [⟨(some 4), none, .mv (.i .i64 (-1))⟩])
   (.ret)))
theorem b40 : Body Try.prog 40 25 [4] k40 := ⟨Enters.of Try.func40 (by kernel_rfl) (by kernel_rfl), _, _, Try.func40, rfl, by kernel_rfl, rfl, rfl⟩

/-- (*cartridge/shelf.Shelf).is -/
def k41 : KC :=
 .seq (.reg [⟨(some 4), none, .mv (.b false)⟩])
 (.seq (.reg [⟨(some 5), none, .mv (.t 0)⟩,
    ⟨(some 6), none, .bin .neq 48 (.t 5) (.np)⟩,
    ⟨(some 7), none, .mv (.t 6)⟩,
    ⟨(some 8), (some (7, true)), .mv (.t 0)⟩,
    ⟨(some 9), (some (7, true)), .nc (.t 8)⟩,
    ⟨(some 10), (some (7, true)), .fa 65 (.t 9) 0⟩,
    ⟨(some 11), (some (7, true)), .ld 22 (.t 10)⟩,
    ⟨(some 12), (some (7, true)), .mv (.t 1)⟩,
    ⟨(some 13), (some (7, true)), .call (.fn 38) [.t 11, .t 12]⟩,
    ⟨(some 14), none, .pk (.t 7) (.t 13) (.b false)⟩,
    ⟨(some 4), none, .mv (.t 14)⟩])
  (.ret))
theorem b41 : Body Try.prog 41 15 [4] k41 := ⟨Enters.of Try.func41 (by kernel_rfl) (by kernel_rfl), _, _, Try.func41, rfl, by kernel_rfl, rfl, rfl⟩

/-- (*cartridge/shelf.Shelf).drive -/
def k42 : KC :=
 .seq (.reg [⟨(some 4), none, .mv (.b false)⟩])
 (.seq (.reg [⟨(some 5), none, .mv (.t 0)⟩,
    ⟨(some 6), none, .bin .neq 48 (.t 5) (.np)⟩,
    ⟨(some 7), none, .mv (.t 6)⟩,
    ⟨(some 8), (some (7, true)), .mv (.t 1)⟩,
    ⟨(some 9), (some (7, true)), .bin .geq 3 (.t 8) (.i .i64 0)⟩,
    ⟨(some 10), none, .pk (.t 7) (.t 9) (.b false)⟩,
    ⟨(some 11), none, .mv (.t 10)⟩,
    ⟨(some 12), (some (11, true)), .mv (.t 1)⟩,
    ⟨(some 13), (some (11, true)), .mv (.t 0)⟩,
    ⟨(some 14), (some (11, true)), .nc (.t 13)⟩,
    ⟨(some 15), (some (11, true)), .fa 65 (.t 14) 1⟩,
    ⟨(some 16), (some (11, true)), .ld 22 (.t 15)⟩,
    ⟨(some 17), (some (11, true)), .bi .len [22] [.t 16]⟩,
    ⟨(some 18), (some (11, true)), .bin .lss 3 (.t 12) (.t 17)⟩,
    ⟨(some 19), none, .pk (.t 11) (.t 18) (.b false)⟩,
    ⟨(some 4), none, .mv (.t 19)⟩])
  (.ret))
theorem b42 : Body Try.prog 42 20 [4] k42 := ⟨Enters.of Try.func42 (by kernel_rfl) (by kernel_rfl), _, _, Try.func42, rfl, by kernel_rfl, rfl, rfl⟩

end Go.Proofs.Ytjkjoihlpnahdaa
