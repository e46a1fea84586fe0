import Derived.Test.YtgkbjnhpmlfgdaaAmT
/- The code, cooked, and tied to the program's; written by gen.py. -/
namespace Go.Proofs.Ytgkbjnhpmlfgdaa
open Go.AM

/-- cartridge/cartridgelaw13.StripeRows -/
def k6 : KC :=
 .seq (.reg [⟨(some 6), none, .mv (.b false)⟩])
 (.seq (.reg [⟨(some 24), none, .call (.fn 21) []⟩,
    ⟨(some 7), none, .mv (.t 24)⟩])
  (.seq (.seq (.reg [⟨(some 25), none, .mv (.t 7)⟩,
      ⟨(some 26), none, .un .not (.t 25)⟩,
      ⟨(some 27), none, .mv (.t 26)⟩,
      ⟨(some 28), (some (27, false)), .mv (.t 0)⟩,
      ⟨(some 29), (some (27, false)), .bi .len [46] [.t 28]⟩,
      ⟨(some 30), (some (27, false)), .bin .lss 3 (.t 29) (.i .i64 1)⟩,
      ⟨(some 31), none, .pk (.t 27) (.b true) (.t 30)⟩,
      ⟨(some 32), none, .mv (.t 31)⟩,
      ⟨(some 33), (some (32, false)), .mv (.t 0)⟩,
      ⟨(some 34), (some (32, false)), .bi .len [46] [.t 33]⟩,
      ⟨(some 35), (some (32, false)), .bin .gtr 3 (.t 34) (.i .i64 6)⟩,
      ⟨(some 36), none, .pk (.t 32) (.b true) (.t 35)⟩,
      ⟨(some 37), none, .mv (.t 36)⟩,
      ⟨(some 38), (some (37, false)), .mv (.t 1)⟩,
      ⟨(some 39), (some (37, false)), .bin .lss 3 (.t 38) (.i .i64 1)⟩,
      ⟨(some 40), none, .pk (.t 37) (.b true) (.t 39)⟩,
      ⟨(some 41), none, .mv (.t 40)⟩,
      ⟨(some 42), (some (41, false)), .mv (.t 1)⟩,
      ⟨(some 43), (some (41, false)), .bin .gtr 3 (.t 42) (.i .i64 4)⟩,
      ⟨(some 44), none, .pk (.t 41) (.b true) (.t 43)⟩,
      ⟨(some 45), none, .mv (.t 44)⟩,
      ⟨(some 46), (some (45, false)), .mv (.t 2)⟩,
      ⟨(some 47), (some (45, false)), .bi .len [46] [.t 46]⟩,
      ⟨(some 48), (some (45, false)), .bin .gtr 3 (.t 47) (.i .i64 10)⟩,
      ⟨(some 49), none, .pk (.t 45) (.b true) (.t 48)⟩])
    (.cond (.t 49)
     (.seq (.reg [⟨(some 50), none, .mv (.t 7)⟩,
        ⟨(some 6), none, .mv (.t 50)⟩])
      (.ret))
     (.skip)))
   (.seq (.reg [⟨(some 8), none, .mv (.ns)⟩])
    (.seq (.seq (.reg [⟨(some 9), none, .mv (.i .i64 0)⟩])
      (.block 0 (.loop (.seq (.seq (.reg [⟨(some 51), none, .mv (.t 9)⟩,
            ⟨(some 52), none, .mv (.t 0)⟩,
            ⟨(some 53), none, .bi .len [46] [.t 52]⟩,
            ⟨(some 54), none, .bin .lss 3 (.t 51) (.t 53)⟩])
          (.cond (.t 54)
           (.skip)
           (.exit 0)))
         (.seq (.block 1 (.seq (.reg [⟨(some 57), none, .mv (.t 9)⟩,
              ⟨(some 58), none, .bin .add 3 (.t 57) (.i .i64 1)⟩,
              ⟨(some 59), none, .bld 48 [(0, .t 58), (1, .i .i64 20)]⟩,
              ⟨(some 10), none, .al 48⟩,
              ⟨none, none, .st 48 (.t 10) (.t 59)⟩])
            (.seq (.seq (.reg [⟨(some 11), none, .mv (.i .i64 0)⟩])
              (.block 2 (.loop (.seq (.seq (.reg [⟨(some 60), none, .mv (.t 11)⟩,
                    ⟨(some 61), none, .mv (.t 0)⟩,
                    ⟨(some 62), none, .mv (.t 9)⟩,
                    ⟨(some 63), none, .ia 46 (.t 61) (.t 62)⟩,
                    ⟨(some 64), none, .ld 3 (.t 63)⟩,
                    ⟨(some 65), none, .bin .and 3 (.t 64) (.i .i64 7)⟩,
                    ⟨(some 66), none, .bin .lss 3 (.t 60) (.t 65)⟩])
                  (.cond (.t 66)
                   (.skip)
                   (.exit 2)))
                 (.seq (.block 3 (.seq (.reg [⟨(some 69), none, .mk 23 (.i .i64 79) (.i .i64 79)⟩,
                      ⟨(some 12), none, .mv (.t 69)⟩])
                    (.seq (.reg [⟨(some 70), none, .mv (.t 12)⟩,
                       ⟨(some 71), none, .mv (.t 11)⟩,
                       ⟨(some 72), none, .mv (.t 9)⟩,
                       ⟨(some 73), none, .bin .add 3 (.t 72) (.i .i64 1)⟩,
                       ⟨(some 74), none, .cvt 3 5 (.t 73)⟩,
                       ⟨(some 75), none, .ia 23 (.t 70) (.t 71)⟩,
                       ⟨none, none, .st 5 (.t 75) (.t 74)⟩])
                     (.reg [⟨(some 76), none, .fa 48 (.t 10) 2⟩,
                       ⟨(some 77), none, .ld 22 (.t 76)⟩,
                       ⟨(some 78), none, .mv (.t 12)⟩,
                       ⟨(some 79), none, .bsl 22 1 [(0, .t 78)]⟩,
                       ⟨(some 80), none, .bi .append [22, 22] [.t 77, .t 79]⟩,
                       ⟨(some 81), none, .fa 48 (.t 10) 2⟩,
                       ⟨none, none, .st 22 (.t 81) (.t 80)⟩]))))
                  (.reg [⟨(some 67), none, .mv (.t 11)⟩,
                    ⟨(some 68), none, .bin .add 3 (.t 67) (.i .i64 1)⟩,
                    ⟨(some 11), none, .mv (.t 68)⟩]))))))
             (.reg [⟨(some 82), none, .mv (.t 8)⟩,
               ⟨(some 83), none, .ld 48 (.t 10)⟩,
               ⟨(some 84), none, .bsl 35 1 [(0, .t 83)]⟩,
               ⟨(some 85), none, .bi .append [35, 35] [.t 82, .t 84]⟩,
               ⟨(some 8), none, .mv (.t 85)⟩]))))
          (.reg [⟨(some 55), none, .mv (.t 9)⟩,
            ⟨(some 56), none, .bin .add 3 (.t 55) (.i .i64 1)⟩,
            ⟨(some 9), none, .mv (.t 56)⟩]))))))
     (.seq (.reg [⟨(some 87), none, .mv (.t 8)⟩,
        ⟨(some 88), none, .mv (.t 1)⟩,
        ⟨(some 89), none, .call (.fn 23) [.t 87, .t 88]⟩,
        ⟨(some 86), none, .mv (.t 89)⟩,
        ⟨(some 90), none, .ex (.t 86) 0⟩,
        ⟨(some 91), none, .ex (.t 86) 1⟩,
        ⟨(some 13), none, .mv (.t 90)⟩,
        ⟨(some 14), none, .mv (.t 91)⟩])
      (.seq (.seq (.reg [⟨(some 92), none, .mv (.t 14)⟩,
          ⟨(some 93), none, .call (.fn 25) [.t 92]⟩,
          ⟨(some 94), none, .bin .neq 3 (.t 93) (.i .i64 0)⟩,
          ⟨(some 95), none, .mv (.t 94)⟩,
          ⟨(some 96), (some (95, false)), .mv (.t 13)⟩,
          ⟨(some 97), (some (95, false)), .bi .len [37] [.t 96]⟩,
          ⟨(some 98), (some (95, false)), .mv (.t 1)⟩,
          ⟨(some 99), (some (95, false)), .bin .neq 3 (.t 97) (.t 98)⟩,
          ⟨(some 100), none, .pk (.t 95) (.b true) (.t 99)⟩])
        (.cond (.t 100)
         (.seq (.reg [⟨(some 6), none, .mv (.b false)⟩])
          (.ret))
         (.skip)))
       (.seq (.seq (.reg [⟨(some 15), none, .mv (.i .i64 0)⟩])
         (.block 4 (.loop (.seq (.seq (.reg [⟨(some 101), none, .mv (.t 15)⟩,
               ⟨(some 102), none, .mv (.t 8)⟩,
               ⟨(some 103), none, .call (.fn 26) [.t 102]⟩,
               ⟨(some 104), none, .bin .lss 3 (.t 101) (.t 103)⟩])
             (.cond (.t 104)
              (.skip)
              (.exit 4)))
            (.seq (.block 5 (.seq (.reg [⟨(some 107), none, .mv (.t 8)⟩,
                 ⟨(some 108), none, .mv (.t 15)⟩,
                 ⟨(some 109), none, .call (.fn 29) [.t 107, .t 108]⟩,
                 ⟨(some 16), none, .mv (.t 109)⟩])
               (.seq (.seq (.reg [⟨(some 110), none, .mv (.t 16)⟩,
                   ⟨(some 111), none, .bi .len [22] [.t 110]⟩,
                   ⟨(some 112), none, .mv (.t 8)⟩,
                   ⟨(some 113), none, .bi .len [35] [.t 112]⟩,
                   ⟨(some 114), none, .bin .neq 3 (.t 111) (.t 113)⟩])
                 (.cond (.t 114)
                  (.seq (.reg [⟨(some 6), none, .mv (.b false)⟩])
                   (.ret))
                  (.skip)))
                (.seq (.reg [⟨(some 115), none, .mv (.t 16)⟩,
                   ⟨(some 116), none, .bi .append [22, 22] [.ns, .t 115]⟩,
                   ⟨(some 17), none, .mv (.t 116)⟩])
                 (.seq (.seq (.reg [⟨(some 18), none, .mv (.i .i64 0)⟩])
                   (.block 6 (.loop (.seq (.seq (.reg [⟨(some 117), none, .mv (.t 18)⟩,
                         ⟨(some 118), none, .mv (.t 1)⟩,
                         ⟨(some 119), none, .bin .lss 3 (.t 117) (.t 118)⟩])
                       (.cond (.t 119)
                        (.skip)
                        (.exit 6)))
                      (.seq (.block 7 (.seq (.seq (.reg [⟨(some 122), none, .mv (.t 15)⟩,
                            ⟨(some 123), none, .mv (.t 13)⟩,
                            ⟨(some 124), none, .mv (.t 18)⟩,
                            ⟨(some 125), none, .ia 37 (.t 123) (.t 124)⟩,
                            ⟨(some 126), none, .ld 22 (.t 125)⟩,
                            ⟨(some 127), none, .bi .len [22] [.t 126]⟩,
                            ⟨(some 128), none, .bin .geq 3 (.t 122) (.t 127)⟩])
                          (.cond (.t 128)
                           (.seq (.reg [⟨(some 6), none, .mv (.b false)⟩])
                            (.ret))
                           (.skip)))
                         (.reg [⟨(some 129), none, .mv (.t 17)⟩,
                           ⟨(some 130), none, .mv (.t 13)⟩,
                           ⟨(some 131), none, .mv (.t 18)⟩,
                           ⟨(some 132), none, .ia 37 (.t 130) (.t 131)⟩,
                           ⟨(some 133), none, .ld 22 (.t 132)⟩,
                           ⟨(some 134), none, .mv (.t 15)⟩,
                           ⟨(some 135), none, .ia 22 (.t 133) (.t 134)⟩,
                           ⟨(some 136), none, .ld 23 (.t 135)⟩,
                           ⟨(some 137), none, .bsl 22 1 [(0, .t 136)]⟩,
                           ⟨(some 138), none, .bi .append [22, 22] [.t 129, .t 137]⟩,
                           ⟨(some 17), none, .mv (.t 138)⟩])))
                       (.reg [⟨(some 120), none, .mv (.t 18)⟩,
                         ⟨(some 121), none, .bin .add 3 (.t 120) (.i .i64 1)⟩,
                         ⟨(some 18), none, .mv (.t 121)⟩]))))))
                  (.seq (.reg [⟨(some 19), none, .mv (.i .i64 0)⟩])
                   (.seq (.seq (.reg [⟨(some 20), none, .mv (.i .i64 0)⟩])
                     (.block 8 (.loop (.seq (.seq (.reg [⟨(some 139), none, .mv (.t 20)⟩,
                           ⟨(some 140), none, .mv (.t 2)⟩,
                           ⟨(some 141), none, .bi .len [46] [.t 140]⟩,
                           ⟨(some 142), none, .bin .lss 3 (.t 139) (.t 141)⟩,
                           ⟨(some 143), none, .mv (.t 142)⟩,
                           ⟨(some 144), (some (143, true)), .mv (.t 19)⟩,
                           ⟨(some 145), (some (143, true)), .mv (.t 1)⟩,
                           ⟨(some 146), (some (143, true)), .bin .lss 3 (.t 144) (.t 145)⟩,
                           ⟨(some 147), none, .pk (.t 143) (.t 146) (.b false)⟩])
                         (.cond (.t 147)
                          (.skip)
                          (.exit 8)))
                        (.seq (.block 9 (.seq (.reg [⟨(some 150), none, .mv (.t 2)⟩,
                             ⟨(some 151), none, .mv (.t 20)⟩,
                             ⟨(some 152), none, .ia 46 (.t 150) (.t 151)⟩,
                             ⟨(some 153), none, .ld 3 (.t 152)⟩,
                             ⟨(some 154), none, .bin .and 3 (.t 153) (.i .i64 1023)⟩,
                             ⟨(some 155), none, .mv (.t 17)⟩,
                             ⟨(some 156), none, .bi .len [22] [.t 155]⟩,
                             ⟨(some 157), none, .bin .rem 3 (.t 154) (.t 156)⟩,
                             ⟨(some 21), none, .mv (.t 157)⟩])
                           (.seq (.seq (.reg [⟨(some 158), none, .mv (.t 17)⟩,
                               ⟨(some 159), none, .mv (.t 21)⟩,
                               ⟨(some 160), none, .ia 22 (.t 158) (.t 159)⟩,
                               ⟨(some 161), none, .ld 23 (.t 160)⟩,
                               ⟨(some 162), none, .bi .len [23] [.t 161]⟩,
                               ⟨(some 163), none, .bin .gtr 3 (.t 162) (.i .i64 0)⟩])
                             (.cond (.t 163)
                              (.reg [⟨(some 164), none, .mv (.t 19)⟩,
                                ⟨(some 165), none, .bin .add 3 (.t 164) (.i .i64 1)⟩,
                                ⟨(some 19), none, .mv (.t 165)⟩])
                              (.skip)))
                            (.reg [⟨(some 166), none, .mv (.t 17)⟩,
                              ⟨(some 167), none, .mv (.t 21)⟩,
                              ⟨(some 168), none, .ia 22 (.t 166) (.t 167)⟩,
                              ⟨none, none, .st 23 (.t 168) (.ns)⟩]))))
                         (.reg [⟨(some 148), none, .mv (.t 20)⟩,
                           ⟨(some 149), none, .bin .add 3 (.t 148) (.i .i64 1)⟩,
                           ⟨(some 20), none, .mv (.t 149)⟩]))))))
                    (.seq (.reg [⟨(some 170), none, .mv (.t 17)⟩,
                       ⟨(some 171), none, .mv (.t 8)⟩,
                       ⟨(some 172), none, .bi .len [35] [.t 171]⟩,
                       ⟨(some 173), none, .call (.fn 31) [.t 170, .t 172]⟩,
                       ⟨(some 169), none, .mv (.t 173)⟩,
                       ⟨(some 174), none, .ex (.t 169) 0⟩,
                       ⟨(some 175), none, .ex (.t 169) 1⟩,
                       ⟨(some 22), none, .mv (.t 174)⟩,
                       ⟨(some 23), none, .mv (.t 175)⟩])
                     (.seq (.reg [⟨(some 176), none, .mv (.t 23)⟩,
                        ⟨(some 177), none, .bin .neq 3 (.t 176) (.i .i64 0)⟩,
                        ⟨(some 178), none, .mv (.t 177)⟩,
                        ⟨(some 179), (some (178, false)), .mv (.t 22)⟩,
                        ⟨(some 180), (some (178, false)), .mv (.t 16)⟩,
                        ⟨(some 181), (some (178, false)), .call (.fn 28) [.t 179, .t 180]⟩,
                        ⟨(some 182), (some (178, false)), .un .not (.t 181)⟩,
                        ⟨(some 183), none, .pk (.t 178) (.b true) (.t 182)⟩])
                      (.cond (.t 183)
                       (.seq (.reg [⟨(some 6), none, .mv (.b false)⟩])
                        (.ret))
                       (.skip)))))))))))
             (.reg [⟨(some 105), none, .mv (.t 15)⟩,
               ⟨(some 106), none, .bin .add 3 (.t 105) (.i .i64 1)⟩,
               ⟨(some 15), none, .mv (.t 106)⟩]))))))
        (.seq (.reg [⟨(some 6), none, .mv (.b true)⟩])
         (.ret)))))))))
theorem b6 : Body Try.prog 6 184 [6] k6 := ⟨Enters.of Try.func6 (by kernel_rfl) (by kernel_rfl), _, _, Try.func6, rfl, by kernel_rfl, rfl, rfl⟩

/-- cartridge/cartridgeref1.RightMatrix -/
noncomputable def drw16_0 : Array Oper := ((Try.f16.body.map regs).getD []).getD 0 #[]
noncomputable def k16 : KC :=
 .seq (.reg [⟨(some 2), none, .mv (.b false)⟩])
 (.seq (.seq (.reg [⟨(some 4), none, .mv (.t 0)⟩,
     ⟨(some 5), none, .bi .len [22] [.t 4]⟩,
     ⟨(some 6), none, .bin .lss 3 (.t 5) (.i .i64 1)⟩,
     ⟨(some 7), none, .mv (.t 6)⟩,
     ⟨(some 8), (some (7, false)), .mv (.t 0)⟩,
     ⟨(some 9), (some (7, false)), .bi .len [22] [.t 8]⟩,
     ⟨(some 10), (some (7, false)), .bin .gtr 3 (.t 9) (.i .i64 255)⟩,
     ⟨(some 11), none, .pk (.t 7) (.b true) (.t 10)⟩,
     ⟨(some 12), none, .mv (.t 11)⟩,
     ⟨(some 13), (some (12, false)), .mv (.t 0)⟩,
     ⟨(some 14), (some (12, false)), .ia 22 (.t 13) (.i .i64 0)⟩,
     ⟨(some 15), (some (12, false)), .ld 23 (.t 14)⟩,
     ⟨(some 16), (some (12, false)), .bi .len [23] [.t 15]⟩,
     ⟨(some 17), (some (12, false)), .bin .lss 3 (.t 16) (.i .i64 1)⟩,
     ⟨(some 18), none, .pk (.t 12) (.b true) (.t 17)⟩,
     ⟨(some 19), none, .mv (.t 18)⟩,
     ⟨(some 20), (some (19, false)), .mv (.t 0)⟩,
     ⟨(some 21), (some (19, false)), .ia 22 (.t 20) (.i .i64 0)⟩,
     ⟨(some 22), (some (19, false)), .ld 23 (.t 21)⟩,
     ⟨(some 23), (some (19, false)), .bi .len [23] [.t 22]⟩,
     ⟨(some 24), (some (19, false)), .bin .gtr 3 (.t 23) (.i .i64 255)⟩,
     ⟨(some 25), none, .pk (.t 19) (.b true) (.t 24)⟩])
   (.cond (.t 25)
    (.seq (.reg [⟨(some 2), none, .mv (.b false)⟩])
     (.ret))
    (.skip)))
  (.seq (.seq (.reg [⟨(some 3), none, .mv (.i .i64 1)⟩])
    (.block 0 (.loop (.seq (.seq (.reg [⟨(some 26), none, .mv (.t 3)⟩,
          ⟨(some 27), none, .mv (.t 0)⟩,
          ⟨(some 28), none, .bi .len [22] [.t 27]⟩,
          ⟨(some 29), none, .bin .lss 3 (.t 26) (.t 28)⟩])
        (.cond (.t 29)
         (.skip)
         (.exit 0)))
       (.seq (.block 1 (.seq (.drw drw16_0 [⟨(some 32), none, .mv (.t 0)⟩,
            ⟨(some 33), none, .mv (.t 3)⟩,
            ⟨(some 34), none, .ia 22 (.t 32) (.t 33)⟩,
            ⟨(some 35), none, .ld 23 (.t 34)⟩,
            ⟨(some 36), none, .bi .len [23] [.t 35]⟩,
            ⟨(some 37), none, .mv (.t 0)⟩,
            ⟨(some 38), none, .ia 22 (.t 37) (.i .i64 0)⟩,
            ⟨(some 39), none, .ld 23 (.t 38)⟩,
            ⟨(some 40), none, .bi .len [23] [.t 39]⟩,
            ⟨(some 41), none, .bin .neq 3 (.t 36) (.t 40)⟩])
          (.cond (.t 41)
           (.seq (.reg [⟨(some 2), none, .mv (.b false)⟩])
            (.ret))
           (.skip))))
        (.reg [⟨(some 30), none, .mv (.t 3)⟩,
          ⟨(some 31), none, .bin .add 3 (.t 30) (.i .i64 1)⟩,
          ⟨(some 3), none, .mv (.t 31)⟩]))))))
   (.seq (.reg [⟨(some 2), none, .mv (.b true)⟩])
    (.ret))))
theorem b16 : Body Try.prog 16 42 [2] k16 := ⟨Enters.of Try.func16 (by kernel_rfl) (by kernel_rfl), _, _, Try.func16, rfl, by kernel_rfl, rfl, rfl⟩

/-- cartridge/matrix.Apply -/
def k19 : KC :=
 .seq (.reg [⟨(some 4), none, .mv (.ns)⟩,
   ⟨(some 5), none, .mv (.i .i64 0)⟩])
 (.seq (.seq (.reg [⟨(some 6), none, .mv (.t 0)⟩,
     ⟨(some 7), none, .call (.fn 36) [.t 6]⟩,
     ⟨(some 8), none, .un .not (.t 7)⟩,
     ⟨(some 9), none, .mv (.t 8)⟩,
     ⟨(some 10), (some (9, false)), .mv (.t 1)⟩,
     ⟨(some 11), (some (9, false)), .bi .len [23] [.t 10]⟩,
     ⟨(some 12), (some (9, false)), .mv (.t 0)⟩,
     ⟨(some 13), (some (9, false)), .ia 22 (.t 12) (.i .i64 0)⟩,
     ⟨(some 14), (some (9, false)), .ld 23 (.t 13)⟩,
     ⟨(some 15), (some (9, false)), .bi .len [23] [.t 14]⟩,
     ⟨(some 16), (some (9, false)), .bin .neq 3 (.t 11) (.t 15)⟩,
     ⟨(some 17), none, .pk (.t 9) (.b true) (.t 16)⟩])
   (.cond (.t 17)
    (.seq (.reg [⟨(some 4), none, .mv (.ns)⟩,
       ⟨(some 5), none, .mv (.i .i64 1)⟩])
     (.ret))
    (.skip)))
  (.seq (.reg [⟨(some 18), none, .mv (.t 0)⟩,
     ⟨(some 19), none, .mv (.t 1)⟩,
     ⟨(some 20), none, .call (.fn 66) [.t 18, .t 19]⟩,
     ⟨(some 4), none, .mv (.t 20)⟩,
     ⟨(some 5), none, .mv (.i .i64 0)⟩])
   (.ret)))
theorem b19 : Body Try.prog 19 21 [4, 5] k19 := ⟨Enters.of Try.func19 (by kernel_rfl) (by kernel_rfl), _, _, Try.func19, rfl, by kernel_rfl, rfl, rfl⟩

/-- cartridge/cartridgeref1.Mul -/
def k20 : KC :=
 .seq (.reg [⟨(some 4), none, .mv (.i .u8 0)⟩])
 (.seq (.reg [⟨(some 5), none, .mv (.i .i64 0)⟩])
  (.seq (.seq (.reg [⟨(some 6), none, .mv (.i .i64 0)⟩])
    (.block 0 (.loop (.seq (.seq (.reg [⟨(some 8), none, .mv (.t 6)⟩,
          ⟨(some 9), none, .bin .lss 3 (.t 8) (.i .i64 8)⟩])
        (.cond (.t 9)
         (.skip)
         (.exit 0)))
       (.seq (.block 1 (.seq (.reg [⟨(some 12), none, .mv (.t 1)⟩,
            ⟨(some 13), none, .mv (.t 6)⟩,
            ⟨(some 14), none, .cvt 3 97 (.t 13)⟩,
            ⟨(some 15), none, .bin .shr 5 (.t 12) (.t 14)⟩,
            ⟨(some 16), none, .bin .and 5 (.t 15) (.i .u8 1)⟩,
            ⟨(some 17), none, .bin .eql 5 (.t 16) (.i .u8 1)⟩])
          (.cond (.t 17)
           (.reg [⟨(some 18), none, .mv (.t 5)⟩,
             ⟨(some 19), none, .mv (.t 0)⟩,
             ⟨(some 20), none, .cvt 5 3 (.t 19)⟩,
             ⟨(some 21), none, .mv (.t 6)⟩,
             ⟨(some 22), none, .cvt 3 97 (.t 21)⟩,
             ⟨(some 23), none, .bin .shl 3 (.t 20) (.t 22)⟩,
             ⟨(some 24), none, .bin .xor 3 (.t 18) (.t 23)⟩,
             ⟨(some 5), none, .mv (.t 24)⟩])
           (.skip))))
        (.reg [⟨(some 10), none, .mv (.t 6)⟩,
          ⟨(some 11), none, .bin .add 3 (.t 10) (.i .i64 1)⟩,
          ⟨(some 6), none, .mv (.t 11)⟩]))))))
   (.seq (.seq (.reg [⟨(some 7), none, .mv (.i .i64 14)⟩])
     (.block 2 (.loop (.seq (.seq (.reg [⟨(some 25), none, .mv (.t 7)⟩,
           ⟨(some 26), none, .bin .geq 3 (.t 25) (.i .i64 8)⟩])
         (.cond (.t 26)
          (.skip)
          (.exit 2)))
        (.seq (.block 3 (.seq (.reg [⟨(some 29), none, .mv (.t 5)⟩,
             ⟨(some 30), none, .mv (.t 7)⟩,
             ⟨(some 31), none, .cvt 3 97 (.t 30)⟩,
             ⟨(some 32), none, .bin .shr 3 (.t 29) (.t 31)⟩,
             ⟨(some 33), none, .bin .and 3 (.t 32) (.i .i64 1)⟩,
             ⟨(some 34), none, .bin .eql 3 (.t 33) (.i .i64 1)⟩])
           (.cond (.t 34)
            (.reg [⟨(some 35), none, .mv (.t 5)⟩,
              ⟨(some 36), none, .mv (.t 7)⟩,
              ⟨(some 37), none, .bin .sub 3 (.t 36) (.i .i64 8)⟩,
              ⟨(some 38), none, .cvt 3 97 (.t 37)⟩,
              ⟨(some 39), none, .bin .shl 3 (.i .i64 285) (.t 38)⟩,
              ⟨(some 40), none, .bin .xor 3 (.t 35) (.t 39)⟩,
              ⟨(some 5), none, .mv (.t 40)⟩])
            (.skip))))
         (.reg [⟨(some 27), none, .mv (.t 7)⟩,
           ⟨(some 28), none, .bin .sub 3 (.t 27) (.i .i64 1)⟩,
           ⟨(some 7), none, .mv (.t 28)⟩]))))))
    (.seq (.reg [⟨(some 41), none, .mv (.t 5)⟩,
       ⟨(some 42), none, .cvt 3 5 (.t 41)⟩,
       ⟨(some 4), none, .mv (.t 42)⟩])
     (.ret)))))
theorem b20 : Body Try.prog 20 43 [4] k20 := ⟨Enters.of Try.func20 (by kernel_rfl) (by kernel_rfl), _, _, Try.func20, rfl, by kernel_rfl, rfl, rfl⟩

/-- cartridge/cartridgelaw13.alive -/
def k21 : KC :=
 .seq (.reg [⟨(some 0), none, .mv (.b false)⟩])
 (.seq (.reg [⟨(some 4), none, .mk 23 (.i .i64 79) (.i .i64 79)⟩,
    ⟨(some 5), none, .bsl 22 1 [(0, .t 4)]⟩,
    ⟨(some 6), none, .bld 48 [(0, .i .i64 1), (1, .i .i64 1), (2, .t 5)]⟩,
    ⟨(some 7), none, .bsl 35 1 [(0, .t 6)]⟩,
    ⟨(some 1), none, .mv (.t 7)⟩])
  (.seq (.reg [⟨(some 9), none, .mv (.t 1)⟩,
     ⟨(some 10), none, .call (.fn 23) [.t 9, .i .i64 1]⟩,
     ⟨(some 8), none, .mv (.t 10)⟩,
     ⟨(some 11), none, .ex (.t 8) 0⟩,
     ⟨(some 12), none, .ex (.t 8) 1⟩,
     ⟨(some 2), none, .mv (.t 11)⟩,
     ⟨(some 3), none, .mv (.t 12)⟩])
   (.seq (.reg [⟨(some 13), none, .call (.fn 26) [.ns]⟩,
      ⟨(some 14), none, .bin .eql 3 (.t 13) (.i .i64 0)⟩,
      ⟨(some 15), none, .mv (.t 14)⟩,
      ⟨(some 16), (some (15, true)), .mv (.t 1)⟩,
      ⟨(some 17), (some (15, true)), .call (.fn 26) [.t 16]⟩,
      ⟨(some 18), (some (15, true)), .bin .eql 3 (.t 17) (.i .i64 1)⟩,
      ⟨(some 19), none, .pk (.t 15) (.t 18) (.b false)⟩,
      ⟨(some 20), none, .mv (.t 19)⟩,
      ⟨(some 21), (some (20, true)), .mv (.t 1)⟩,
      ⟨(some 22), (some (20, true)), .call (.fn 29) [.t 21, .i .i64 0]⟩,
      ⟨(some 23), (some (20, true)), .bi .len [22] [.t 22]⟩,
      ⟨(some 24), (some (20, true)), .bin .eql 3 (.t 23) (.i .i64 1)⟩,
      ⟨(some 25), none, .pk (.t 20) (.t 24) (.b false)⟩,
      ⟨(some 26), none, .mv (.t 25)⟩,
      ⟨(some 27), (some (26, true)), .mv (.t 3)⟩,
      ⟨(some 28), (some (26, true)), .call (.fn 25) [.t 27]⟩,
      ⟨(some 29), (some (26, true)), .bin .eql 3 (.t 28) (.i .i64 0)⟩,
      ⟨(some 30), none, .pk (.t 26) (.t 29) (.b false)⟩,
      ⟨(some 31), none, .mv (.t 30)⟩,
      ⟨(some 32), (some (31, true)), .mv (.t 2)⟩,
      ⟨(some 33), (some (31, true)), .bi .len [37] [.t 32]⟩,
      ⟨(some 34), (some (31, true)), .bin .eql 3 (.t 33) (.i .i64 1)⟩,
      ⟨(some 35), none, .pk (.t 31) (.t 34) (.b false)⟩,
      ⟨(some 0), none, .mv (.t 35)⟩])
    (.ret))))
theorem b21 : Body Try.prog 21 36 [0] k21 := ⟨Enters.of Try.func21 (by kernel_rfl) (by kernel_rfl), _, _, Try.func21, rfl, by kernel_rfl, rfl, rfl⟩

/-- cartridge/stripe.Parity -/
def k23 : KC :=
 .seq (.reg [⟨(some 4), none, .mv (.ns)⟩,
   ⟨(some 5), none, .mv (.i .i64 0)⟩])
 (.seq (.seq (.reg [⟨(some 16), none, .mv (.t 0)⟩,
     ⟨(some 17), none, .call (.fn 29) [.t 16, .i .i64 (-1)]⟩,
     ⟨(some 18), none, .mv (.t 1)⟩,
     ⟨(some 19), none, .call (.fn 55) [.t 17, .t 18]⟩,
     ⟨(some 15), none, .mv (.t 19)⟩,
     ⟨(some 20), none, .ex (.t 15) 0⟩,
     ⟨(some 21), none, .ex (.t 15) 1⟩,
     ⟨(some 6), none, .mv (.t 20)⟩,
     ⟨(some 7), none, .mv (.t 21)⟩])
   (.seq (.reg [⟨(some 22), none, .mv (.t 7)⟩,
      ⟨(some 23), none, .bin .neq 26 (.t 22) (.i .i64 0)⟩])
    (.cond (.t 23)
     (.seq (.reg [⟨(some 24), none, .mv (.t 7)⟩,
        ⟨(some 4), none, .mv (.ns)⟩,
        ⟨(some 5), none, .mv (.t 24)⟩])
      (.ret))
     (.skip))))
  (.seq (.reg [⟨(some 25), none, .mv (.t 1)⟩,
     ⟨(some 26), none, .mk 37 (.t 25) (.t 25)⟩,
     ⟨(some 8), none, .mv (.t 26)⟩])
   (.seq (.seq (.reg [⟨(some 27), none, .mv (.t 0)⟩,
       ⟨(some 28), none, .call (.fn 26) [.t 27]⟩,
       ⟨(some 29), none, .mv (.i .i64 0)⟩])
     (.block 0 (.loop (.seq (.reg [⟨(some 30), none, .bin .lss 3 (.t 29) (.t 28)⟩])
        (.seq (.cond (.t 30)
          (.skip)
          (.exit 0))
         (.seq (.block 1 (.seq (.reg [⟨(some 31), none, .mv (.t 29)⟩,
              ⟨(some 9), none, .mv (.t 31)⟩])
            (.seq (.reg [⟨(some 32), none, .mv (.t 0)⟩,
               ⟨(some 33), none, .mv (.t 9)⟩,
               ⟨(some 34), none, .call (.fn 29) [.t 32, .t 33]⟩,
               ⟨(some 10), none, .mv (.t 34)⟩])
             (.seq (.seq (.reg [⟨(some 35), none, .mv (.t 10)⟩,
                 ⟨(some 36), none, .call (.fn 68) [.t 35, .fn 69]⟩])
               (.cond (.t 36)
                (.seq (.reg [⟨(some 4), none, .mv (.ns)⟩,
                   ⟨(some 5), none, .mv (.i .i64 1)⟩])
                 (.ret))
                (.skip)))
              (.seq (.reg [⟨(some 38), none, .mv (.t 10)⟩,
                 ⟨(some 39), none, .mv (.t 1)⟩,
                 ⟨(some 40), none, .call (.fn 55) [.t 38, .t 39]⟩,
                 ⟨(some 37), none, .mv (.t 40)⟩,
                 ⟨(some 41), none, .ex (.t 37) 0⟩,
                 ⟨(some 42), none, .ex (.t 37) 1⟩,
                 ⟨(some 11), none, .mv (.t 41)⟩,
                 ⟨(some 12), none, .mv (.t 42)⟩])
               (.seq (.seq (.reg [⟨(some 43), none, .mv (.t 12)⟩,
                   ⟨(some 44), none, .bin .neq 26 (.t 43) (.i .i64 0)⟩])
                 (.cond (.t 44)
                  (.seq (.reg [⟨(some 45), none, .mv (.t 12)⟩,
                     ⟨(some 4), none, .mv (.ns)⟩,
                     ⟨(some 5), none, .mv (.t 45)⟩])
                   (.ret))
                  (.skip)))
                (.seq (.reg [⟨(some 46), none, .mv (.t 11)⟩,
                   ⟨(some 47), none, .bi .len [22] [.t 46]⟩,
                   ⟨(some 48), none, .mv (.i .i64 0)⟩])
                 (.block 2 (.loop (.seq (.reg [⟨(some 49), none, .bin .lss 3 (.t 48) (.t 47)⟩])
                    (.seq (.cond (.t 49)
                      (.skip)
                      (.exit 2))
                     (.seq (.block 3 (.seq (.reg [⟨(some 50), none, .mv (.t 48)⟩,
                          ⟨(some 51), none, .ia 22 (.t 46) (.t 48)⟩,
                          ⟨(some 52), none, .ld 23 (.t 51)⟩,
                          ⟨(some 13), none, .mv (.t 50)⟩,
                          ⟨(some 14), none, .mv (.t 52)⟩])
                        (.reg [⟨(some 53), none, .mv (.t 8)⟩,
                          ⟨(some 54), none, .mv (.t 13)⟩,
                          ⟨(some 55), none, .mv (.t 8)⟩,
                          ⟨(some 56), none, .mv (.t 13)⟩,
                          ⟨(some 57), none, .ia 37 (.t 55) (.t 56)⟩,
                          ⟨(some 58), none, .ld 22 (.t 57)⟩,
                          ⟨(some 59), none, .mv (.t 14)⟩,
                          ⟨(some 60), none, .bsl 22 1 [(0, .t 59)]⟩,
                          ⟨(some 61), none, .bi .append [22, 22] [.t 58, .t 60]⟩,
                          ⟨(some 62), none, .ia 37 (.t 53) (.t 54)⟩,
                          ⟨none, none, .st 22 (.t 62) (.t 61)⟩])))
                      (.reg [⟨(some 63), none, .bin .add 3 (.t 48) (.i .i64 1)⟩,
                        ⟨(some 48), none, .mv (.t 63)⟩])))))))))))))
          (.reg [⟨(some 64), none, .bin .add 3 (.t 29) (.i .i64 1)⟩,
            ⟨(some 29), none, .mv (.t 64)⟩])))))))
    (.seq (.reg [⟨(some 65), none, .mv (.t 8)⟩,
       ⟨(some 4), none, .mv (.t 65)⟩,
       ⟨(some 5), none, .mv (.i .i64 0)⟩])
     (.ret)))))
theorem b23 : Body Try.prog 23 66 [4, 5] k23 := ⟨Enters.of Try.func23 (by kernel_rfl) (by kernel_rfl), _, _, Try.func23, rfl, by kernel_rfl, rfl, rfl⟩

/-- cartridge/cartridgelaw13.num -/
def k25 : KC :=
 .seq (.reg [⟨(some 2), none, .mv (.i .i64 0)⟩])
 (.seq (.reg [⟨(some 3), none, .mv (.t 0)⟩,
    ⟨(some 2), none, .mv (.t 3)⟩])
  (.ret))
theorem b25 : Body Try.prog 25 4 [2] k25 := ⟨Enters.of Try.func25 (by kernel_rfl) (by kernel_rfl), _, _, Try.func25, rfl, by kernel_rfl, rfl, rfl⟩

/-- cartridge/stripe.Len -/
def k26 : KC :=
 .seq (.reg [⟨(some 2), none, .mv (.i .i64 0)⟩])
 (.seq (.reg [⟨(some 3), none, .mv (.i .i64 0)⟩])
  (.seq (.seq (.reg [⟨(some 6), none, .mv (.t 0)⟩,
      ⟨(some 7), none, .bi .len [35] [.t 6]⟩,
      ⟨(some 8), none, .mv (.i .i64 0)⟩])
    (.block 0 (.loop (.seq (.reg [⟨(some 9), none, .bin .lss 3 (.t 8) (.t 7)⟩])
       (.seq (.cond (.t 9)
         (.skip)
         (.exit 0))
        (.seq (.block 1 (.seq (.reg [⟨(some 10), none, .ia 35 (.t 6) (.t 8)⟩,
             ⟨(some 11), none, .ld 48 (.t 10)⟩,
             ⟨(some 5), none, .al 48⟩,
             ⟨none, none, .st 48 (.t 5) (.t 11)⟩])
           (.seq (.reg [⟨(some 12), none, .fa 48 (.t 5) 3⟩,
              ⟨(some 13), none, .ld 4 (.t 12)⟩,
              ⟨(some 14), none, .un .not (.t 13)⟩])
            (.cond (.t 14)
             (.reg [⟨(some 15), none, .mv (.t 3)⟩,
               ⟨(some 16), none, .fa 48 (.t 5) 2⟩,
               ⟨(some 17), none, .ld 22 (.t 16)⟩,
               ⟨(some 18), none, .bi .len [22] [.t 17]⟩,
               ⟨(some 19), none, .bi .max [3, 3] [.t 15, .t 18]⟩,
               ⟨(some 3), none, .mv (.t 19)⟩])
             (.skip)))))
         (.reg [⟨(some 20), none, .bin .add 3 (.t 8) (.i .i64 1)⟩,
           ⟨(some 8), none, .mv (.t 20)⟩])))))))
   (.seq (.reg [⟨(some 21), none, .mv (.t 3)⟩,
      ⟨(some 2), none, .mv (.t 21)⟩])
    (.ret))))
theorem b26 : Body Try.prog 26 22 [2] k26 := ⟨Enters.of Try.func26 (by kernel_rfl) (by kernel_rfl), _, _, Try.func26, rfl, by kernel_rfl, rfl, rfl⟩

/-- cartridge/cartridgeref1.SameRows -/
noncomputable def drw28_0 : Array Oper := ((Try.f28.body.map regs).getD []).getD 0 #[]
noncomputable def k28 : KC :=
 .seq (.reg [⟨(some 4), none, .mv (.b false)⟩])
 (.seq (.seq (.reg [⟨(some 6), none, .mv (.t 0)⟩,
     ⟨(some 7), none, .bi .len [22] [.t 6]⟩,
     ⟨(some 8), none, .mv (.t 1)⟩,
     ⟨(some 9), none, .bi .len [22] [.t 8]⟩,
     ⟨(some 10), none, .bin .neq 3 (.t 7) (.t 9)⟩])
   (.cond (.t 10)
    (.seq (.reg [⟨(some 4), none, .mv (.b false)⟩])
     (.ret))
    (.skip)))
  (.seq (.seq (.reg [⟨(some 5), none, .mv (.i .i64 0)⟩])
    (.block 0 (.loop (.seq (.seq (.reg [⟨(some 11), none, .mv (.t 5)⟩,
          ⟨(some 12), none, .mv (.t 0)⟩,
          ⟨(some 13), none, .bi .len [22] [.t 12]⟩,
          ⟨(some 14), none, .bin .lss 3 (.t 11) (.t 13)⟩])
        (.cond (.t 14)
         (.skip)
         (.exit 0)))
       (.seq (.block 1 (.seq (.drw drw28_0 [⟨(some 17), none, .mv (.t 0)⟩,
            ⟨(some 18), none, .mv (.t 5)⟩,
            ⟨(some 19), none, .ia 22 (.t 17) (.t 18)⟩,
            ⟨(some 20), none, .ld 23 (.t 19)⟩,
            ⟨(some 21), none, .cvt 23 9 (.t 20)⟩,
            ⟨(some 22), none, .mv (.t 1)⟩,
            ⟨(some 23), none, .mv (.t 5)⟩,
            ⟨(some 24), none, .ia 22 (.t 22) (.t 23)⟩,
            ⟨(some 25), none, .ld 23 (.t 24)⟩,
            ⟨(some 26), none, .cvt 23 9 (.t 25)⟩,
            ⟨(some 27), none, .bin .neq 9 (.t 21) (.t 26)⟩])
          (.cond (.t 27)
           (.seq (.reg [⟨(some 4), none, .mv (.b false)⟩])
            (.ret))
           (.skip))))
        (.reg [⟨(some 15), none, .mv (.t 5)⟩,
          ⟨(some 16), none, .bin .add 3 (.t 15) (.i .i64 1)⟩,
          ⟨(some 5), none, .mv (.t 16)⟩]))))))
   (.seq (.reg [⟨(some 4), none, .mv (.b true)⟩])
    (.ret))))
theorem b28 : Body Try.prog 28 28 [4] k28 := ⟨Enters.of Try.func28 (by kernel_rfl) (by kernel_rfl), _, _, Try.func28, rfl, by kernel_rfl, rfl, rfl⟩

/-- cartridge/stripe.Row -/
def k29 : KC :=
 .seq (.reg [⟨(some 4), none, .mv (.ns)⟩])
 (.seq (.reg [⟨(some 5), none, .mv (.ns)⟩])
  (.seq (.seq (.reg [⟨(some 8), none, .mv (.t 0)⟩,
      ⟨(some 9), none, .bi .len [35] [.t 8]⟩,
      ⟨(some 10), none, .mv (.i .i64 0)⟩])
    (.block 0 (.loop (.seq (.reg [⟨(some 11), none, .bin .lss 3 (.t 10) (.t 9)⟩])
       (.seq (.cond (.t 11)
         (.skip)
         (.exit 0))
        (.seq (.block 1 (.seq (.reg [⟨(some 12), none, .ia 35 (.t 8) (.t 10)⟩,
             ⟨(some 13), none, .ld 48 (.t 12)⟩,
             ⟨(some 7), none, .al 48⟩,
             ⟨none, none, .st 48 (.t 7) (.t 13)⟩])
           (.reg [⟨(some 14), none, .mv (.t 5)⟩,
             ⟨(some 15), none, .ld 48 (.t 7)⟩,
             ⟨(some 16), none, .mv (.t 1)⟩,
             ⟨(some 17), none, .call (.fn 70) [.t 15, .t 16]⟩,
             ⟨(some 18), none, .bsl 22 1 [(0, .t 17)]⟩,
             ⟨(some 19), none, .bi .append [22, 22] [.t 14, .t 18]⟩,
             ⟨(some 5), none, .mv (.t 19)⟩])))
         (.reg [⟨(some 20), none, .bin .add 3 (.t 10) (.i .i64 1)⟩,
           ⟨(some 10), none, .mv (.t 20)⟩])))))))
   (.seq (.reg [⟨(some 21), none, .mv (.t 5)⟩,
      ⟨(some 4), none, .mv (.t 21)⟩])
    (.ret))))
theorem b29 : Body Try.prog 29 22 [4] k29 := ⟨Enters.of Try.func29 (by kernel_rfl) (by kernel_rfl), _, _, Try.func29, rfl, by kernel_rfl, rfl, rfl⟩

/-- cartridge/cartridgeref1.Decode -/
noncomputable def drw31_0 : Array Oper := ((Try.f31.body.map regs).getD []).getD 0 #[]
noncomputable def k31 : KC :=
 .seq (.reg [⟨(some 4), none, .mv (.ns)⟩,
   ⟨(some 5), none, .mv (.i .i64 0)⟩])
 (.seq (.seq (.reg [⟨(some 21), none, .mv (.t 1)⟩,
     ⟨(some 22), none, .bin .lss 3 (.t 21) (.i .i64 1)⟩,
     ⟨(some 23), none, .mv (.t 22)⟩,
     ⟨(some 24), (some (23, false)), .mv (.t 1)⟩,
     ⟨(some 25), (some (23, false)), .mv (.t 0)⟩,
     ⟨(some 26), (some (23, false)), .bi .len [22] [.t 25]⟩,
     ⟨(some 27), (some (23, false)), .bin .gtr 3 (.t 24) (.t 26)⟩,
     ⟨(some 28), none, .pk (.t 23) (.b true) (.t 27)⟩,
     ⟨(some 29), none, .mv (.t 28)⟩,
     ⟨(some 30), (some (29, false)), .mv (.t 0)⟩,
     ⟨(some 31), (some (29, false)), .bi .len [22] [.t 30]⟩,
     ⟨(some 32), (some (29, false)), .bin .gtr 3 (.t 31) (.i .i64 255)⟩,
     ⟨(some 33), none, .pk (.t 29) (.b true) (.t 32)⟩])
   (.cond (.t 33)
    (.seq (.reg [⟨(some 4), none, .mv (.ns)⟩,
       ⟨(some 5), none, .mv (.i .i64 1)⟩])
     (.ret))
    (.skip)))
  (.seq (.reg [⟨(some 6), none, .mv (.ns)⟩])
   (.seq (.reg [⟨(some 7), none, .mv (.i .i64 0)⟩])
    (.seq (.seq (.reg [⟨(some 8), none, .mv (.i .i64 0)⟩])
      (.block 0 (.loop (.seq (.seq (.reg [⟨(some 34), none, .mv (.t 8)⟩,
            ⟨(some 35), none, .mv (.t 0)⟩,
            ⟨(some 36), none, .bi .len [22] [.t 35]⟩,
            ⟨(some 37), none, .bin .lss 3 (.t 34) (.t 36)⟩])
          (.cond (.t 37)
           (.skip)
           (.exit 0)))
         (.seq (.block 1 (.seq (.seq (.reg [⟨(some 40), none, .mv (.t 0)⟩,
               ⟨(some 41), none, .mv (.t 8)⟩,
               ⟨(some 42), none, .ia 22 (.t 40) (.t 41)⟩,
               ⟨(some 43), none, .ld 23 (.t 42)⟩,
               ⟨(some 44), none, .bi .len [23] [.t 43]⟩,
               ⟨(some 45), none, .bin .eql 3 (.t 44) (.i .i64 0)⟩])
             (.cond (.t 45)
              (.exit 1)
              (.skip)))
            (.seq (.seq (.reg [⟨(some 46), none, .mv (.t 7)⟩,
                ⟨(some 47), none, .bin .gtr 3 (.t 46) (.i .i64 0)⟩,
                ⟨(some 48), none, .mv (.t 47)⟩,
                ⟨(some 49), (some (48, true)), .mv (.t 0)⟩,
                ⟨(some 50), (some (48, true)), .mv (.t 8)⟩,
                ⟨(some 51), (some (48, true)), .ia 22 (.t 49) (.t 50)⟩,
                ⟨(some 52), (some (48, true)), .ld 23 (.t 51)⟩,
                ⟨(some 53), (some (48, true)), .bi .len [23] [.t 52]⟩,
                ⟨(some 54), (some (48, true)), .mv (.t 7)⟩,
                ⟨(some 55), (some (48, true)), .bin .neq 3 (.t 53) (.t 54)⟩,
                ⟨(some 56), none, .pk (.t 48) (.t 55) (.b false)⟩])
              (.cond (.t 56)
               (.seq (.reg [⟨(some 4), none, .mv (.ns)⟩,
                  ⟨(some 5), none, .mv (.i .i64 1)⟩])
                (.ret))
               (.skip)))
             (.seq (.reg [⟨(some 57), none, .mv (.t 0)⟩,
                ⟨(some 58), none, .mv (.t 8)⟩,
                ⟨(some 59), none, .ia 22 (.t 57) (.t 58)⟩,
                ⟨(some 60), none, .ld 23 (.t 59)⟩,
                ⟨(some 61), none, .bi .len [23] [.t 60]⟩,
                ⟨(some 7), none, .mv (.t 61)⟩])
              (.reg [⟨(some 62), none, .mv (.t 6)⟩,
                ⟨(some 63), none, .mv (.t 8)⟩,
                ⟨(some 64), none, .bsl 46 1 [(0, .t 63)]⟩,
                ⟨(some 65), none, .bi .append [46, 46] [.t 62, .t 64]⟩,
                ⟨(some 6), none, .mv (.t 65)⟩])))))
          (.reg [⟨(some 38), none, .mv (.t 8)⟩,
            ⟨(some 39), none, .bin .add 3 (.t 38) (.i .i64 1)⟩,
            ⟨(some 8), none, .mv (.t 39)⟩]))))))
     (.seq (.seq (.reg [⟨(some 66), none, .mv (.t 6)⟩,
         ⟨(some 67), none, .bi .len [46] [.t 66]⟩,
         ⟨(some 68), none, .bin .eql 3 (.t 67) (.i .i64 0)⟩])
       (.cond (.t 68)
        (.seq (.reg [⟨(some 4), none, .mv (.ns)⟩,
           ⟨(some 5), none, .mv (.i .i64 1)⟩])
         (.ret))
        (.skip)))
      (.seq (.seq (.reg [⟨(some 69), none, .mv (.t 6)⟩,
          ⟨(some 70), none, .bi .len [46] [.t 69]⟩,
          ⟨(some 71), none, .mv (.t 1)⟩,
          ⟨(some 72), none, .bin .lss 3 (.t 70) (.t 71)⟩])
        (.cond (.t 72)
         (.seq (.reg [⟨(some 4), none, .mv (.ns)⟩,
            ⟨(some 5), none, .mv (.i .i64 10)⟩])
          (.ret))
         (.skip)))
       (.seq (.reg [⟨(some 9), none, .mv (.ns)⟩])
        (.seq (.reg [⟨(some 74), none, .mv (.t 1)⟩,
           ⟨(some 75), none, .mv (.t 0)⟩,
           ⟨(some 76), none, .bi .len [22] [.t 75]⟩,
           ⟨(some 77), none, .mv (.t 1)⟩,
           ⟨(some 78), none, .bin .sub 3 (.t 76) (.t 77)⟩,
           ⟨(some 79), none, .call (.fn 38) [.t 74, .t 78]⟩,
           ⟨(some 73), none, .mv (.t 79)⟩,
           ⟨(some 80), none, .ex (.t 73) 0⟩,
           ⟨(some 81), none, .ex (.t 73) 1⟩,
           ⟨(some 10), none, .mv (.t 80)⟩,
           ⟨(some 11), none, .mv (.t 81)⟩])
         (.seq (.seq (.reg [⟨(some 12), none, .mv (.i .i64 0)⟩])
           (.block 2 (.loop (.seq (.seq (.reg [⟨(some 82), none, .mv (.t 12)⟩,
                 ⟨(some 83), none, .mv (.t 1)⟩,
                 ⟨(some 84), none, .bin .lss 3 (.t 82) (.t 83)⟩])
               (.cond (.t 84)
                (.skip)
                (.exit 2)))
              (.seq (.block 3 (.seq (.reg [⟨(some 87), none, .mv (.t 6)⟩,
                   ⟨(some 88), none, .mv (.t 12)⟩,
                   ⟨(some 89), none, .ia 46 (.t 87) (.t 88)⟩,
                   ⟨(some 90), none, .ld 3 (.t 89)⟩,
                   ⟨(some 91), none, .mv (.t 1)⟩,
                   ⟨(some 92), none, .bin .lss 3 (.t 90) (.t 91)⟩])
                 (.cond (.t 92)
                  (.seq (.reg [⟨(some 93), none, .mv (.t 1)⟩,
                     ⟨(some 94), none, .mk 23 (.t 93) (.t 93)⟩,
                     ⟨(some 13), none, .mv (.t 94)⟩])
                   (.seq (.reg [⟨(some 95), none, .mv (.t 13)⟩,
                      ⟨(some 96), none, .mv (.t 6)⟩,
                      ⟨(some 97), none, .mv (.t 12)⟩,
                      ⟨(some 98), none, .ia 46 (.t 96) (.t 97)⟩,
                      ⟨(some 99), none, .ld 3 (.t 98)⟩,
                      ⟨(some 100), none, .ia 23 (.t 95) (.t 99)⟩,
                      ⟨none, none, .st 5 (.t 100) (.i .u8 1)⟩])
                    (.reg [⟨(some 101), none, .mv (.t 9)⟩,
                      ⟨(some 102), none, .mv (.t 13)⟩,
                      ⟨(some 103), none, .bsl 22 1 [(0, .t 102)]⟩,
                      ⟨(some 104), none, .bi .append [22, 22] [.t 101, .t 103]⟩,
                      ⟨(some 9), none, .mv (.t 104)⟩])))
                  (.reg [⟨(some 105), none, .mv (.t 9)⟩,
                    ⟨(some 106), none, .mv (.t 10)⟩,
                    ⟨(some 107), none, .mv (.t 6)⟩,
                    ⟨(some 108), none, .mv (.t 12)⟩,
                    ⟨(some 109), none, .ia 46 (.t 107) (.t 108)⟩,
                    ⟨(some 110), none, .ld 3 (.t 109)⟩,
                    ⟨(some 111), none, .mv (.t 1)⟩,
                    ⟨(some 112), none, .bin .sub 3 (.t 110) (.t 111)⟩,
                    ⟨(some 113), none, .ia 22 (.t 106) (.t 112)⟩,
                    ⟨(some 114), none, .ld 23 (.t 113)⟩,
                    ⟨(some 115), none, .bsl 22 1 [(0, .t 114)]⟩,
                    ⟨(some 116), none, .bi .append [22, 22] [.t 105, .t 115]⟩,
                    ⟨(some 9), none, .mv (.t 116)⟩]))))
               (.reg [⟨(some 85), none, .mv (.t 12)⟩,
                 ⟨(some 86), none, .bin .add 3 (.t 85) (.i .i64 1)⟩,
                 ⟨(some 12), none, .mv (.t 86)⟩]))))))
          (.seq (.reg [⟨(some 118), none, .mv (.t 9)⟩,
             ⟨(some 119), none, .call (.fn 35) [.t 118]⟩,
             ⟨(some 117), none, .mv (.t 119)⟩,
             ⟨(some 120), none, .ex (.t 117) 0⟩,
             ⟨(some 121), none, .ex (.t 117) 1⟩,
             ⟨(some 14), none, .mv (.t 120)⟩,
             ⟨(some 15), none, .mv (.t 121)⟩])
           (.seq (.seq (.reg [⟨(some 122), none, .mv (.t 15)⟩,
               ⟨(some 123), none, .bin .neq 3 (.t 122) (.i .i64 0)⟩])
             (.cond (.t 123)
              (.seq (.reg [⟨(some 124), none, .mv (.t 15)⟩,
                 ⟨(some 4), none, .mv (.ns)⟩,
                 ⟨(some 5), none, .mv (.t 124)⟩])
               (.ret))
              (.skip)))
            (.seq (.reg [⟨(some 16), none, .mv (.ns)⟩])
             (.seq (.seq (.reg [⟨(some 17), none, .mv (.i .i64 0)⟩])
               (.block 4 (.loop (.seq (.seq (.reg [⟨(some 125), none, .mv (.t 17)⟩,
                     ⟨(some 126), none, .mv (.t 1)⟩,
                     ⟨(some 127), none, .bin .lss 3 (.t 125) (.t 126)⟩])
                   (.cond (.t 127)
                    (.skip)
                    (.exit 4)))
                  (.seq (.block 5 (.seq (.reg [⟨(some 130), none, .mv (.t 7)⟩,
                       ⟨(some 131), none, .mk 23 (.t 130) (.t 130)⟩,
                       ⟨(some 18), none, .mv (.t 131)⟩])
                     (.seq (.seq (.reg [⟨(some 19), none, .mv (.i .i64 0)⟩])
                       (.block 6 (.loop (.seq (.seq (.reg [⟨(some 132), none, .mv (.t 19)⟩,
                             ⟨(some 133), none, .mv (.t 7)⟩,
                             ⟨(some 134), none, .bin .lss 3 (.t 132) (.t 133)⟩])
                           (.cond (.t 134)
                            (.skip)
                            (.exit 6)))
                          (.seq (.block 7 (.seq (.reg [⟨(some 20), none, .mv (.i .i64 0)⟩])
                             (.block 8 (.loop (.seq (.seq (.reg [⟨(some 137), none, .mv (.t 20)⟩,
                                   ⟨(some 138), none, .mv (.t 1)⟩,
                                   ⟨(some 139), none, .bin .lss 3 (.t 137) (.t 138)⟩])
                                 (.cond (.t 139)
                                  (.skip)
                                  (.exit 8)))
                                (.seq (.block 9 (.drw drw31_0 [⟨(some 142), none, .mv (.t 18)⟩,
                                    ⟨(some 143), none, .mv (.t 19)⟩,
                                    ⟨(some 144), none, .mv (.t 18)⟩,
                                    ⟨(some 145), none, .mv (.t 19)⟩,
                                    ⟨(some 146), none, .ia 23 (.t 144) (.t 145)⟩,
                                    ⟨(some 147), none, .ld 5 (.t 146)⟩,
                                    ⟨(some 148), none, .mv (.t 14)⟩,
                                    ⟨(some 149), none, .mv (.t 17)⟩,
                                    ⟨(some 150), none, .ia 22 (.t 148) (.t 149)⟩,
                                    ⟨(some 151), none, .ld 23 (.t 150)⟩,
                                    ⟨(some 152), none, .mv (.t 20)⟩,
                                    ⟨(some 153), none, .ia 23 (.t 151) (.t 152)⟩,
                                    ⟨(some 154), none, .ld 5 (.t 153)⟩,
                                    ⟨(some 155), none, .mv (.t 0)⟩,
                                    ⟨(some 156), none, .mv (.t 6)⟩,
                                    ⟨(some 157), none, .mv (.t 20)⟩,
                                    ⟨(some 158), none, .ia 46 (.t 156) (.t 157)⟩,
                                    ⟨(some 159), none, .ld 3 (.t 158)⟩,
                                    ⟨(some 160), none, .ia 22 (.t 155) (.t 159)⟩,
                                    ⟨(some 161), none, .ld 23 (.t 160)⟩,
                                    ⟨(some 162), none, .mv (.t 19)⟩,
                                    ⟨(some 163), none, .ia 23 (.t 161) (.t 162)⟩,
                                    ⟨(some 164), none, .ld 5 (.t 163)⟩,
                                    ⟨(some 165), none, .call (.fn 20) [.t 154, .t 164]⟩,
                                    ⟨(some 166), none, .bin .xor 5 (.t 147) (.t 165)⟩,
                                    ⟨(some 167), none, .ia 23 (.t 142) (.t 143)⟩,
                                    ⟨none, none, .st 5 (.t 167) (.t 166)⟩]))
                                 (.reg [⟨(some 140), none, .mv (.t 20)⟩,
                                   ⟨(some 141), none, .bin .add 3 (.t 140) (.i .i64 1)⟩,
                                   ⟨(some 20), none, .mv (.t 141)⟩])))))))
                           (.reg [⟨(some 135), none, .mv (.t 19)⟩,
                             ⟨(some 136), none, .bin .add 3 (.t 135) (.i .i64 1)⟩,
                             ⟨(some 19), none, .mv (.t 136)⟩]))))))
                      (.reg [⟨(some 168), none, .mv (.t 16)⟩,
                        ⟨(some 169), none, .mv (.t 18)⟩,
                        ⟨(some 170), none, .bsl 22 1 [(0, .t 169)]⟩,
                        ⟨(some 171), none, .bi .append [22, 22] [.t 168, .t 170]⟩,
                        ⟨(some 16), none, .mv (.t 171)⟩]))))
                   (.reg [⟨(some 128), none, .mv (.t 17)⟩,
                     ⟨(some 129), none, .bin .add 3 (.t 128) (.i .i64 1)⟩,
                     ⟨(some 17), none, .mv (.t 129)⟩]))))))
              (.seq (.reg [⟨(some 172), none, .mv (.t 16)⟩,
                 ⟨(some 4), none, .mv (.t 172)⟩,
                 ⟨(some 5), none, .mv (.i .i64 0)⟩])
               (.ret)))))))))))))))
theorem b31 : Body Try.prog 31 173 [4, 5] k31 := ⟨Enters.of Try.func31 (by kernel_rfl) (by kernel_rfl), _, _, Try.func31, rfl, by kernel_rfl, rfl, rfl⟩

/-- cartridge/cartridgeref1.Inverse -/
noncomputable def drw35_0 : Array Oper := ((Try.f35.body.map regs).getD []).getD 0 #[]
noncomputable def k35 : KC :=
 .seq (.reg [⟨(some 2), none, .mv (.ns)⟩,
   ⟨(some 3), none, .mv (.i .i64 0)⟩])
 (.seq (.seq (.reg [⟨(some 18), none, .mv (.t 0)⟩,
     ⟨(some 19), none, .call (.fn 16) [.t 18]⟩,
     ⟨(some 20), none, .un .not (.t 19)⟩,
     ⟨(some 21), none, .mv (.t 20)⟩,
     ⟨(some 22), (some (21, false)), .mv (.t 0)⟩,
     ⟨(some 23), (some (21, false)), .bi .len [22] [.t 22]⟩,
     ⟨(some 24), (some (21, false)), .mv (.t 0)⟩,
     ⟨(some 25), (some (21, false)), .ia 22 (.t 24) (.i .i64 0)⟩,
     ⟨(some 26), (some (21, false)), .ld 23 (.t 25)⟩,
     ⟨(some 27), (some (21, false)), .bi .len [23] [.t 26]⟩,
     ⟨(some 28), (some (21, false)), .bin .neq 3 (.t 23) (.t 27)⟩,
     ⟨(some 29), none, .pk (.t 21) (.b true) (.t 28)⟩])
   (.cond (.t 29)
    (.seq (.reg [⟨(some 2), none, .mv (.ns)⟩,
       ⟨(some 3), none, .mv (.i .i64 1)⟩])
     (.ret))
    (.skip)))
  (.seq (.reg [⟨(some 30), none, .mv (.t 0)⟩,
     ⟨(some 31), none, .bi .len [22] [.t 30]⟩,
     ⟨(some 4), none, .mv (.t 31)⟩])
   (.seq (.reg [⟨(some 5), none, .mv (.ns)⟩])
    (.seq (.seq (.reg [⟨(some 6), none, .mv (.i .i64 0)⟩])
      (.block 0 (.loop (.seq (.seq (.reg [⟨(some 32), none, .mv (.t 6)⟩,
            ⟨(some 33), none, .mv (.t 4)⟩,
            ⟨(some 34), none, .bin .lss 3 (.t 32) (.t 33)⟩])
          (.cond (.t 34)
           (.skip)
           (.exit 0)))
         (.seq (.block 1 (.seq (.reg [⟨(some 37), none, .mv (.t 0)⟩,
              ⟨(some 38), none, .mv (.t 6)⟩,
              ⟨(some 39), none, .ia 22 (.t 37) (.t 38)⟩,
              ⟨(some 40), none, .ld 23 (.t 39)⟩,
              ⟨(some 41), none, .bi .append [23, 23] [.ns, .t 40]⟩,
              ⟨(some 42), none, .mv (.t 4)⟩,
              ⟨(some 43), none, .bi .append [23, 3] [.t 41, .t 42]⟩,
              ⟨(some 7), none, .mv (.t 43)⟩])
            (.seq (.reg [⟨(some 44), none, .mv (.t 7)⟩,
               ⟨(some 45), none, .mv (.t 4)⟩,
               ⟨(some 46), none, .mv (.t 6)⟩,
               ⟨(some 47), none, .bin .add 3 (.t 45) (.t 46)⟩,
               ⟨(some 48), none, .ia 23 (.t 44) (.t 47)⟩,
               ⟨none, none, .st 5 (.t 48) (.i .u8 1)⟩])
             (.reg [⟨(some 49), none, .mv (.t 5)⟩,
               ⟨(some 50), none, .mv (.t 7)⟩,
               ⟨(some 51), none, .bsl 22 1 [(0, .t 50)]⟩,
               ⟨(some 52), none, .bi .append [22, 22] [.t 49, .t 51]⟩,
               ⟨(some 5), none, .mv (.t 52)⟩]))))
          (.reg [⟨(some 35), none, .mv (.t 6)⟩,
            ⟨(some 36), none, .bin .add 3 (.t 35) (.i .i64 1)⟩,
            ⟨(some 6), none, .mv (.t 36)⟩]))))))
     (.seq (.seq (.reg [⟨(some 8), none, .mv (.i .i64 0)⟩])
       (.block 2 (.loop (.seq (.seq (.reg [⟨(some 53), none, .mv (.t 8)⟩,
             ⟨(some 54), none, .mv (.t 4)⟩,
             ⟨(some 55), none, .bin .lss 3 (.t 53) (.t 54)⟩])
           (.cond (.t 55)
            (.skip)
            (.exit 2)))
          (.seq (.block 3 (.seq (.reg [⟨(some 58), none, .mv (.t 8)⟩,
               ⟨(some 9), none, .mv (.t 58)⟩])
             (.seq (.block 4 (.loop (.seq (.seq (.reg [⟨(some 59), none, .mv (.t 9)⟩,
                    ⟨(some 60), none, .mv (.t 4)⟩,
                    ⟨(some 61), none, .bin .lss 3 (.t 59) (.t 60)⟩,
                    ⟨(some 62), none, .mv (.t 61)⟩,
                    ⟨(some 63), (some (62, true)), .mv (.t 5)⟩,
                    ⟨(some 64), (some (62, true)), .mv (.t 9)⟩,
                    ⟨(some 65), (some (62, true)), .ia 22 (.t 63) (.t 64)⟩,
                    ⟨(some 66), (some (62, true)), .ld 23 (.t 65)⟩,
                    ⟨(some 67), (some (62, true)), .mv (.t 8)⟩,
                    ⟨(some 68), (some (62, true)), .ia 23 (.t 66) (.t 67)⟩,
                    ⟨(some 69), (some (62, true)), .ld 5 (.t 68)⟩,
                    ⟨(some 70), (some (62, true)), .bin .eql 5 (.t 69) (.i .u8 0)⟩,
                    ⟨(some 71), none, .pk (.t 62) (.t 70) (.b false)⟩])
                  (.cond (.t 71)
                   (.skip)
                   (.exit 4)))
                 (.block 5 (.reg [⟨(some 72), none, .mv (.t 9)⟩,
                    ⟨(some 73), none, .bin .add 3 (.t 72) (.i .i64 1)⟩,
                    ⟨(some 9), none, .mv (.t 73)⟩])))))
              (.seq (.seq (.reg [⟨(some 74), none, .mv (.t 9)⟩,
                  ⟨(some 75), none, .mv (.t 4)⟩,
                  ⟨(some 76), none, .bin .eql 3 (.t 74) (.t 75)⟩])
                (.cond (.t 76)
                 (.seq (.reg [⟨(some 2), none, .mv (.ns)⟩,
                    ⟨(some 3), none, .mv (.i .i64 12)⟩])
                  (.ret))
                 (.skip)))
               (.seq (.reg [⟨(some 77), none, .mv (.t 5)⟩,
                  ⟨(some 78), none, .mv (.t 9)⟩,
                  ⟨(some 79), none, .ia 22 (.t 77) (.t 78)⟩,
                  ⟨(some 80), none, .ld 23 (.t 79)⟩,
                  ⟨(some 10), none, .mv (.t 80)⟩])
                (.seq (.reg [⟨(some 81), none, .mv (.t 5)⟩,
                   ⟨(some 82), none, .mv (.t 9)⟩,
                   ⟨(some 83), none, .mv (.t 5)⟩,
                   ⟨(some 84), none, .mv (.t 8)⟩,
                   ⟨(some 85), none, .ia 22 (.t 83) (.t 84)⟩,
                   ⟨(some 86), none, .ld 23 (.t 85)⟩,
                   ⟨(some 87), none, .ia 22 (.t 81) (.t 82)⟩,
                   ⟨none, none, .st 23 (.t 87) (.t 86)⟩])
                 (.seq (.reg [⟨(some 88), none, .mv (.t 10)⟩,
                    ⟨(some 89), none, .mv (.t 8)⟩,
                    ⟨(some 90), none, .ia 23 (.t 88) (.t 89)⟩,
                    ⟨(some 91), none, .ld 5 (.t 90)⟩,
                    ⟨(some 92), none, .call (.fn 72) [.t 91]⟩,
                    ⟨(some 11), none, .mv (.t 92)⟩])
                  (.seq (.seq (.reg [⟨(some 12), none, .mv (.i .i64 0)⟩])
                    (.block 6 (.loop (.seq (.seq (.reg [⟨(some 93), none, .mv (.t 12)⟩,
                          ⟨(some 94), none, .mv (.t 4)⟩,
                          ⟨(some 95), none, .bin .mul 3 (.i .i64 2) (.t 94)⟩,
                          ⟨(some 96), none, .bin .lss 3 (.t 93) (.t 95)⟩])
                        (.cond (.t 96)
                         (.skip)
                         (.exit 6)))
                       (.seq (.block 7 (.reg [⟨(some 99), none, .mv (.t 10)⟩,
                           ⟨(some 100), none, .mv (.t 12)⟩,
                           ⟨(some 101), none, .mv (.t 10)⟩,
                           ⟨(some 102), none, .mv (.t 12)⟩,
                           ⟨(some 103), none, .ia 23 (.t 101) (.t 102)⟩,
                           ⟨(some 104), none, .ld 5 (.t 103)⟩,
                           ⟨(some 105), none, .mv (.t 11)⟩,
                           ⟨(some 106), none, .call (.fn 20) [.t 104, .t 105]⟩,
                           ⟨(some 107), none, .ia 23 (.t 99) (.t 100)⟩,
                           ⟨none, none, .st 5 (.t 107) (.t 106)⟩]))
                        (.reg [⟨(some 97), none, .mv (.t 12)⟩,
                          ⟨(some 98), none, .bin .add 3 (.t 97) (.i .i64 1)⟩,
                          ⟨(some 12), none, .mv (.t 98)⟩]))))))
                   (.seq (.reg [⟨(some 108), none, .mv (.t 5)⟩,
                      ⟨(some 109), none, .mv (.t 8)⟩,
                      ⟨(some 110), none, .mv (.t 10)⟩,
                      ⟨(some 111), none, .ia 22 (.t 108) (.t 109)⟩,
                      ⟨none, none, .st 23 (.t 111) (.t 110)⟩])
                    (.seq (.reg [⟨(some 13), none, .mv (.i .i64 0)⟩])
                     (.block 8 (.loop (.seq (.seq (.reg [⟨(some 112), none, .mv (.t 13)⟩,
                           ⟨(some 113), none, .mv (.t 4)⟩,
                           ⟨(some 114), none, .bin .lss 3 (.t 112) (.t 113)⟩])
                         (.cond (.t 114)
                          (.skip)
                          (.exit 8)))
                        (.seq (.block 9 (.seq (.reg [⟨(some 117), none, .mv (.t 5)⟩,
                             ⟨(some 118), none, .mv (.t 13)⟩,
                             ⟨(some 119), none, .ia 22 (.t 117) (.t 118)⟩,
                             ⟨(some 120), none, .ld 23 (.t 119)⟩,
                             ⟨(some 121), none, .mv (.t 8)⟩,
                             ⟨(some 122), none, .ia 23 (.t 120) (.t 121)⟩,
                             ⟨(some 123), none, .ld 5 (.t 122)⟩,
                             ⟨(some 14), none, .mv (.t 123)⟩])
                           (.seq (.reg [⟨(some 15), none, .mv (.i .i64 0)⟩])
                            (.block 10 (.loop (.seq (.seq (.reg [⟨(some 124), none, .mv (.t 15)⟩,
                                  ⟨(some 125), none, .mv (.t 4)⟩,
                                  ⟨(some 126), none, .bin .mul 3 (.i .i64 2) (.t 125)⟩,
                                  ⟨(some 127), none, .bin .lss 3 (.t 124) (.t 126)⟩,
                                  ⟨(some 128), none, .mv (.t 127)⟩,
                                  ⟨(some 129), (some (128, true)), .mv (.t 13)⟩,
                                  ⟨(some 130), (some (128, true)), .mv (.t 8)⟩,
                                  ⟨(some 131), (some (128, true)), .bin .neq 3 (.t 129) (.t 130)⟩,
                                  ⟨(some 132), none, .pk (.t 128) (.t 131) (.b false)⟩,
                                  ⟨(some 133), none, .mv (.t 132)⟩,
                                  ⟨(some 134), (some (133, true)), .mv (.t 14)⟩,
                                  ⟨(some 135), (some (133, true)), .bin .neq 5 (.t 134) (.i .u8 0)⟩,
                                  ⟨(some 136), none, .pk (.t 133) (.t 135) (.b false)⟩])
                                (.cond (.t 136)
                                 (.skip)
                                 (.exit 10)))
                               (.seq (.block 11 (.drw drw35_0 [⟨(some 139), none, .mv (.t 5)⟩,
                                   ⟨(some 140), none, .mv (.t 13)⟩,
                                   ⟨(some 141), none, .ia 22 (.t 139) (.t 140)⟩,
                                   ⟨(some 142), none, .ld 23 (.t 141)⟩,
                                   ⟨(some 143), none, .mv (.t 15)⟩,
                                   ⟨(some 144), none, .mv (.t 5)⟩,
                                   ⟨(some 145), none, .mv (.t 13)⟩,
                                   ⟨(some 146), none, .ia 22 (.t 144) (.t 145)⟩,
                                   ⟨(some 147), none, .ld 23 (.t 146)⟩,
                                   ⟨(some 148), none, .mv (.t 15)⟩,
                                   ⟨(some 149), none, .ia 23 (.t 147) (.t 148)⟩,
                                   ⟨(some 150), none, .ld 5 (.t 149)⟩,
                                   ⟨(some 151), none, .mv (.t 14)⟩,
                                   ⟨(some 152), none, .mv (.t 10)⟩,
                                   ⟨(some 153), none, .mv (.t 15)⟩,
                                   ⟨(some 154), none, .ia 23 (.t 152) (.t 153)⟩,
                                   ⟨(some 155), none, .ld 5 (.t 154)⟩,
                                   ⟨(some 156), none, .call (.fn 20) [.t 151, .t 155]⟩,
                                   ⟨(some 157), none, .bin .xor 5 (.t 150) (.t 156)⟩,
                                   ⟨(some 158), none, .ia 23 (.t 142) (.t 143)⟩,
                                   ⟨none, none, .st 5 (.t 158) (.t 157)⟩]))
                                (.reg [⟨(some 137), none, .mv (.t 15)⟩,
                                  ⟨(some 138), none, .bin .add 3 (.t 137) (.i .i64 1)⟩,
                                  ⟨(some 15), none, .mv (.t 138)⟩]))))))))
                         (.reg [⟨(some 115), none, .mv (.t 13)⟩,
                           ⟨(some 116), none, .bin .add 3 (.t 115) (.i .i64 1)⟩,
                           ⟨(some 13), none, .mv (.t 116)⟩])))))))))))))))
           (.reg [⟨(some 56), none, .mv (.t 8)⟩,
             ⟨(some 57), none, .bin .add 3 (.t 56) (.i .i64 1)⟩,
             ⟨(some 8), none, .mv (.t 57)⟩]))))))
      (.seq (.reg [⟨(some 16), none, .mv (.ns)⟩])
       (.seq (.seq (.reg [⟨(some 17), none, .mv (.i .i64 0)⟩])
         (.block 12 (.loop (.seq (.seq (.reg [⟨(some 159), none, .mv (.t 17)⟩,
               ⟨(some 160), none, .mv (.t 4)⟩,
               ⟨(some 161), none, .bin .lss 3 (.t 159) (.t 160)⟩])
             (.cond (.t 161)
              (.skip)
              (.exit 12)))
            (.seq (.block 13 (.reg [⟨(some 164), none, .mv (.t 16)⟩,
                ⟨(some 165), none, .mv (.t 5)⟩,
                ⟨(some 166), none, .mv (.t 17)⟩,
                ⟨(some 167), none, .ia 22 (.t 165) (.t 166)⟩,
                ⟨(some 168), none, .ld 23 (.t 167)⟩,
                ⟨(some 169), none, .mv (.t 4)⟩,
                ⟨(some 170), none, .sli 23 (.t 168) (some (.t 169)) none none⟩,
                ⟨(some 171), none, .bi .append [23, 23] [.ns, .t 170]⟩,
                ⟨(some 172), none, .bsl 22 1 [(0, .t 171)]⟩,
                ⟨(some 173), none, .bi .append [22, 22] [.t 164, .t 172]⟩,
                ⟨(some 16), none, .mv (.t 173)⟩]))
             (.reg [⟨(some 162), none, .mv (.t 17)⟩,
               ⟨(some 163), none, .bin .add 3 (.t 162) (.i .i64 1)⟩,
               ⟨(some 17), none, .mv (.t 163)⟩]))))))
        (.seq (.reg [⟨(some 174), none, .mv (.t 16)⟩,
           ⟨(some 2), none, .mv (.t 174)⟩,
           ⟨(some 3), none, .mv (.i .i64 0)⟩])
         (.ret)))))))))
theorem b35 : Body Try.prog 35 175 [2, 3] k35 := ⟨Enters.of Try.func35 (by kernel_rfl) (by kernel_rfl), _, _, Try.func35, rfl, by kernel_rfl, rfl, rfl⟩

/-- cartridge/matrix.Right -/
def k36 : KC :=
 .seq (.reg [⟨(some 1), none, .box 22 (.t 0)⟩,
   ⟨(some 2), none, .mv (.b false)⟩])
 (.seq (.seq (.reg [⟨(some 3), none, .ld 22 (.t 1)⟩,
     ⟨(some 4), none, .bi .len [22] [.t 3]⟩,
     ⟨(some 5), none, .bin .lss 3 (.t 4) (.i .i64 1)⟩,
     ⟨(some 6), none, .mv (.t 5)⟩,
     ⟨(some 7), (some (6, false)), .ld 22 (.t 1)⟩,
     ⟨(some 8), (some (6, false)), .bi .len [22] [.t 7]⟩,
     ⟨(some 9), (some (6, false)), .bin .gtr 3 (.t 8) (.i .i64 255)⟩,
     ⟨(some 10), none, .pk (.t 6) (.b true) (.t 9)⟩,
     ⟨(some 11), none, .mv (.t 10)⟩,
     ⟨(some 12), (some (11, false)), .ld 22 (.t 1)⟩,
     ⟨(some 13), (some (11, false)), .ia 22 (.t 12) (.i .i64 0)⟩,
     ⟨(some 14), (some (11, false)), .ld 23 (.t 13)⟩,
     ⟨(some 15), (some (11, false)), .bi .len [23] [.t 14]⟩,
     ⟨(some 16), (some (11, false)), .bin .lss 3 (.t 15) (.i .i64 1)⟩,
     ⟨(some 17), none, .pk (.t 11) (.b true) (.t 16)⟩,
     ⟨(some 18), none, .mv (.t 17)⟩,
     ⟨(some 19), (some (18, false)), .ld 22 (.t 1)⟩,
     ⟨(some 20), (some (18, false)), .ia 22 (.t 19) (.i .i64 0)⟩,
     ⟨(some 21), (some (18, false)), .ld 23 (.t 20)⟩,
     ⟨(some 22), (some (18, false)), .bi .len [23] [.t 21]⟩,
     ⟨(some 23), (some (18, false)), .bin .gtr 3 (.t 22) (.i .i64 255)⟩,
     ⟨(some 24), none, .pk (.t 18) (.b true) (.t 23)⟩])
   (.cond (.t 24)
    (.seq (.reg [⟨(some 2), none, .mv (.b false)⟩])
     (.ret))
    (.skip)))
  (.seq (.reg [⟨(some 25), none, .ld 22 (.t 1)⟩,
     ⟨(some 26), none, .mf 73 [.t 1]⟩,
     ⟨(some 27), none, .call (.fn 68) [.t 25, .t 26]⟩,
     ⟨(some 28), none, .un .not (.t 27)⟩,
     ⟨(some 2), none, .mv (.t 28)⟩])
   (.ret)))
theorem b36 : Body Try.prog 36 29 [2] k36 := ⟨Enters.of Try.func36 (by kernel_rfl) (by kernel_rfl), _, _, Try.func36, rfl, by kernel_rfl, rfl, rfl⟩

/-- cartridge/matrix.Cauchy -/
def k37 : KC :=
 .seq (.reg [⟨(some 4), none, .mv (.ns)⟩,
   ⟨(some 5), none, .mv (.i .i64 0)⟩])
 (.seq (.seq (.reg [⟨(some 10), none, .mv (.t 0)⟩,
     ⟨(some 11), none, .bin .lss 3 (.t 10) (.i .i64 1)⟩,
     ⟨(some 12), none, .mv (.t 11)⟩,
     ⟨(some 13), (some (12, false)), .mv (.t 1)⟩,
     ⟨(some 14), (some (12, false)), .bin .lss 3 (.t 13) (.i .i64 1)⟩,
     ⟨(some 15), none, .pk (.t 12) (.b true) (.t 14)⟩,
     ⟨(some 16), none, .mv (.t 15)⟩,
     ⟨(some 17), (some (16, false)), .mv (.t 0)⟩,
     ⟨(some 18), (some (16, false)), .bin .gtr 3 (.t 17) (.i .i64 255)⟩,
     ⟨(some 19), none, .pk (.t 16) (.b true) (.t 18)⟩,
     ⟨(some 20), none, .mv (.t 19)⟩,
     ⟨(some 21), (some (20, false)), .mv (.t 1)⟩,
     ⟨(some 22), (some (20, false)), .mv (.t 0)⟩,
     ⟨(some 23), (some (20, false)), .bin .sub 3 (.i .i64 255) (.t 22)⟩,
     ⟨(some 24), (some (20, false)), .bin .gtr 3 (.t 21) (.t 23)⟩,
     ⟨(some 25), none, .pk (.t 20) (.b true) (.t 24)⟩])
   (.cond (.t 25)
    (.seq (.reg [⟨(some 4), none, .mv (.ns)⟩,
       ⟨(some 5), none, .mv (.i .i64 1)⟩])
     (.ret))
    (.skip)))
  (.seq (.reg [⟨(some 6), none, .mv (.ns)⟩])
   (.seq (.seq (.reg [⟨(some 26), none, .mv (.t 1)⟩,
       ⟨(some 27), none, .mv (.i .i64 0)⟩])
     (.block 0 (.loop (.seq (.reg [⟨(some 28), none, .bin .lss 3 (.t 27) (.t 26)⟩])
        (.seq (.cond (.t 28)
          (.skip)
          (.exit 0))
         (.seq (.block 1 (.seq (.reg [⟨(some 29), none, .mv (.t 27)⟩,
              ⟨(some 7), none, .mv (.t 29)⟩])
            (.seq (.reg [⟨(some 8), none, .mv (.ns)⟩])
             (.seq (.seq (.reg [⟨(some 30), none, .mv (.t 0)⟩,
                 ⟨(some 31), none, .mv (.i .i64 0)⟩])
               (.block 2 (.loop (.seq (.reg [⟨(some 32), none, .bin .lss 3 (.t 31) (.t 30)⟩])
                  (.seq (.cond (.t 32)
                    (.skip)
                    (.exit 2))
                   (.seq (.block 3 (.seq (.reg [⟨(some 33), none, .mv (.t 31)⟩,
                        ⟨(some 9), none, .mv (.t 33)⟩])
                      (.reg [⟨(some 34), none, .mv (.t 8)⟩,
                        ⟨(some 35), none, .mv (.t 7)⟩,
                        ⟨(some 36), none, .cvt 3 5 (.t 35)⟩,
                        ⟨(some 37), none, .mv (.t 1)⟩,
                        ⟨(some 38), none, .mv (.t 9)⟩,
                        ⟨(some 39), none, .bin .add 3 (.t 37) (.t 38)⟩,
                        ⟨(some 40), none, .cvt 3 5 (.t 39)⟩,
                        ⟨(some 41), none, .call (.fn 74) [.t 36, .t 40]⟩,
                        ⟨(some 42), none, .call (.fn 63) [.t 41]⟩,
                        ⟨(some 43), none, .bsl 23 1 [(0, .t 42)]⟩,
                        ⟨(some 44), none, .bi .append [23, 23] [.t 34, .t 43]⟩,
                        ⟨(some 8), none, .mv (.t 44)⟩])))
                    (.reg [⟨(some 45), none, .bin .add 3 (.t 31) (.i .i64 1)⟩,
                      ⟨(some 31), none, .mv (.t 45)⟩])))))))
              (.reg [⟨(some 46), none, .mv (.t 6)⟩,
                ⟨(some 47), none, .mv (.t 8)⟩,
                ⟨(some 48), none, .bsl 22 1 [(0, .t 47)]⟩,
                ⟨(some 49), none, .bi .append [22, 22] [.t 46, .t 48]⟩,
                ⟨(some 6), none, .mv (.t 49)⟩])))))
          (.reg [⟨(some 50), none, .bin .add 3 (.t 27) (.i .i64 1)⟩,
            ⟨(some 27), none, .mv (.t 50)⟩])))))))
    (.seq (.reg [⟨(some 51), none, .mv (.t 6)⟩,
       ⟨(some 4), none, .mv (.t 51)⟩,
       ⟨(some 5), none, .mv (.i .i64 0)⟩])
     (.ret)))))
theorem b37 : Body Try.prog 37 52 [4, 5] k37 := ⟨Enters.of Try.func37 (by kernel_rfl) (by kernel_rfl), _, _, Try.func37, rfl, by kernel_rfl, rfl, rfl⟩

/-- cartridge/cartridgeref1.Cauchy -/
def k38 : KC :=
 .seq (.reg [⟨(some 4), none, .mv (.ns)⟩,
   ⟨(some 5), none, .mv (.i .i64 0)⟩])
 (.seq (.seq (.reg [⟨(some 10), none, .mv (.t 0)⟩,
     ⟨(some 11), none, .bin .lss 3 (.t 10) (.i .i64 1)⟩,
     ⟨(some 12), none, .mv (.t 11)⟩,
     ⟨(some 13), (some (12, false)), .mv (.t 1)⟩,
     ⟨(some 14), (some (12, false)), .bin .lss 3 (.t 13) (.i .i64 1)⟩,
     ⟨(some 15), none, .pk (.t 12) (.b true) (.t 14)⟩,
     ⟨(some 16), none, .mv (.t 15)⟩,
     ⟨(some 17), (some (16, false)), .mv (.t 0)⟩,
     ⟨(some 18), (some (16, false)), .bin .gtr 3 (.t 17) (.i .i64 255)⟩,
     ⟨(some 19), none, .pk (.t 16) (.b true) (.t 18)⟩,
     ⟨(some 20), none, .mv (.t 19)⟩,
     ⟨(some 21), (some (20, false)), .mv (.t 1)⟩,
     ⟨(some 22), (some (20, false)), .bin .gtr 3 (.t 21) (.i .i64 255)⟩,
     ⟨(some 23), none, .pk (.t 20) (.b true) (.t 22)⟩,
     ⟨(some 24), none, .mv (.t 23)⟩,
     ⟨(some 25), (some (24, false)), .mv (.t 0)⟩,
     ⟨(some 26), (some (24, false)), .mv (.t 1)⟩,
     ⟨(some 27), (some (24, false)), .bin .add 3 (.t 25) (.t 26)⟩,
     ⟨(some 28), (some (24, false)), .bin .gtr 3 (.t 27) (.i .i64 255)⟩,
     ⟨(some 29), none, .pk (.t 24) (.b true) (.t 28)⟩])
   (.cond (.t 29)
    (.seq (.reg [⟨(some 4), none, .mv (.ns)⟩,
       ⟨(some 5), none, .mv (.i .i64 1)⟩])
     (.ret))
    (.skip)))
  (.seq (.reg [⟨(some 6), none, .mv (.ns)⟩])
   (.seq (.seq (.reg [⟨(some 7), none, .mv (.i .i64 0)⟩])
     (.block 0 (.loop (.seq (.seq (.reg [⟨(some 30), none, .mv (.t 7)⟩,
           ⟨(some 31), none, .mv (.t 1)⟩,
           ⟨(some 32), none, .bin .lss 3 (.t 30) (.t 31)⟩])
         (.cond (.t 32)
          (.skip)
          (.exit 0)))
        (.seq (.block 1 (.seq (.reg [⟨(some 8), none, .mv (.ns)⟩])
           (.seq (.seq (.reg [⟨(some 9), none, .mv (.i .i64 0)⟩])
             (.block 2 (.loop (.seq (.seq (.reg [⟨(some 35), none, .mv (.t 9)⟩,
                   ⟨(some 36), none, .mv (.t 0)⟩,
                   ⟨(some 37), none, .bin .lss 3 (.t 35) (.t 36)⟩])
                 (.cond (.t 37)
                  (.skip)
                  (.exit 2)))
                (.seq (.block 3 (.reg [⟨(some 40), none, .mv (.t 8)⟩,
                    ⟨(some 41), none, .mv (.t 7)⟩,
                    ⟨(some 42), none, .cvt 3 5 (.t 41)⟩,
                    ⟨(some 43), none, .mv (.t 1)⟩,
                    ⟨(some 44), none, .mv (.t 9)⟩,
                    ⟨(some 45), none, .bin .add 3 (.t 43) (.t 44)⟩,
                    ⟨(some 46), none, .cvt 3 5 (.t 45)⟩,
                    ⟨(some 47), none, .bin .xor 5 (.t 42) (.t 46)⟩,
                    ⟨(some 48), none, .call (.fn 72) [.t 47]⟩,
                    ⟨(some 49), none, .bsl 23 1 [(0, .t 48)]⟩,
                    ⟨(some 50), none, .bi .append [23, 23] [.t 40, .t 49]⟩,
                    ⟨(some 8), none, .mv (.t 50)⟩]))
                 (.reg [⟨(some 38), none, .mv (.t 9)⟩,
                   ⟨(some 39), none, .bin .add 3 (.t 38) (.i .i64 1)⟩,
                   ⟨(some 9), none, .mv (.t 39)⟩]))))))
            (.reg [⟨(some 51), none, .mv (.t 6)⟩,
              ⟨(some 52), none, .mv (.t 8)⟩,
              ⟨(some 53), none, .bsl 22 1 [(0, .t 52)]⟩,
              ⟨(some 54), none, .bi .append [22, 22] [.t 51, .t 53]⟩,
              ⟨(some 6), none, .mv (.t 54)⟩]))))
         (.reg [⟨(some 33), none, .mv (.t 7)⟩,
           ⟨(some 34), none, .bin .add 3 (.t 33) (.i .i64 1)⟩,
           ⟨(some 7), none, .mv (.t 34)⟩]))))))
    (.seq (.reg [⟨(some 55), none, .mv (.t 6)⟩,
       ⟨(some 4), none, .mv (.t 55)⟩,
       ⟨(some 5), none, .mv (.i .i64 0)⟩])
     (.ret)))))
theorem b38 : Body Try.prog 38 56 [4, 5] k38 := ⟨Enters.of Try.func38 (by kernel_rfl) (by kernel_rfl), _, _, Try.func38, rfl, by kernel_rfl, rfl, rfl⟩

/-- cartridge/erasure.Encode -/
def k55 : KC :=
 .seq (.reg [⟨(some 4), none, .mv (.ns)⟩,
   ⟨(some 5), none, .mv (.i .i64 0)⟩])
 (.seq (.seq (.reg [⟨(some 8), none, .mv (.t 0)⟩,
     ⟨(some 9), none, .bi .len [22] [.t 8]⟩,
     ⟨(some 10), none, .bin .lss 3 (.t 9) (.i .i64 1)⟩,
     ⟨(some 11), none, .mv (.t 10)⟩,
     ⟨(some 12), (some (11, false)), .mv (.t 0)⟩,
     ⟨(some 13), (some (11, false)), .bi .len [22] [.t 12]⟩,
     ⟨(some 14), (some (11, false)), .bin .gtr 3 (.t 13) (.i .i64 255)⟩,
     ⟨(some 15), none, .pk (.t 11) (.b true) (.t 14)⟩,
     ⟨(some 16), none, .mv (.t 15)⟩,
     ⟨(some 17), (some (16, false)), .mv (.t 1)⟩,
     ⟨(some 18), (some (16, false)), .bin .lss 3 (.t 17) (.i .i64 0)⟩,
     ⟨(some 19), none, .pk (.t 16) (.b true) (.t 18)⟩,
     ⟨(some 20), none, .mv (.t 19)⟩,
     ⟨(some 21), (some (20, false)), .mv (.t 1)⟩,
     ⟨(some 22), (some (20, false)), .mv (.t 0)⟩,
     ⟨(some 23), (some (20, false)), .bi .len [22] [.t 22]⟩,
     ⟨(some 24), (some (20, false)), .bin .sub 3 (.i .i64 255) (.t 23)⟩,
     ⟨(some 25), (some (20, false)), .bin .gtr 3 (.t 21) (.t 24)⟩,
     ⟨(some 26), none, .pk (.t 20) (.b true) (.t 25)⟩,
     ⟨(some 27), none, .mv (.t 26)⟩,
     ⟨(some 28), (some (27, false)), .mv (.t 0)⟩,
     ⟨(some 29), (some (27, false)), .call (.fn 93) [.t 28]⟩,
     ⟨(some 30), (some (27, false)), .un .not (.t 29)⟩,
     ⟨(some 31), none, .pk (.t 27) (.b true) (.t 30)⟩])
   (.cond (.t 31)
    (.seq (.reg [⟨(some 4), none, .mv (.ns)⟩,
       ⟨(some 5), none, .mv (.i .i64 1)⟩])
     (.ret))
    (.skip)))
  (.seq (.seq (.reg [⟨(some 32), none, .mv (.t 1)⟩,
      ⟨(some 33), none, .bin .eql 3 (.t 32) (.i .i64 0)⟩])
    (.cond (.t 33)
     (.seq (.reg [⟨(some 4), none, .mv (.ns)⟩,
        ⟨(some 5), none, .mv (.i .i64 0)⟩])
      (.ret))
     (.skip)))
   (.seq (.reg [⟨(some 35), none, .mv (.t 0)⟩,
      ⟨(some 36), none, .bi .len [22] [.t 35]⟩,
      ⟨(some 37), none, .mv (.t 1)⟩,
      ⟨(some 38), none, .call (.fn 37) [.t 36, .t 37]⟩,
      ⟨(some 34), none, .mv (.t 38)⟩,
      ⟨(some 39), none, .ex (.t 34) 0⟩,
      ⟨(some 40), none, .ex (.t 34) 1⟩,
      ⟨(some 6), none, .mv (.t 39)⟩,
      ⟨(some 7), none, .mv (.t 40)⟩])
    (.seq (.seq (.reg [⟨(some 41), none, .mv (.t 7)⟩,
        ⟨(some 42), none, .bin .neq 26 (.t 41) (.i .i64 0)⟩])
      (.cond (.t 42)
       (.seq (.reg [⟨(some 43), none, .mv (.t 7)⟩,
          ⟨(some 4), none, .mv (.ns)⟩,
          ⟨(some 5), none, .mv (.t 43)⟩])
        (.ret))
       (.skip)))
     (.seq (.reg [⟨(some 44), none, .mv (.t 6)⟩,
        ⟨(some 45), none, .mv (.t 0)⟩,
        ⟨(some 46), none, .call (.fn 94) [.t 44, .t 45]⟩,
        ⟨(some 4), none, .mv (.t 46)⟩,
        ⟨(some 5), none, .mv (.i .i64 0)⟩])
      (.ret))))))
theorem b55 : Body Try.prog 55 47 [4, 5] k55 := ⟨Enters.of Try.func55 (by kernel_rfl) (by kernel_rfl), _, _, Try.func55, rfl, by kernel_rfl, rfl, rfl⟩

/-- slices.IndexFunc[[][]byte,[]byte] -/
def k60 : KC :=
 .seq (.reg [⟨(some 4), none, .mv (.i .i64 0)⟩])
 (.seq (.seq (.reg [⟨(some 6), none, .mv (.t 0)⟩,
     ⟨(some 7), none, .bi .len [22] [.t 6]⟩,
     ⟨(some 8), none, .mv (.i .i64 0)⟩])
   (.block 0 (.loop (.seq (.reg [⟨(some 9), none, .bin .lss 3 (.t 8) (.t 7)⟩])
      (.seq (.cond (.t 9)
        (.skip)
        (.exit 0))
       (.seq (.block 1 (.seq (.reg [⟨(some 10), none, .mv (.t 8)⟩,
            ⟨(some 5), none, .mv (.t 10)⟩])
          (.seq (.reg [⟨(some 11), none, .mv (.t 1)⟩,
             ⟨(some 12), none, .mv (.t 0)⟩,
             ⟨(some 13), none, .mv (.t 5)⟩,
             ⟨(some 14), none, .ia 22 (.t 12) (.t 13)⟩,
             ⟨(some 15), none, .ld 23 (.t 14)⟩,
             ⟨(some 16), none, .call (.t 11) [.t 15]⟩])
           (.cond (.t 16)
            (.seq (.reg [⟨(some 17), none, .mv (.t 5)⟩,
               ⟨(some 4), none, .mv (.t 17)⟩])
             (.ret))
            (.skip)))))
        (.reg [⟨(some 18), none, .bin .add 3 (.t 8) (.i .i64 1)⟩,
          ⟨(some 8), none, .mv (.t 18)⟩])))))))
  (.seq (.reg [⟨(some 4), none, .mv (.i .i64 (-1))⟩])
   (.ret)))
theorem b60 : Body Try.prog 60 19 [4] k60 := ⟨Enters.of Try.func60 (by kernel_rfl) (by kernel_rfl), _, _, Try.func60, rfl, by kernel_rfl, rfl, rfl⟩

/-- cartridge/gf.Inv -/
def k63 : KC :=
 .seq (.reg [⟨(some 2), none, .mv (.i .u8 0)⟩])
 (.seq (.reg [⟨(some 3), none, .mv (.t 0)⟩,
    ⟨(some 4), none, .call (.fn 98) [.t 3, .i .i64 254]⟩,
    ⟨(some 2), none, .mv (.t 4)⟩])
  (.ret))
theorem b63 : Body Try.prog 63 5 [2] k63 := ⟨Enters.of Try.func63 (by kernel_rfl) (by kernel_rfl), _, _, Try.func63, rfl, by kernel_rfl, rfl, rfl⟩

/-- slices.Clone[[]byte,byte] -/
def k65 : KC :=
 .seq (.reg [⟨(some 2), none, .mv (.ns)⟩])
 (.seq (.seq (.reg [⟨(some 3), none, .mv (.t 0)⟩,
     ⟨(some 4), none, .bin .eql 23 (.t 3) (.ns)⟩])
   (.cond (.t 4)
    (.seq (.reg [⟨(some 2), none, .mv (.ns)⟩])
     (.ret))
    (.skip)))
  (.seq (.reg [⟨(some 5), none, .bsl 23 0 []⟩,
     ⟨(some 6), none, .mv (.t 0)⟩,
     ⟨(some 7), none, .bi .append [23, 23] [.t 5, .t 6]⟩,
     ⟨(some 2), none, .mv (.t 7)⟩])
   (.ret)))
theorem b65 : Body Try.prog 65 8 [2] k65 := ⟨Enters.of Try.func65 (by kernel_rfl) (by kernel_rfl), _, _, Try.func65, rfl, by kernel_rfl, rfl, rfl⟩

/-- cartridge/matrix.apply -/
noncomputable def drw66_0 : Array Oper := ((Try.f66.body.map regs).getD []).getD 0 #[]
noncomputable def k66 : KC :=
 .seq (.reg [⟨(some 4), none, .mv (.ns)⟩])
 (.seq (.reg [⟨(some 10), none, .mv (.t 0)⟩,
    ⟨(some 11), none, .bi .len [22] [.t 10]⟩,
    ⟨(some 12), none, .mk 23 (.t 11) (.t 11)⟩,
    ⟨(some 5), none, .mv (.t 12)⟩])
  (.seq (.seq (.reg [⟨(some 13), none, .mv (.t 0)⟩,
      ⟨(some 14), none, .bi .len [22] [.t 13]⟩,
      ⟨(some 15), none, .mv (.i .i64 0)⟩])
    (.block 0 (.loop (.seq (.reg [⟨(some 16), none, .bin .lss 3 (.t 15) (.t 14)⟩])
       (.seq (.cond (.t 16)
         (.skip)
         (.exit 0))
        (.seq (.block 1 (.seq (.reg [⟨(some 17), none, .mv (.t 15)⟩,
             ⟨(some 18), none, .ia 22 (.t 13) (.t 15)⟩,
             ⟨(some 19), none, .ld 23 (.t 18)⟩,
             ⟨(some 6), none, .mv (.t 17)⟩,
             ⟨(some 7), none, .mv (.t 19)⟩])
           (.seq (.reg [⟨(some 20), none, .mv (.t 7)⟩,
              ⟨(some 21), none, .bi .len [23] [.t 20]⟩,
              ⟨(some 22), none, .mv (.i .i64 0)⟩])
            (.block 2 (.loop (.seq (.reg [⟨(some 23), none, .bin .lss 3 (.t 22) (.t 21)⟩])
               (.seq (.cond (.t 23)
                 (.skip)
                 (.exit 2))
                (.seq (.block 3 (.seq (.reg [⟨(some 24), none, .mv (.t 22)⟩,
                     ⟨(some 25), none, .ia 23 (.t 20) (.t 22)⟩,
                     ⟨(some 26), none, .ld 5 (.t 25)⟩,
                     ⟨(some 8), none, .mv (.t 24)⟩,
                     ⟨(some 9), none, .mv (.t 26)⟩])
                   (.drw drw66_0 [⟨(some 27), none, .mv (.t 5)⟩,
                     ⟨(some 28), none, .mv (.t 6)⟩,
                     ⟨(some 29), none, .mv (.t 5)⟩,
                     ⟨(some 30), none, .mv (.t 6)⟩,
                     ⟨(some 31), none, .ia 23 (.t 29) (.t 30)⟩,
                     ⟨(some 32), none, .ld 5 (.t 31)⟩,
                     ⟨(some 33), none, .mv (.t 9)⟩,
                     ⟨(some 34), none, .mv (.t 1)⟩,
                     ⟨(some 35), none, .mv (.t 8)⟩,
                     ⟨(some 36), none, .ia 23 (.t 34) (.t 35)⟩,
                     ⟨(some 37), none, .ld 5 (.t 36)⟩,
                     ⟨(some 38), none, .call (.fn 97) [.t 33, .t 37]⟩,
                     ⟨(some 39), none, .call (.fn 74) [.t 32, .t 38]⟩,
                     ⟨(some 40), none, .ia 23 (.t 27) (.t 28)⟩,
                     ⟨none, none, .st 5 (.t 40) (.t 39)⟩])))
                 (.reg [⟨(some 41), none, .bin .add 3 (.t 22) (.i .i64 1)⟩,
                   ⟨(some 22), none, .mv (.t 41)⟩])))))))))
         (.reg [⟨(some 42), none, .bin .add 3 (.t 15) (.i .i64 1)⟩,
           ⟨(some 15), none, .mv (.t 42)⟩])))))))
   (.seq (.reg [⟨(some 43), none, .mv (.t 5)⟩,
      ⟨(some 4), none, .mv (.t 43)⟩])
    (.ret))))
theorem b66 : Body Try.prog 66 44 [4] k66 := ⟨Enters.of Try.func66 (by kernel_rfl) (by kernel_rfl), _, _, Try.func66, rfl, by kernel_rfl, rfl, rfl⟩

/-- slices.ContainsFunc[[][]byte,[]byte] -/
def k68 : KC :=
 .seq (.reg [⟨(some 4), none, .mv (.b false)⟩])
 (.seq (.reg [⟨(some 5), none, .mv (.t 0)⟩,
    ⟨(some 6), none, .mv (.t 1)⟩,
    ⟨(some 7), none, .call (.fn 60) [.t 5, .t 6]⟩,
    ⟨(some 8), none, .bin .geq 3 (.t 7) (.i .i64 0)⟩,
    ⟨(some 4), none, .mv (.t 8)⟩])
  (.ret))
theorem b68 : Body Try.prog 68 9 [4] k68 := ⟨Enters.of Try.func68 (by kernel_rfl) (by kernel_rfl), _, _, Try.func68, rfl, by kernel_rfl, rfl, rfl⟩

/-- cartridge/stripe.Parity$1 -/
def k69 : KC :=
 .seq (.reg [⟨(some 2), none, .mv (.b false)⟩])
 (.seq (.reg [⟨(some 3), none, .mv (.t 0)⟩,
    ⟨(some 4), none, .bi .len [23] [.t 3]⟩,
    ⟨(some 5), none, .bin .eql 3 (.t 4) (.i .i64 0)⟩,
    ⟨(some 2), none, .mv (.t 5)⟩])
  (.ret))
theorem b69 : Body Try.prog 69 6 [2] k69 := ⟨Enters.of Try.func69 (by kernel_rfl) (by kernel_rfl), _, _, Try.func69, rfl, by kernel_rfl, rfl, rfl⟩

/-- cartridge/stripe.cell -/
def k70 : KC :=
 .seq (.reg [⟨(some 2), none, .box 48 (.t 0)⟩,
   ⟨(some 4), none, .mv (.ns)⟩])
 (.seq (.seq (.reg [⟨(some 5), none, .fa 48 (.t 2) 3⟩,
     ⟨(some 6), none, .ld 4 (.t 5)⟩,
     ⟨(some 7), none, .mv (.t 6)⟩,
     ⟨(some 8), (some (7, false)), .mv (.t 1)⟩,
     ⟨(some 9), (some (7, false)), .bin .lss 3 (.t 8) (.i .i64 0)⟩,
     ⟨(some 10), none, .pk (.t 7) (.b true) (.t 9)⟩,
     ⟨(some 11), none, .mv (.t 10)⟩,
     ⟨(some 12), (some (11, false)), .mv (.t 1)⟩,
     ⟨(some 13), (some (11, false)), .fa 48 (.t 2) 2⟩,
     ⟨(some 14), (some (11, false)), .ld 22 (.t 13)⟩,
     ⟨(some 15), (some (11, false)), .bi .len [22] [.t 14]⟩,
     ⟨(some 16), (some (11, false)), .bin .geq 3 (.t 12) (.t 15)⟩,
     ⟨(some 17), none, .pk (.t 11) (.b true) (.t 16)⟩])
   (.cond (.t 17)
    (.seq (.reg [⟨(some 18), none, .mk 23 (.i .i64 79) (.i .i64 79)⟩,
       ⟨(some 4), none, .mv (.t 18)⟩])
     (.ret))
    (.skip)))
  (.seq (.seq (.reg [⟨(some 19), none, .fa 48 (.t 2) 2⟩,
      ⟨(some 20), none, .ld 22 (.t 19)⟩,
      ⟨(some 21), none, .mv (.t 1)⟩,
      ⟨(some 22), none, .ia 22 (.t 20) (.t 21)⟩,
      ⟨(some 23), none, .ld 23 (.t 22)⟩,
      ⟨(some 24), none, .bi .len [23] [.t 23]⟩,
      ⟨(some 25), none, .bin .neq 3 (.t 24) (.i .i64 79)⟩])
    (.cond (.t 25)
     (.seq (.reg [⟨(some 4), none, .mv (.ns)⟩])
      (.ret))
     (.skip)))
   (.seq (.reg [⟨(some 26), none, .fa 48 (.t 2) 2⟩,
      ⟨(some 27), none, .ld 22 (.t 26)⟩,
      ⟨(some 28), none, .mv (.t 1)⟩,
      ⟨(some 29), none, .ia 22 (.t 27) (.t 28)⟩,
      ⟨(some 30), none, .ld 23 (.t 29)⟩,
      ⟨(some 31), none, .call (.fn 65) [.t 30]⟩,
      ⟨(some 4), none, .mv (.t 31)⟩])
    (.ret))))
theorem b70 : Body Try.prog 70 32 [4] k70 := ⟨Enters.of Try.func70 (by kernel_rfl) (by kernel_rfl), _, _, Try.func70, rfl, by kernel_rfl, rfl, rfl⟩

/-- cartridge/cartridgeref1.Inv -/
def k72 : KC :=
 .seq (.reg [⟨(some 2), none, .mv (.i .u8 0)⟩])
 (.seq (.reg [⟨(some 3), none, .mv (.i .u8 1)⟩])
  (.seq (.seq (.reg [⟨(some 4), none, .mv (.i .i64 0)⟩])
    (.block 0 (.loop (.seq (.seq (.reg [⟨(some 5), none, .mv (.t 4)⟩,
          ⟨(some 6), none, .bin .lss 3 (.t 5) (.i .i64 254)⟩])
        (.cond (.t 6)
         (.skip)
         (.exit 0)))
       (.seq (.block 1 (.reg [⟨(some 9), none, .mv (.t 3)⟩,
           ⟨(some 10), none, .mv (.t 0)⟩,
           ⟨(some 11), none, .call (.fn 20) [.t 9, .t 10]⟩,
           ⟨(some 3), none, .mv (.t 11)⟩]))
        (.reg [⟨(some 7), none, .mv (.t 4)⟩,
          ⟨(some 8), none, .bin .add 3 (.t 7) (.i .i64 1)⟩,
          ⟨(some 4), none, .mv (.t 8)⟩]))))))
   (.seq (.reg [⟨(some 12), none, .mv (.t 3)⟩,
      ⟨(some 2), none, .mv (.t 12)⟩])
    (.ret))))
theorem b72 : Body Try.prog 72 13 [2] k72 := ⟨Enters.of Try.func72 (by kernel_rfl) (by kernel_rfl), _, _, Try.func72, rfl, by kernel_rfl, rfl, rfl⟩

/-- cartridge/matrix.Right$1 -/
def k73 : KC :=
 .seq (.reg [⟨(some 3), none, .mv (.b false)⟩])
 (.seq (.reg [⟨(some 4), none, .mv (.t 0)⟩,
    ⟨(some 5), none, .bi .len [23] [.t 4]⟩,
    ⟨(some 6), none, .ld 22 (.t 1)⟩,
    ⟨(some 7), none, .ia 22 (.t 6) (.i .i64 0)⟩,
    ⟨(some 8), none, .ld 23 (.t 7)⟩,
    ⟨(some 9), none, .bi .len [23] [.t 8]⟩,
    ⟨(some 10), none, .bin .neq 3 (.t 5) (.t 9)⟩,
    ⟨(some 3), none, .mv (.t 10)⟩])
  (.ret))
theorem b73 : Body Try.prog 73 11 [3] k73 := ⟨Enters.of Try.func73 (by kernel_rfl) (by kernel_rfl), _, _, Try.func73, rfl, by kernel_rfl, rfl, rfl⟩

/-- cartridge/gf.Add -/
def k74 : KC :=
 .seq (.reg [⟨(some 4), none, .mv (.i .u8 0)⟩])
 (.seq (.reg [⟨(some 5), none, .mv (.t 0)⟩,
    ⟨(some 6), none, .mv (.t 1)⟩,
    ⟨(some 7), none, .bin .xor 5 (.t 5) (.t 6)⟩,
    ⟨(some 4), none, .mv (.t 7)⟩])
  (.ret))
theorem b74 : Body Try.prog 74 8 [4] k74 := ⟨Enters.of Try.func74 (by kernel_rfl) (by kernel_rfl), _, _, Try.func74, rfl, by kernel_rfl, rfl, rfl⟩

/-- cartridge/erasure.alike -/
def k93 : KC :=
 .seq (.reg [⟨(some 1), none, .box 22 (.t 0)⟩,
   ⟨(some 2), none, .mv (.b false)⟩])
 (.seq (.reg [⟨(some 3), none, .ld 22 (.t 1)⟩,
    ⟨(some 4), none, .mf 109 [.t 1]⟩,
    ⟨(some 5), none, .call (.fn 68) [.t 3, .t 4]⟩,
    ⟨(some 6), none, .un .not (.t 5)⟩,
    ⟨(some 2), none, .mv (.t 6)⟩])
  (.ret))
theorem b93 : Body Try.prog 93 7 [2] k93 := ⟨Enters.of Try.func93 (by kernel_rfl) (by kernel_rfl), _, _, Try.func93, rfl, by kernel_rfl, rfl, rfl⟩

/-- cartridge/erasure.reckon -/
def k94 : KC :=
 .seq (.reg [⟨(some 4), none, .mv (.ns)⟩])
 (.seq (.reg [⟨(some 14), none, .mv (.t 0)⟩,
    ⟨(some 15), none, .bi .len [22] [.t 14]⟩,
    ⟨(some 16), none, .mk 22 (.t 15) (.t 15)⟩,
    ⟨(some 5), none, .mv (.t 16)⟩])
  (.seq (.seq (.reg [⟨(some 17), none, .mv (.t 1)⟩,
      ⟨(some 18), none, .ia 22 (.t 17) (.i .i64 0)⟩,
      ⟨(some 19), none, .ld 23 (.t 18)⟩,
      ⟨(some 20), none, .bi .len [23] [.t 19]⟩,
      ⟨(some 21), none, .mv (.i .i64 0)⟩])
    (.block 0 (.loop (.seq (.reg [⟨(some 22), none, .bin .lss 3 (.t 21) (.t 20)⟩])
       (.seq (.cond (.t 22)
         (.skip)
         (.exit 0))
        (.seq (.block 1 (.seq (.reg [⟨(some 23), none, .mv (.t 21)⟩,
             ⟨(some 6), none, .mv (.t 23)⟩])
           (.seq (.reg [⟨(some 7), none, .mv (.ns)⟩])
            (.seq (.seq (.reg [⟨(some 24), none, .mv (.t 1)⟩,
                ⟨(some 25), none, .bi .len [22] [.t 24]⟩,
                ⟨(some 26), none, .mv (.i .i64 0)⟩])
              (.block 2 (.loop (.seq (.reg [⟨(some 27), none, .bin .lss 3 (.t 26) (.t 25)⟩])
                 (.seq (.cond (.t 27)
                   (.skip)
                   (.exit 2))
                  (.seq (.block 3 (.seq (.reg [⟨(some 28), none, .ia 22 (.t 24) (.t 26)⟩,
                       ⟨(some 29), none, .ld 23 (.t 28)⟩,
                       ⟨(some 9), none, .mv (.t 29)⟩])
                     (.reg [⟨(some 30), none, .mv (.t 7)⟩,
                       ⟨(some 31), none, .mv (.t 9)⟩,
                       ⟨(some 32), none, .mv (.t 6)⟩,
                       ⟨(some 33), none, .ia 23 (.t 31) (.t 32)⟩,
                       ⟨(some 34), none, .ld 5 (.t 33)⟩,
                       ⟨(some 35), none, .bsl 23 1 [(0, .t 34)]⟩,
                       ⟨(some 36), none, .bi .append [23, 23] [.t 30, .t 35]⟩,
                       ⟨(some 7), none, .mv (.t 36)⟩])))
                   (.reg [⟨(some 37), none, .bin .add 3 (.t 26) (.i .i64 1)⟩,
                     ⟨(some 26), none, .mv (.t 37)⟩])))))))
             (.seq (.reg [⟨(some 39), none, .mv (.t 0)⟩,
                ⟨(some 40), none, .mv (.t 7)⟩,
                ⟨(some 41), none, .call (.fn 19) [.t 39, .t 40]⟩,
                ⟨(some 38), none, .mv (.t 41)⟩,
                ⟨(some 42), none, .ex (.t 38) 0⟩,
                ⟨(some 43), none, .ex (.t 38) 1⟩,
                ⟨(some 10), none, .mv (.t 42)⟩,
                ⟨(some 11), none, .mv (.t 43)⟩])
              (.seq (.reg [⟨(some 44), none, .mv (.t 10)⟩,
                 ⟨(some 45), none, .bi .len [23] [.t 44]⟩,
                 ⟨(some 46), none, .mv (.i .i64 0)⟩])
               (.block 4 (.loop (.seq (.reg [⟨(some 47), none, .bin .lss 3 (.t 46) (.t 45)⟩])
                  (.seq (.cond (.t 47)
                    (.skip)
                    (.exit 4))
                   (.seq (.block 5 (.seq (.reg [⟨(some 48), none, .mv (.t 46)⟩,
                        ⟨(some 49), none, .ia 23 (.t 44) (.t 46)⟩,
                        ⟨(some 50), none, .ld 5 (.t 49)⟩,
                        ⟨(some 12), none, .mv (.t 48)⟩,
                        ⟨(some 13), none, .mv (.t 50)⟩])
                      (.reg [⟨(some 51), none, .mv (.t 5)⟩,
                        ⟨(some 52), none, .mv (.t 12)⟩,
                        ⟨(some 53), none, .mv (.t 5)⟩,
                        ⟨(some 54), none, .mv (.t 12)⟩,
                        ⟨(some 55), none, .ia 22 (.t 53) (.t 54)⟩,
                        ⟨(some 56), none, .ld 23 (.t 55)⟩,
                        ⟨(some 57), none, .mv (.t 13)⟩,
                        ⟨(some 58), none, .bsl 23 1 [(0, .t 57)]⟩,
                        ⟨(some 59), none, .bi .append [23, 23] [.t 56, .t 58]⟩,
                        ⟨(some 60), none, .ia 22 (.t 51) (.t 52)⟩,
                        ⟨none, none, .st 23 (.t 60) (.t 59)⟩])))
                    (.reg [⟨(some 61), none, .bin .add 3 (.t 46) (.i .i64 1)⟩,
                      ⟨(some 46), none, .mv (.t 61)⟩]))))))))))))
         (.reg [⟨(some 62), none, .bin .add 3 (.t 21) (.i .i64 1)⟩,
           ⟨(some 21), none, .mv (.t 62)⟩])))))))
   (.seq (.reg [⟨(some 63), none, .mv (.t 5)⟩,
      ⟨(some 4), none, .mv (.t 63)⟩])
    (.ret))))
theorem b94 : Body Try.prog 94 64 [4] k94 := ⟨Enters.of Try.func94 (by kernel_rfl) (by kernel_rfl), _, _, Try.func94, rfl, by kernel_rfl, rfl, rfl⟩

/-- cartridge/gf.Mul -/
def k97 : KC :=
 .seq (.reg [⟨(some 4), none, .mv (.i .u8 0)⟩])
 (.seq (.reg [⟨(some 5), none, .mv (.i .u8 0)⟩])
  (.seq (.block 0 (.loop (.seq (.seq (.reg [⟨(some 7), none, .mv (.t 1)⟩,
         ⟨(some 8), none, .bin .neq 5 (.t 7) (.i .u8 0)⟩])
       (.cond (.t 8)
        (.skip)
        (.exit 0)))
      (.seq (.block 1 (.seq (.seq (.reg [⟨(some 11), none, .mv (.t 1)⟩,
            ⟨(some 12), none, .bin .and 5 (.t 11) (.i .u8 1)⟩,
            ⟨(some 13), none, .bin .eql 5 (.t 12) (.i .u8 1)⟩])
          (.cond (.t 13)
           (.reg [⟨(some 14), none, .mv (.t 5)⟩,
             ⟨(some 15), none, .mv (.t 0)⟩,
             ⟨(some 16), none, .bin .xor 5 (.t 14) (.t 15)⟩,
             ⟨(some 5), none, .mv (.t 16)⟩])
           (.skip)))
         (.seq (.reg [⟨(some 17), none, .mv (.t 0)⟩,
            ⟨(some 18), none, .bin .and 5 (.t 17) (.i .u8 128)⟩,
            ⟨(some 19), none, .bin .neq 5 (.t 18) (.i .u8 0)⟩,
            ⟨(some 6), none, .mv (.t 19)⟩])
          (.seq (.reg [⟨(some 20), none, .mv (.t 0)⟩,
             ⟨(some 21), none, .bin .shl 5 (.t 20) (.i .u64 1)⟩,
             ⟨(some 0), none, .mv (.t 21)⟩])
           (.seq (.reg [⟨(some 22), none, .mv (.t 6)⟩])
            (.cond (.t 22)
             (.reg [⟨(some 23), none, .mv (.t 0)⟩,
               ⟨(some 24), none, .bin .xor 5 (.t 23) (.i .u8 29)⟩,
               ⟨(some 0), none, .mv (.t 24)⟩])
             (.skip)))))))
       (.reg [⟨(some 9), none, .mv (.t 1)⟩,
         ⟨(some 10), none, .bin .shr 5 (.t 9) (.i .u64 1)⟩,
         ⟨(some 1), none, .mv (.t 10)⟩])))))
   (.seq (.reg [⟨(some 25), none, .mv (.t 5)⟩,
      ⟨(some 4), none, .mv (.t 25)⟩])
    (.ret))))
theorem b97 : Body Try.prog 97 26 [4] k97 := ⟨Enters.of Try.func97 (by kernel_rfl) (by kernel_rfl), _, _, Try.func97, rfl, by kernel_rfl, rfl, rfl⟩

/-- cartridge/gf.power -/
def k98 : KC :=
 .seq (.reg [⟨(some 4), none, .mv (.i .u8 0)⟩])
 (.seq (.reg [⟨(some 5), none, .mv (.i .u8 1)⟩])
  (.seq (.block 0 (.loop (.seq (.seq (.reg [⟨(some 6), none, .mv (.t 1)⟩,
         ⟨(some 7), none, .bin .gtr 3 (.t 6) (.i .i64 0)⟩])
       (.cond (.t 7)
        (.skip)
        (.exit 0)))
      (.seq (.block 1 (.seq (.seq (.reg [⟨(some 10), none, .mv (.t 1)⟩,
            ⟨(some 11), none, .bin .and 3 (.t 10) (.i .i64 1)⟩,
            ⟨(some 12), none, .bin .eql 3 (.t 11) (.i .i64 1)⟩])
          (.cond (.t 12)
           (.reg [⟨(some 13), none, .mv (.t 5)⟩,
             ⟨(some 14), none, .mv (.t 0)⟩,
             ⟨(some 15), none, .call (.fn 97) [.t 13, .t 14]⟩,
             ⟨(some 5), none, .mv (.t 15)⟩])
           (.skip)))
         (.reg [⟨(some 16), none, .mv (.t 0)⟩,
           ⟨(some 17), none, .mv (.t 0)⟩,
           ⟨(some 18), none, .call (.fn 97) [.t 16, .t 17]⟩,
           ⟨(some 0), none, .mv (.t 18)⟩])))
       (.reg [⟨(some 8), none, .mv (.t 1)⟩,
         ⟨(some 9), none, .bin .shr 3 (.t 8) (.i .u64 1)⟩,
         ⟨(some 1), none, .mv (.t 9)⟩])))))
   (.seq (.reg [⟨(some 19), none, .mv (.t 5)⟩,
      ⟨(some 4), none, .mv (.t 19)⟩])
    (.ret))))
theorem b98 : Body Try.prog 98 20 [4] k98 := ⟨Enters.of Try.func98 (by kernel_rfl) (by kernel_rfl), _, _, Try.func98, rfl, by kernel_rfl, rfl, rfl⟩

/-- cartridge/erasure.alike$1 -/
def k109 : KC :=
 .seq (.reg [⟨(some 3), none, .mv (.b false)⟩])
 (.seq (.reg [⟨(some 4), none, .mv (.t 0)⟩,
    ⟨(some 5), none, .bi .len [23] [.t 4]⟩,
    ⟨(some 6), none, .ld 22 (.t 1)⟩,
    ⟨(some 7), none, .ia 22 (.t 6) (.i .i64 0)⟩,
    ⟨(some 8), none, .ld 23 (.t 7)⟩,
    ⟨(some 9), none, .bi .len [23] [.t 8]⟩,
    ⟨(some 10), none, .bin .neq 3 (.t 5) (.t 9)⟩,
    ⟨(some 3), none, .mv (.t 10)⟩])
  (.ret))
theorem b109 : Body Try.prog 109 11 [3] k109 := ⟨Enters.of Try.func109 (by kernel_rfl) (by kernel_rfl), _, _, Try.func109, rfl, by kernel_rfl, rfl, rfl⟩

end Go.Proofs.Ytgkbjnhpmlfgdaa
