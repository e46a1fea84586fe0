import Derived.Test.YtndjbcnpgggddaaAmT
/- The code, cooked, and tied to the program's; written by gen.py. -/
namespace Go.Proofs.Ytndjbcnpgggddaa
open Go.AM

/-- cartridge/cartridgelaw3.ErasureLine -/
noncomputable def drw3_0 : Array Oper := ((Try.f3.body.map regs).getD []).getD 0 #[]
noncomputable def drw3_1 : Array Oper := ((Try.f3.body.map regs).getD []).getD 1 #[]
noncomputable def drw3_2 : Array Oper := ((Try.f3.body.map regs).getD []).getD 2 #[]
noncomputable def drw3_3 : Array Oper := ((Try.f3.body.map regs).getD []).getD 3 #[]
noncomputable def k3 : KC :=
 .seq (.reg [⟨(some 6), none, .mv (.b false)⟩])
 (.seq (.reg [⟨(some 20), none, .call (.fn 12) []⟩,
    ⟨(some 7), none, .mv (.t 20)⟩])
  (.seq (.seq (.reg [⟨(some 21), none, .mv (.t 7)⟩,
      ⟨(some 22), none, .un .not (.t 21)⟩,
      ⟨(some 23), none, .mv (.t 22)⟩,
      ⟨(some 24), (some (23, false)), .mv (.t 0)⟩,
      ⟨(some 25), (some (23, false)), .call (.fn 13) [.t 24]⟩,
      ⟨(some 26), (some (23, false)), .un .not (.t 25)⟩,
      ⟨(some 27), none, .pk (.t 23) (.b true) (.t 26)⟩,
      ⟨(some 28), none, .mv (.t 27)⟩,
      ⟨(some 29), (some (28, false)), .mv (.t 0)⟩,
      ⟨(some 30), (some (28, false)), .bi .len [22] [.t 29]⟩,
      ⟨(some 31), (some (28, false)), .bin .lss 3 (.t 30) (.i .i64 1)⟩,
      ⟨(some 32), none, .pk (.t 28) (.b true) (.t 31)⟩,
      ⟨(some 33), none, .mv (.t 32)⟩,
      ⟨(some 34), (some (33, false)), .mv (.t 0)⟩,
      ⟨(some 35), (some (33, false)), .bi .len [22] [.t 34]⟩,
      ⟨(some 36), (some (33, false)), .bin .gtr 3 (.t 35) (.i .i64 20)⟩,
      ⟨(some 37), none, .pk (.t 33) (.b true) (.t 36)⟩,
      ⟨(some 38), none, .mv (.t 37)⟩,
      ⟨(some 39), (some (38, false)), .mv (.t 1)⟩,
      ⟨(some 40), (some (38, false)), .bi .len [22] [.t 39]⟩,
      ⟨(some 41), (some (38, false)), .mv (.t 0)⟩,
      ⟨(some 42), (some (38, false)), .bi .len [22] [.t 41]⟩,
      ⟨(some 43), (some (38, false)), .bin .neq 3 (.t 40) (.t 42)⟩,
      ⟨(some 44), none, .pk (.t 38) (.b true) (.t 43)⟩,
      ⟨(some 45), none, .mv (.t 44)⟩,
      ⟨(some 46), (some (45, false)), .mv (.t 2)⟩,
      ⟨(some 47), (some (45, false)), .bin .lss 3 (.t 46) (.i .i64 1)⟩,
      ⟨(some 48), none, .pk (.t 45) (.b true) (.t 47)⟩,
      ⟨(some 49), none, .mv (.t 48)⟩,
      ⟨(some 50), (some (49, false)), .mv (.t 2)⟩,
      ⟨(some 51), (some (49, false)), .bin .gtr 3 (.t 50) (.i .i64 8)⟩,
      ⟨(some 52), none, .pk (.t 49) (.b true) (.t 51)⟩])
    (.cond (.t 52)
     (.seq (.reg [⟨(some 53), none, .mv (.t 7)⟩,
        ⟨(some 6), none, .mv (.t 53)⟩])
      (.ret))
     (.skip)))
   (.seq (.reg [⟨(some 8), none, .mv (.ns)⟩])
    (.seq (.seq (.reg [⟨(some 9), none, .mv (.i .i64 0)⟩])
      (.block 0 (.loop (.seq (.seq (.reg [⟨(some 54), none, .mv (.t 9)⟩,
            ⟨(some 55), none, .mv (.t 0)⟩,
            ⟨(some 56), none, .bi .len [22] [.t 55]⟩,
            ⟨(some 57), none, .bin .lss 3 (.t 54) (.t 56)⟩])
          (.cond (.t 57)
           (.skip)
           (.exit 0)))
         (.seq (.block 1 (.seq (.seq (.drw drw3_0 [⟨(some 60), none, .mv (.t 0)⟩,
               ⟨(some 61), none, .mv (.t 9)⟩,
               ⟨(some 62), none, .ia 22 (.t 60) (.t 61)⟩,
               ⟨(some 63), none, .ld 25 (.t 62)⟩,
               ⟨(some 64), none, .bi .len [25] [.t 63]⟩,
               ⟨(some 65), none, .mv (.t 0)⟩,
               ⟨(some 66), none, .ia 22 (.t 65) (.i .i64 0)⟩,
               ⟨(some 67), none, .ld 25 (.t 66)⟩,
               ⟨(some 68), none, .bi .len [25] [.t 67]⟩,
               ⟨(some 69), none, .bin .neq 3 (.t 64) (.t 68)⟩,
               ⟨(some 70), none, .mv (.t 69)⟩,
               ⟨(some 71), (some (70, false)), .mv (.t 1)⟩,
               ⟨(some 72), (some (70, false)), .mv (.t 9)⟩,
               ⟨(some 73), (some (70, false)), .ia 22 (.t 71) (.t 72)⟩,
               ⟨(some 74), (some (70, false)), .ld 25 (.t 73)⟩,
               ⟨(some 75), (some (70, false)), .bi .len [25] [.t 74]⟩,
               ⟨(some 76), (some (70, false)), .mv (.t 0)⟩,
               ⟨(some 77), (some (70, false)), .ia 22 (.t 76) (.i .i64 0)⟩,
               ⟨(some 78), (some (70, false)), .ld 25 (.t 77)⟩,
               ⟨(some 79), (some (70, false)), .bi .len [25] [.t 78]⟩,
               ⟨(some 80), (some (70, false)), .bin .neq 3 (.t 75) (.t 79)⟩,
               ⟨(some 81), none, .pk (.t 70) (.b true) (.t 80)⟩])
             (.cond (.t 81)
              (.seq (.reg [⟨(some 6), none, .mv (.b true)⟩])
               (.ret))
              (.skip)))
            (.seq (.reg [⟨(some 82), none, .mv (.t 0)⟩,
               ⟨(some 83), none, .ia 22 (.t 82) (.i .i64 0)⟩,
               ⟨(some 84), none, .ld 25 (.t 83)⟩,
               ⟨(some 85), none, .bi .len [25] [.t 84]⟩,
               ⟨(some 86), none, .mk 25 (.t 85) (.t 85)⟩,
               ⟨(some 10), none, .mv (.t 86)⟩])
             (.seq (.seq (.reg [⟨(some 11), none, .mv (.i .i64 0)⟩])
               (.block 2 (.loop (.seq (.seq (.reg [⟨(some 87), none, .mv (.t 11)⟩,
                     ⟨(some 88), none, .mv (.t 10)⟩,
                     ⟨(some 89), none, .bi .len [25] [.t 88]⟩,
                     ⟨(some 90), none, .bin .lss 3 (.t 87) (.t 89)⟩])
                   (.cond (.t 90)
                    (.skip)
                    (.exit 2)))
                  (.seq (.block 3 (.drw drw3_1 [⟨(some 93), none, .mv (.t 10)⟩,
                      ⟨(some 94), none, .mv (.t 11)⟩,
                      ⟨(some 95), none, .mv (.t 0)⟩,
                      ⟨(some 96), none, .mv (.t 9)⟩,
                      ⟨(some 97), none, .ia 22 (.t 95) (.t 96)⟩,
                      ⟨(some 98), none, .ld 25 (.t 97)⟩,
                      ⟨(some 99), none, .mv (.t 11)⟩,
                      ⟨(some 100), none, .ia 25 (.t 98) (.t 99)⟩,
                      ⟨(some 101), none, .ld 5 (.t 100)⟩,
                      ⟨(some 102), none, .mv (.t 1)⟩,
                      ⟨(some 103), none, .mv (.t 9)⟩,
                      ⟨(some 104), none, .ia 22 (.t 102) (.t 103)⟩,
                      ⟨(some 105), none, .ld 25 (.t 104)⟩,
                      ⟨(some 106), none, .mv (.t 11)⟩,
                      ⟨(some 107), none, .ia 25 (.t 105) (.t 106)⟩,
                      ⟨(some 108), none, .ld 5 (.t 107)⟩,
                      ⟨(some 109), none, .bin .xor 5 (.t 101) (.t 108)⟩,
                      ⟨(some 110), none, .ia 25 (.t 93) (.t 94)⟩,
                      ⟨none, none, .st 5 (.t 110) (.t 109)⟩]))
                   (.reg [⟨(some 91), none, .mv (.t 11)⟩,
                     ⟨(some 92), none, .bin .add 3 (.t 91) (.i .i64 1)⟩,
                     ⟨(some 11), none, .mv (.t 92)⟩]))))))
              (.reg [⟨(some 111), none, .mv (.t 8)⟩,
                ⟨(some 112), none, .mv (.t 10)⟩,
                ⟨(some 113), none, .bsl 22 1 [(0, .t 112)]⟩,
                ⟨(some 114), none, .bi .append [22, 22] [.t 111, .t 113]⟩,
                ⟨(some 8), none, .mv (.t 114)⟩])))))
          (.reg [⟨(some 58), none, .mv (.t 9)⟩,
            ⟨(some 59), none, .bin .add 3 (.t 58) (.i .i64 1)⟩,
            ⟨(some 9), none, .mv (.t 59)⟩]))))))
     (.seq (.reg [⟨(some 116), none, .mv (.t 0)⟩,
        ⟨(some 117), none, .mv (.t 2)⟩,
        ⟨(some 118), none, .call (.fn 14) [.t 116, .t 117]⟩,
        ⟨(some 115), none, .mv (.t 118)⟩,
        ⟨(some 119), none, .ex (.t 115) 0⟩,
        ⟨(some 120), none, .ex (.t 115) 1⟩,
        ⟨(some 12), none, .mv (.t 119)⟩,
        ⟨(some 13), none, .mv (.t 120)⟩])
      (.seq (.reg [⟨(some 122), none, .mv (.t 1)⟩,
         ⟨(some 123), none, .mv (.t 2)⟩,
         ⟨(some 124), none, .call (.fn 14) [.t 122, .t 123]⟩,
         ⟨(some 121), none, .mv (.t 124)⟩,
         ⟨(some 125), none, .ex (.t 121) 0⟩,
         ⟨(some 126), none, .ex (.t 121) 1⟩,
         ⟨(some 14), none, .mv (.t 125)⟩,
         ⟨(some 15), none, .mv (.t 126)⟩])
       (.seq (.reg [⟨(some 128), none, .mv (.t 8)⟩,
          ⟨(some 129), none, .mv (.t 2)⟩,
          ⟨(some 130), none, .call (.fn 14) [.t 128, .t 129]⟩,
          ⟨(some 127), none, .mv (.t 130)⟩,
          ⟨(some 131), none, .ex (.t 127) 0⟩,
          ⟨(some 132), none, .ex (.t 127) 1⟩,
          ⟨(some 16), none, .mv (.t 131)⟩,
          ⟨(some 17), none, .mv (.t 132)⟩])
        (.seq (.seq (.reg [⟨(some 133), none, .mv (.t 17)⟩,
            ⟨(some 134), none, .call (.fn 15) [.t 133]⟩,
            ⟨(some 135), none, .bin .neq 3 (.t 134) (.i .i64 0)⟩,
            ⟨(some 136), none, .mv (.t 135)⟩,
            ⟨(some 137), (some (136, false)), .mv (.t 12)⟩,
            ⟨(some 138), (some (136, false)), .bi .len [22] [.t 137]⟩,
            ⟨(some 139), (some (136, false)), .mv (.t 2)⟩,
            ⟨(some 140), (some (136, false)), .bin .neq 3 (.t 138) (.t 139)⟩,
            ⟨(some 141), none, .pk (.t 136) (.b true) (.t 140)⟩,
            ⟨(some 142), none, .mv (.t 141)⟩,
            ⟨(some 143), (some (142, false)), .mv (.t 14)⟩,
            ⟨(some 144), (some (142, false)), .bi .len [22] [.t 143]⟩,
            ⟨(some 145), (some (142, false)), .mv (.t 2)⟩,
            ⟨(some 146), (some (142, false)), .bin .neq 3 (.t 144) (.t 145)⟩,
            ⟨(some 147), none, .pk (.t 142) (.b true) (.t 146)⟩,
            ⟨(some 148), none, .mv (.t 147)⟩,
            ⟨(some 149), (some (148, false)), .mv (.t 16)⟩,
            ⟨(some 150), (some (148, false)), .bi .len [22] [.t 149]⟩,
            ⟨(some 151), (some (148, false)), .mv (.t 2)⟩,
            ⟨(some 152), (some (148, false)), .bin .neq 3 (.t 150) (.t 151)⟩,
            ⟨(some 153), none, .pk (.t 148) (.b true) (.t 152)⟩])
          (.cond (.t 153)
           (.seq (.reg [⟨(some 6), none, .mv (.b false)⟩])
            (.ret))
           (.skip)))
         (.seq (.seq (.reg [⟨(some 18), none, .mv (.i .i64 0)⟩])
           (.block 4 (.loop (.seq (.seq (.reg [⟨(some 154), none, .mv (.t 18)⟩,
                 ⟨(some 155), none, .mv (.t 2)⟩,
                 ⟨(some 156), none, .bin .lss 3 (.t 154) (.t 155)⟩])
               (.cond (.t 156)
                (.skip)
                (.exit 4)))
              (.seq (.block 5 (.seq (.seq (.drw drw3_2 [⟨(some 159), none, .mv (.t 12)⟩,
                    ⟨(some 160), none, .mv (.t 18)⟩,
                    ⟨(some 161), none, .ia 22 (.t 159) (.t 160)⟩,
                    ⟨(some 162), none, .ld 25 (.t 161)⟩,
                    ⟨(some 163), none, .bi .len [25] [.t 162]⟩,
                    ⟨(some 164), none, .mv (.t 0)⟩,
                    ⟨(some 165), none, .ia 22 (.t 164) (.i .i64 0)⟩,
                    ⟨(some 166), none, .ld 25 (.t 165)⟩,
                    ⟨(some 167), none, .bi .len [25] [.t 166]⟩,
                    ⟨(some 168), none, .bin .neq 3 (.t 163) (.t 167)⟩,
                    ⟨(some 169), none, .mv (.t 168)⟩,
                    ⟨(some 170), (some (169, false)), .mv (.t 14)⟩,
                    ⟨(some 171), (some (169, false)), .mv (.t 18)⟩,
                    ⟨(some 172), (some (169, false)), .ia 22 (.t 170) (.t 171)⟩,
                    ⟨(some 173), (some (169, false)), .ld 25 (.t 172)⟩,
                    ⟨(some 174), (some (169, false)), .bi .len [25] [.t 173]⟩,
                    ⟨(some 175), (some (169, false)), .mv (.t 0)⟩,
                    ⟨(some 176), (some (169, false)), .ia 22 (.t 175) (.i .i64 0)⟩,
                    ⟨(some 177), (some (169, false)), .ld 25 (.t 176)⟩,
                    ⟨(some 178), (some (169, false)), .bi .len [25] [.t 177]⟩,
                    ⟨(some 179), (some (169, false)), .bin .neq 3 (.t 174) (.t 178)⟩,
                    ⟨(some 180), none, .pk (.t 169) (.b true) (.t 179)⟩,
                    ⟨(some 181), none, .mv (.t 180)⟩,
                    ⟨(some 182), (some (181, false)), .mv (.t 16)⟩,
                    ⟨(some 183), (some (181, false)), .mv (.t 18)⟩,
                    ⟨(some 184), (some (181, false)), .ia 22 (.t 182) (.t 183)⟩,
                    ⟨(some 185), (some (181, false)), .ld 25 (.t 184)⟩,
                    ⟨(some 186), (some (181, false)), .bi .len [25] [.t 185]⟩,
                    ⟨(some 187), (some (181, false)), .mv (.t 0)⟩,
                    ⟨(some 188), (some (181, false)), .ia 22 (.t 187) (.i .i64 0)⟩,
                    ⟨(some 189), (some (181, false)), .ld 25 (.t 188)⟩,
                    ⟨(some 190), (some (181, false)), .bi .len [25] [.t 189]⟩,
                    ⟨(some 191), (some (181, false)), .bin .neq 3 (.t 186) (.t 190)⟩,
                    ⟨(some 192), none, .pk (.t 181) (.b true) (.t 191)⟩])
                  (.cond (.t 192)
                   (.seq (.reg [⟨(some 6), none, .mv (.b false)⟩])
                    (.ret))
                   (.skip)))
                 (.seq (.reg [⟨(some 19), none, .mv (.i .i64 0)⟩])
                  (.block 6 (.loop (.seq (.seq (.reg [⟨(some 193), none, .mv (.t 19)⟩,
                        ⟨(some 194), none, .mv (.t 16)⟩,
                        ⟨(some 195), none, .mv (.t 18)⟩,
                        ⟨(some 196), none, .ia 22 (.t 194) (.t 195)⟩,
                        ⟨(some 197), none, .ld 25 (.t 196)⟩,
                        ⟨(some 198), none, .bi .len [25] [.t 197]⟩,
                        ⟨(some 199), none, .bin .lss 3 (.t 193) (.t 198)⟩])
                      (.cond (.t 199)
                       (.skip)
                       (.exit 6)))
                     (.seq (.block 7 (.seq (.drw drw3_3 [⟨(some 202), none, .mv (.t 16)⟩,
                          ⟨(some 203), none, .mv (.t 18)⟩,
                          ⟨(some 204), none, .ia 22 (.t 202) (.t 203)⟩,
                          ⟨(some 205), none, .ld 25 (.t 204)⟩,
                          ⟨(some 206), none, .mv (.t 19)⟩,
                          ⟨(some 207), none, .ia 25 (.t 205) (.t 206)⟩,
                          ⟨(some 208), none, .ld 5 (.t 207)⟩,
                          ⟨(some 209), none, .mv (.t 12)⟩,
                          ⟨(some 210), none, .mv (.t 18)⟩,
                          ⟨(some 211), none, .ia 22 (.t 209) (.t 210)⟩,
                          ⟨(some 212), none, .ld 25 (.t 211)⟩,
                          ⟨(some 213), none, .mv (.t 19)⟩,
                          ⟨(some 214), none, .ia 25 (.t 212) (.t 213)⟩,
                          ⟨(some 215), none, .ld 5 (.t 214)⟩,
                          ⟨(some 216), none, .mv (.t 14)⟩,
                          ⟨(some 217), none, .mv (.t 18)⟩,
                          ⟨(some 218), none, .ia 22 (.t 216) (.t 217)⟩,
                          ⟨(some 219), none, .ld 25 (.t 218)⟩,
                          ⟨(some 220), none, .mv (.t 19)⟩,
                          ⟨(some 221), none, .ia 25 (.t 219) (.t 220)⟩,
                          ⟨(some 222), none, .ld 5 (.t 221)⟩,
                          ⟨(some 223), none, .bin .xor 5 (.t 215) (.t 222)⟩,
                          ⟨(some 224), none, .bin .neq 5 (.t 208) (.t 223)⟩])
                        (.cond (.t 224)
                         (.seq (.reg [⟨(some 6), none, .mv (.b false)⟩])
                          (.ret))
                         (.skip))))
                      (.reg [⟨(some 200), none, .mv (.t 19)⟩,
                        ⟨(some 201), none, .bin .add 3 (.t 200) (.i .i64 1)⟩,
                        ⟨(some 19), none, .mv (.t 201)⟩]))))))))
               (.reg [⟨(some 157), none, .mv (.t 18)⟩,
                 ⟨(some 158), none, .bin .add 3 (.t 157) (.i .i64 1)⟩,
                 ⟨(some 18), none, .mv (.t 158)⟩]))))))
          (.seq (.reg [⟨(some 6), none, .mv (.b true)⟩])
           (.ret)))))))))))
theorem b3 : Body Try.prog 3 225 [6] k3 := ⟨Enters.of Try.func3 (by kernel_rfl) (by kernel_rfl), _, _, Try.func3, rfl, by kernel_rfl, rfl, rfl⟩

/-- cartridge/cartridgelaw3.alive -/
def k12 : KC :=
 .seq (.reg [⟨(some 0), none, .mv (.b false)⟩])
 (.seq (.reg [⟨(some 6), none, .bsl 25 2 [(0, .i .u8 97), (1, .i .u8 98)]⟩,
    ⟨(some 7), none, .cvt 25 25 (.t 6)⟩,
    ⟨(some 8), none, .bsl 22 1 [(0, .t 7)]⟩,
    ⟨(some 9), none, .call (.fn 14) [.t 8, .i .i64 1]⟩,
    ⟨(some 5), none, .mv (.t 9)⟩,
    ⟨(some 10), none, .ex (.t 5) 0⟩,
    ⟨(some 11), none, .ex (.t 5) 1⟩,
    ⟨(some 1), none, .mv (.t 10)⟩,
    ⟨(some 2), none, .mv (.t 11)⟩])
  (.seq (.seq (.reg [⟨(some 12), none, .mv (.t 2)⟩,
      ⟨(some 13), none, .call (.fn 15) [.t 12]⟩,
      ⟨(some 14), none, .bin .neq 3 (.t 13) (.i .i64 0)⟩,
      ⟨(some 15), none, .mv (.t 14)⟩,
      ⟨(some 16), (some (15, false)), .mv (.t 1)⟩,
      ⟨(some 17), (some (15, false)), .bi .len [22] [.t 16]⟩,
      ⟨(some 18), (some (15, false)), .bin .neq 3 (.t 17) (.i .i64 1)⟩,
      ⟨(some 19), none, .pk (.t 15) (.b true) (.t 18)⟩])
    (.cond (.t 19)
     (.seq (.reg [⟨(some 0), none, .mv (.b false)⟩])
      (.ret))
     (.skip)))
   (.seq (.reg [⟨(some 21), none, .mv (.t 1)⟩,
      ⟨(some 22), none, .ia 22 (.t 21) (.i .i64 0)⟩,
      ⟨(some 23), none, .ld 25 (.t 22)⟩,
      ⟨(some 24), none, .bsl 22 2 [(0, .ns), (1, .t 23)]⟩,
      ⟨(some 25), none, .call (.fn 42) [.t 24, .i .i64 1]⟩,
      ⟨(some 20), none, .mv (.t 25)⟩,
      ⟨(some 26), none, .ex (.t 20) 0⟩,
      ⟨(some 27), none, .ex (.t 20) 1⟩,
      ⟨(some 3), none, .mv (.t 26)⟩,
      ⟨(some 4), none, .mv (.t 27)⟩])
    (.seq (.reg [⟨(some 28), none, .mv (.t 4)⟩,
       ⟨(some 29), none, .call (.fn 15) [.t 28]⟩,
       ⟨(some 30), none, .bin .eql 3 (.t 29) (.i .i64 0)⟩,
       ⟨(some 31), none, .mv (.t 30)⟩,
       ⟨(some 32), (some (31, true)), .mv (.t 3)⟩,
       ⟨(some 33), (some (31, true)), .bi .len [22] [.t 32]⟩,
       ⟨(some 34), (some (31, true)), .bin .eql 3 (.t 33) (.i .i64 1)⟩,
       ⟨(some 35), none, .pk (.t 31) (.t 34) (.b false)⟩,
       ⟨(some 36), none, .mv (.t 35)⟩,
       ⟨(some 37), (some (36, true)), .mv (.t 3)⟩,
       ⟨(some 38), (some (36, true)), .ia 22 (.t 37) (.i .i64 0)⟩,
       ⟨(some 39), (some (36, true)), .ld 25 (.t 38)⟩,
       ⟨(some 40), (some (36, true)), .cvt 25 9 (.t 39)⟩,
       ⟨(some 41), (some (36, true)), .bin .eql 9 (.t 40) (.s ⟨#[97, 98]⟩)⟩,
       ⟨(some 42), none, .pk (.t 36) (.t 41) (.b false)⟩,
       ⟨(some 0), none, .mv (.t 42)⟩])
     (.ret)))))
theorem b12 : Body Try.prog 12 43 [0] k12 := ⟨Enters.of Try.func12 (by kernel_rfl) (by kernel_rfl), _, _, Try.func12, rfl, by kernel_rfl, rfl, rfl⟩

/-- cartridge/cartridgelaw2.Few -/
def k13 : KC :=
 .seq (.reg [⟨(some 2), none, .mv (.b false)⟩])
 (.seq (.reg [⟨(some 3), none, .mv (.i .i64 0)⟩])
  (.seq (.seq (.reg [⟨(some 4), none, .mv (.i .i64 0)⟩])
    (.block 0 (.loop (.seq (.seq (.reg [⟨(some 5), none, .mv (.t 4)⟩,
          ⟨(some 6), none, .mv (.t 0)⟩,
          ⟨(some 7), none, .bi .len [22] [.t 6]⟩,
          ⟨(some 8), none, .bin .lss 3 (.t 5) (.t 7)⟩,
          ⟨(some 9), none, .mv (.t 8)⟩,
          ⟨(some 10), (some (9, true)), .mv (.t 3)⟩,
          ⟨(some 11), (some (9, true)), .bin .leq 3 (.t 10) (.i .i64 2000)⟩,
          ⟨(some 12), none, .pk (.t 9) (.t 11) (.b false)⟩])
        (.cond (.t 12)
         (.skip)
         (.exit 0)))
       (.seq (.block 1 (.reg [⟨(some 15), none, .mv (.t 3)⟩,
           ⟨(some 16), none, .bin .add 3 (.t 15) (.i .i64 1)⟩,
           ⟨(some 17), none, .mv (.t 0)⟩,
           ⟨(some 18), none, .mv (.t 4)⟩,
           ⟨(some 19), none, .ia 22 (.t 17) (.t 18)⟩,
           ⟨(some 20), none, .ld 25 (.t 19)⟩,
           ⟨(some 21), none, .bi .len [25] [.t 20]⟩,
           ⟨(some 22), none, .bin .add 3 (.t 16) (.t 21)⟩,
           ⟨(some 3), none, .mv (.t 22)⟩]))
        (.reg [⟨(some 13), none, .mv (.t 4)⟩,
          ⟨(some 14), none, .bin .add 3 (.t 13) (.i .i64 1)⟩,
          ⟨(some 4), none, .mv (.t 14)⟩]))))))
   (.seq (.reg [⟨(some 23), none, .mv (.t 3)⟩,
      ⟨(some 24), none, .bin .leq 3 (.t 23) (.i .i64 2000)⟩,
      ⟨(some 2), none, .mv (.t 24)⟩])
    (.ret))))
theorem b13 : Body Try.prog 13 25 [2] k13 := ⟨Enters.of Try.func13 (by kernel_rfl) (by kernel_rfl), _, _, Try.func13, rfl, by kernel_rfl, rfl, rfl⟩

/-- cartridge/erasure.Encode -/
def k14 : KC :=
 .seq (.reg [⟨(some 4), none, .mv (.ns)⟩,
   ⟨(some 5), none, .mv (.i .i64 0)⟩])
 (.seq (.seq (.reg [⟨(some 8), none, .mv (.t 0)⟩,
     ⟨(some 9), none, .bi .len [22] [.t 8]⟩,
     ⟨(some 10), none, .bin .lss 3 (.t 9) (.i .i64 1)⟩,
     ⟨(some 11), none, .mv (.t 10)⟩,
     ⟨(some 12), (some (11, false)), .mv (.t 0)⟩,
     ⟨(some 13), (some (11, false)), .bi .len [22] [.t 12]⟩,
     ⟨(some 14), (some (11, false)), .bin .gtr 3 (.t 13) (.i .i64 255)⟩,
     ⟨(some 15), none, .pk (.t 11) (.b true) (.t 14)⟩,
     ⟨(some 16), none, .mv (.t 15)⟩,
     ⟨(some 17), (some (16, false)), .mv (.t 1)⟩,
     ⟨(some 18), (some (16, false)), .bin .lss 3 (.t 17) (.i .i64 0)⟩,
     ⟨(some 19), none, .pk (.t 16) (.b true) (.t 18)⟩,
     ⟨(some 20), none, .mv (.t 19)⟩,
     ⟨(some 21), (some (20, false)), .mv (.t 1)⟩,
     ⟨(some 22), (some (20, false)), .mv (.t 0)⟩,
     ⟨(some 23), (some (20, false)), .bi .len [22] [.t 22]⟩,
     ⟨(some 24), (some (20, false)), .bin .sub 3 (.i .i64 255) (.t 23)⟩,
     ⟨(some 25), (some (20, false)), .bin .gtr 3 (.t 21) (.t 24)⟩,
     ⟨(some 26), none, .pk (.t 20) (.b true) (.t 25)⟩,
     ⟨(some 27), none, .mv (.t 26)⟩,
     ⟨(some 28), (some (27, false)), .mv (.t 0)⟩,
     ⟨(some 29), (some (27, false)), .call (.fn 43) [.t 28]⟩,
     ⟨(some 30), (some (27, false)), .un .not (.t 29)⟩,
     ⟨(some 31), none, .pk (.t 27) (.b true) (.t 30)⟩])
   (.cond (.t 31)
    (.seq (.reg [⟨(some 4), none, .mv (.ns)⟩,
       ⟨(some 5), none, .mv (.i .i64 1)⟩])
     (.ret))
    (.skip)))
  (.seq (.seq (.reg [⟨(some 32), none, .mv (.t 1)⟩,
      ⟨(some 33), none, .bin .eql 3 (.t 32) (.i .i64 0)⟩])
    (.cond (.t 33)
     (.seq (.reg [⟨(some 4), none, .mv (.ns)⟩,
        ⟨(some 5), none, .mv (.i .i64 0)⟩])
      (.ret))
     (.skip)))
   (.seq (.reg [⟨(some 35), none, .mv (.t 0)⟩,
      ⟨(some 36), none, .bi .len [22] [.t 35]⟩,
      ⟨(some 37), none, .mv (.t 1)⟩,
      ⟨(some 38), none, .call (.fn 44) [.t 36, .t 37]⟩,
      ⟨(some 34), none, .mv (.t 38)⟩,
      ⟨(some 39), none, .ex (.t 34) 0⟩,
      ⟨(some 40), none, .ex (.t 34) 1⟩,
      ⟨(some 6), none, .mv (.t 39)⟩,
      ⟨(some 7), none, .mv (.t 40)⟩])
    (.seq (.seq (.reg [⟨(some 41), none, .mv (.t 7)⟩,
        ⟨(some 42), none, .bin .neq 26 (.t 41) (.i .i64 0)⟩])
      (.cond (.t 42)
       (.seq (.reg [⟨(some 43), none, .mv (.t 7)⟩,
          ⟨(some 4), none, .mv (.ns)⟩,
          ⟨(some 5), none, .mv (.t 43)⟩])
        (.ret))
       (.skip)))
     (.seq (.reg [⟨(some 44), none, .mv (.t 6)⟩,
        ⟨(some 45), none, .mv (.t 0)⟩,
        ⟨(some 46), none, .call (.fn 45) [.t 44, .t 45]⟩,
        ⟨(some 4), none, .mv (.t 46)⟩,
        ⟨(some 5), none, .mv (.i .i64 0)⟩])
      (.ret))))))
theorem b14 : Body Try.prog 14 47 [4, 5] k14 := ⟨Enters.of Try.func14 (by kernel_rfl) (by kernel_rfl), _, _, Try.func14, rfl, by kernel_rfl, rfl, rfl⟩

/-- cartridge/cartridgelaw3.num -/
def k15 : KC :=
 .seq (.reg [⟨(some 2), none, .mv (.i .i64 0)⟩])
 (.seq (.reg [⟨(some 3), none, .mv (.t 0)⟩,
    ⟨(some 2), none, .mv (.t 3)⟩])
  (.ret))
theorem b15 : Body Try.prog 15 4 [2] k15 := ⟨Enters.of Try.func15 (by kernel_rfl) (by kernel_rfl), _, _, Try.func15, rfl, by kernel_rfl, rfl, rfl⟩

/-- cartridge/erasure.Decode -/
def k42 : KC :=
 .seq (.reg [⟨(some 4), none, .mv (.ns)⟩,
   ⟨(some 5), none, .mv (.i .i64 0)⟩])
 (.seq (.reg [⟨(some 6), none, .mv (.ns)⟩])
  (.seq (.seq (.reg [⟨(some 14), none, .mv (.t 0)⟩,
      ⟨(some 15), none, .bi .len [22] [.t 14]⟩,
      ⟨(some 16), none, .mv (.i .i64 0)⟩])
    (.block 0 (.loop (.seq (.reg [⟨(some 17), none, .bin .lss 3 (.t 16) (.t 15)⟩])
       (.seq (.cond (.t 17)
         (.skip)
         (.exit 0))
        (.seq (.block 1 (.seq (.reg [⟨(some 18), none, .ia 22 (.t 14) (.t 16)⟩,
             ⟨(some 19), none, .ld 25 (.t 18)⟩,
             ⟨(some 8), none, .mv (.t 19)⟩])
           (.seq (.reg [⟨(some 20), none, .mv (.t 8)⟩,
              ⟨(some 21), none, .bi .len [25] [.t 20]⟩,
              ⟨(some 22), none, .bin .gtr 3 (.t 21) (.i .i64 0)⟩])
            (.cond (.t 22)
             (.reg [⟨(some 23), none, .mv (.t 6)⟩,
               ⟨(some 24), none, .mv (.t 8)⟩,
               ⟨(some 25), none, .bsl 22 1 [(0, .t 24)]⟩,
               ⟨(some 26), none, .bi .append [22, 22] [.t 23, .t 25]⟩,
               ⟨(some 6), none, .mv (.t 26)⟩])
             (.skip)))))
         (.reg [⟨(some 27), none, .bin .add 3 (.t 16) (.i .i64 1)⟩,
           ⟨(some 16), none, .mv (.t 27)⟩])))))))
   (.seq (.block 2 (.seq (.reg [⟨(some 29), none, .mv (.t 1)⟩,
        ⟨(some 30), none, .bin .lss 3 (.t 29) (.i .i64 1)⟩,
        ⟨(some 31), none, .mv (.t 30)⟩,
        ⟨(some 32), (some (31, false)), .mv (.t 1)⟩,
        ⟨(some 33), (some (31, false)), .mv (.t 0)⟩,
        ⟨(some 34), (some (31, false)), .bi .len [22] [.t 33]⟩,
        ⟨(some 35), (some (31, false)), .bin .gtr 3 (.t 32) (.t 34)⟩,
        ⟨(some 36), none, .pk (.t 31) (.b true) (.t 35)⟩,
        ⟨(some 37), none, .mv (.t 36)⟩,
        ⟨(some 38), (some (37, false)), .mv (.t 0)⟩,
        ⟨(some 39), (some (37, false)), .bi .len [22] [.t 38]⟩,
        ⟨(some 40), (some (37, false)), .bin .gtr 3 (.t 39) (.i .i64 255)⟩,
        ⟨(some 41), none, .pk (.t 37) (.b true) (.t 40)⟩,
        ⟨(some 42), none, .mv (.t 41)⟩,
        ⟨(some 43), (some (42, false)), .mv (.t 6)⟩,
        ⟨(some 44), (some (42, false)), .bi .len [22] [.t 43]⟩,
        ⟨(some 45), (some (42, false)), .bin .eql 3 (.t 44) (.i .i64 0)⟩,
        ⟨(some 46), none, .pk (.t 42) (.b true) (.t 45)⟩,
        ⟨(some 47), none, .mv (.t 46)⟩,
        ⟨(some 48), (some (47, false)), .mv (.t 6)⟩,
        ⟨(some 49), (some (47, false)), .call (.fn 43) [.t 48]⟩,
        ⟨(some 50), (some (47, false)), .un .not (.t 49)⟩,
        ⟨(some 51), none, .pk (.t 47) (.b true) (.t 50)⟩,
        ⟨(some 28), none, .mv (.t 51)⟩])
      (.cond (.t 28)
       (.seq (.reg [⟨(some 4), none, .mv (.ns)⟩,
          ⟨(some 5), none, .mv (.i .i64 1)⟩])
        (.ret))
       (.seq (.reg [⟨(some 53), none, .mv (.t 6)⟩,
          ⟨(some 54), none, .bi .len [22] [.t 53]⟩,
          ⟨(some 55), none, .mv (.t 1)⟩,
          ⟨(some 56), none, .bin .lss 3 (.t 54) (.t 55)⟩,
          ⟨(some 52), none, .mv (.t 56)⟩])
        (.cond (.t 52)
         (.seq (.reg [⟨(some 4), none, .mv (.ns)⟩,
            ⟨(some 5), none, .mv (.i .i64 10)⟩])
          (.ret))
         (.skip))))))
    (.seq (.reg [⟨(some 9), none, .mv (.ns)⟩])
     (.seq (.seq (.reg [⟨(some 57), none, .mv (.t 1)⟩,
         ⟨(some 58), none, .mv (.t 0)⟩,
         ⟨(some 59), none, .bi .len [22] [.t 58]⟩,
         ⟨(some 60), none, .call (.fn 78) [.t 57, .t 59]⟩,
         ⟨(some 61), none, .bi .len [22] [.t 60]⟩,
         ⟨(some 62), none, .mv (.i .i64 0)⟩])
       (.block 3 (.loop (.seq (.reg [⟨(some 63), none, .bin .lss 3 (.t 62) (.t 61)⟩])
          (.seq (.cond (.t 63)
            (.skip)
            (.exit 3))
           (.seq (.block 4 (.seq (.reg [⟨(some 64), none, .mv (.t 62)⟩,
                ⟨(some 65), none, .ia 22 (.t 60) (.t 62)⟩,
                ⟨(some 66), none, .ld 25 (.t 65)⟩,
                ⟨(some 10), none, .mv (.t 64)⟩,
                ⟨(some 11), none, .mv (.t 66)⟩])
              (.seq (.reg [⟨(some 67), none, .mv (.t 0)⟩,
                 ⟨(some 68), none, .mv (.t 10)⟩,
                 ⟨(some 69), none, .ia 22 (.t 67) (.t 68)⟩,
                 ⟨(some 70), none, .ld 25 (.t 69)⟩,
                 ⟨(some 71), none, .bi .len [25] [.t 70]⟩,
                 ⟨(some 72), none, .bin .gtr 3 (.t 71) (.i .i64 0)⟩,
                 ⟨(some 73), none, .mv (.t 72)⟩,
                 ⟨(some 74), (some (73, true)), .mv (.t 9)⟩,
                 ⟨(some 75), (some (73, true)), .bi .len [22] [.t 74]⟩,
                 ⟨(some 76), (some (73, true)), .mv (.t 1)⟩,
                 ⟨(some 77), (some (73, true)), .bin .lss 3 (.t 75) (.t 76)⟩,
                 ⟨(some 78), none, .pk (.t 73) (.t 77) (.b false)⟩])
               (.cond (.t 78)
                (.reg [⟨(some 79), none, .mv (.t 9)⟩,
                  ⟨(some 80), none, .mv (.t 11)⟩,
                  ⟨(some 81), none, .bsl 22 1 [(0, .t 80)]⟩,
                  ⟨(some 82), none, .bi .append [22, 22] [.t 79, .t 81]⟩,
                  ⟨(some 9), none, .mv (.t 82)⟩])
                (.skip)))))
            (.reg [⟨(some 83), none, .bin .add 3 (.t 62) (.i .i64 1)⟩,
              ⟨(some 62), none, .mv (.t 83)⟩])))))))
      (.seq (.reg [⟨(some 85), none, .mv (.t 9)⟩,
         ⟨(some 86), none, .call (.fn 79) [.t 85]⟩,
         ⟨(some 84), none, .mv (.t 86)⟩,
         ⟨(some 87), none, .ex (.t 84) 0⟩,
         ⟨(some 88), none, .ex (.t 84) 1⟩,
         ⟨(some 12), none, .mv (.t 87)⟩,
         ⟨(some 13), none, .mv (.t 88)⟩])
       (.seq (.seq (.reg [⟨(some 89), none, .mv (.t 13)⟩,
           ⟨(some 90), none, .bin .neq 26 (.t 89) (.i .i64 0)⟩])
         (.cond (.t 90)
          (.seq (.reg [⟨(some 91), none, .mv (.t 13)⟩,
             ⟨(some 4), none, .mv (.ns)⟩,
             ⟨(some 5), none, .mv (.t 91)⟩])
           (.ret))
          (.skip)))
        (.seq (.reg [⟨(some 92), none, .mv (.t 12)⟩,
           ⟨(some 93), none, .mv (.t 6)⟩,
           ⟨(some 94), none, .mv (.t 1)⟩,
           ⟨(some 95), none, .sli 22 (.t 93) none (some (.t 94)) none⟩,
           ⟨(some 96), none, .call (.fn 45) [.t 92, .t 95]⟩,
           ⟨(some 4), none, .mv (.t 96)⟩,
           ⟨(some 5), none, .mv (.i .i64 0)⟩])
         (.ret)))))))))
theorem b42 : Body Try.prog 42 97 [4, 5] k42 := ⟨Enters.of Try.func42 (by kernel_rfl) (by kernel_rfl), _, _, Try.func42, rfl, by kernel_rfl, rfl, rfl⟩

/-- cartridge/erasure.alike -/
def k43 : KC :=
 .seq (.reg [⟨(some 1), none, .box 22 (.t 0)⟩,
   ⟨(some 2), none, .mv (.b false)⟩])
 (.seq (.reg [⟨(some 3), none, .ld 22 (.t 1)⟩,
    ⟨(some 4), none, .mf 81 [.t 1]⟩,
    ⟨(some 5), none, .call (.fn 80) [.t 3, .t 4]⟩,
    ⟨(some 6), none, .un .not (.t 5)⟩,
    ⟨(some 2), none, .mv (.t 6)⟩])
  (.ret))
theorem b43 : Body Try.prog 43 7 [2] k43 := ⟨Enters.of Try.func43 (by kernel_rfl) (by kernel_rfl), _, _, Try.func43, rfl, by kernel_rfl, rfl, rfl⟩

/-- cartridge/matrix.Cauchy -/
def k44 : KC :=
 .seq (.reg [⟨(some 4), none, .mv (.ns)⟩,
   ⟨(some 5), none, .mv (.i .i64 0)⟩])
 (.seq (.seq (.reg [⟨(some 10), none, .mv (.t 0)⟩,
     ⟨(some 11), none, .bin .lss 3 (.t 10) (.i .i64 1)⟩,
     ⟨(some 12), none, .mv (.t 11)⟩,
     ⟨(some 13), (some (12, false)), .mv (.t 1)⟩,
     ⟨(some 14), (some (12, false)), .bin .lss 3 (.t 13) (.i .i64 1)⟩,
     ⟨(some 15), none, .pk (.t 12) (.b true) (.t 14)⟩,
     ⟨(some 16), none, .mv (.t 15)⟩,
     ⟨(some 17), (some (16, false)), .mv (.t 0)⟩,
     ⟨(some 18), (some (16, false)), .bin .gtr 3 (.t 17) (.i .i64 255)⟩,
     ⟨(some 19), none, .pk (.t 16) (.b true) (.t 18)⟩,
     ⟨(some 20), none, .mv (.t 19)⟩,
     ⟨(some 21), (some (20, false)), .mv (.t 1)⟩,
     ⟨(some 22), (some (20, false)), .mv (.t 0)⟩,
     ⟨(some 23), (some (20, false)), .bin .sub 3 (.i .i64 255) (.t 22)⟩,
     ⟨(some 24), (some (20, false)), .bin .gtr 3 (.t 21) (.t 23)⟩,
     ⟨(some 25), none, .pk (.t 20) (.b true) (.t 24)⟩])
   (.cond (.t 25)
    (.seq (.reg [⟨(some 4), none, .mv (.ns)⟩,
       ⟨(some 5), none, .mv (.i .i64 1)⟩])
     (.ret))
    (.skip)))
  (.seq (.reg [⟨(some 6), none, .mv (.ns)⟩])
   (.seq (.seq (.reg [⟨(some 26), none, .mv (.t 1)⟩,
       ⟨(some 27), none, .mv (.i .i64 0)⟩])
     (.block 0 (.loop (.seq (.reg [⟨(some 28), none, .bin .lss 3 (.t 27) (.t 26)⟩])
        (.seq (.cond (.t 28)
          (.skip)
          (.exit 0))
         (.seq (.block 1 (.seq (.reg [⟨(some 29), none, .mv (.t 27)⟩,
              ⟨(some 7), none, .mv (.t 29)⟩])
            (.seq (.reg [⟨(some 8), none, .mv (.ns)⟩])
             (.seq (.seq (.reg [⟨(some 30), none, .mv (.t 0)⟩,
                 ⟨(some 31), none, .mv (.i .i64 0)⟩])
               (.block 2 (.loop (.seq (.reg [⟨(some 32), none, .bin .lss 3 (.t 31) (.t 30)⟩])
                  (.seq (.cond (.t 32)
                    (.skip)
                    (.exit 2))
                   (.seq (.block 3 (.seq (.reg [⟨(some 33), none, .mv (.t 31)⟩,
                        ⟨(some 9), none, .mv (.t 33)⟩])
                      (.reg [⟨(some 34), none, .mv (.t 8)⟩,
                        ⟨(some 35), none, .mv (.t 7)⟩,
                        ⟨(some 36), none, .cvt 3 5 (.t 35)⟩,
                        ⟨(some 37), none, .mv (.t 1)⟩,
                        ⟨(some 38), none, .mv (.t 9)⟩,
                        ⟨(some 39), none, .bin .add 3 (.t 37) (.t 38)⟩,
                        ⟨(some 40), none, .cvt 3 5 (.t 39)⟩,
                        ⟨(some 41), none, .call (.fn 83) [.t 36, .t 40]⟩,
                        ⟨(some 42), none, .call (.fn 82) [.t 41]⟩,
                        ⟨(some 43), none, .bsl 25 1 [(0, .t 42)]⟩,
                        ⟨(some 44), none, .bi .append [25, 25] [.t 34, .t 43]⟩,
                        ⟨(some 8), none, .mv (.t 44)⟩])))
                    (.reg [⟨(some 45), none, .bin .add 3 (.t 31) (.i .i64 1)⟩,
                      ⟨(some 31), none, .mv (.t 45)⟩])))))))
              (.reg [⟨(some 46), none, .mv (.t 6)⟩,
                ⟨(some 47), none, .mv (.t 8)⟩,
                ⟨(some 48), none, .bsl 22 1 [(0, .t 47)]⟩,
                ⟨(some 49), none, .bi .append [22, 22] [.t 46, .t 48]⟩,
                ⟨(some 6), none, .mv (.t 49)⟩])))))
          (.reg [⟨(some 50), none, .bin .add 3 (.t 27) (.i .i64 1)⟩,
            ⟨(some 27), none, .mv (.t 50)⟩])))))))
    (.seq (.reg [⟨(some 51), none, .mv (.t 6)⟩,
       ⟨(some 4), none, .mv (.t 51)⟩,
       ⟨(some 5), none, .mv (.i .i64 0)⟩])
     (.ret)))))
theorem b44 : Body Try.prog 44 52 [4, 5] k44 := ⟨Enters.of Try.func44 (by kernel_rfl) (by kernel_rfl), _, _, Try.func44, rfl, by kernel_rfl, rfl, rfl⟩

/-- cartridge/erasure.reckon -/
def k45 : KC :=
 .seq (.reg [⟨(some 4), none, .mv (.ns)⟩])
 (.seq (.reg [⟨(some 14), none, .mv (.t 0)⟩,
    ⟨(some 15), none, .bi .len [22] [.t 14]⟩,
    ⟨(some 16), none, .mk 22 (.t 15) (.t 15)⟩,
    ⟨(some 5), none, .mv (.t 16)⟩])
  (.seq (.seq (.reg [⟨(some 17), none, .mv (.t 1)⟩,
      ⟨(some 18), none, .ia 22 (.t 17) (.i .i64 0)⟩,
      ⟨(some 19), none, .ld 25 (.t 18)⟩,
      ⟨(some 20), none, .bi .len [25] [.t 19]⟩,
      ⟨(some 21), none, .mv (.i .i64 0)⟩])
    (.block 0 (.loop (.seq (.reg [⟨(some 22), none, .bin .lss 3 (.t 21) (.t 20)⟩])
       (.seq (.cond (.t 22)
         (.skip)
         (.exit 0))
        (.seq (.block 1 (.seq (.reg [⟨(some 23), none, .mv (.t 21)⟩,
             ⟨(some 6), none, .mv (.t 23)⟩])
           (.seq (.reg [⟨(some 7), none, .mv (.ns)⟩])
            (.seq (.seq (.reg [⟨(some 24), none, .mv (.t 1)⟩,
                ⟨(some 25), none, .bi .len [22] [.t 24]⟩,
                ⟨(some 26), none, .mv (.i .i64 0)⟩])
              (.block 2 (.loop (.seq (.reg [⟨(some 27), none, .bin .lss 3 (.t 26) (.t 25)⟩])
                 (.seq (.cond (.t 27)
                   (.skip)
                   (.exit 2))
                  (.seq (.block 3 (.seq (.reg [⟨(some 28), none, .ia 22 (.t 24) (.t 26)⟩,
                       ⟨(some 29), none, .ld 25 (.t 28)⟩,
                       ⟨(some 9), none, .mv (.t 29)⟩])
                     (.reg [⟨(some 30), none, .mv (.t 7)⟩,
                       ⟨(some 31), none, .mv (.t 9)⟩,
                       ⟨(some 32), none, .mv (.t 6)⟩,
                       ⟨(some 33), none, .ia 25 (.t 31) (.t 32)⟩,
                       ⟨(some 34), none, .ld 5 (.t 33)⟩,
                       ⟨(some 35), none, .bsl 25 1 [(0, .t 34)]⟩,
                       ⟨(some 36), none, .bi .append [25, 25] [.t 30, .t 35]⟩,
                       ⟨(some 7), none, .mv (.t 36)⟩])))
                   (.reg [⟨(some 37), none, .bin .add 3 (.t 26) (.i .i64 1)⟩,
                     ⟨(some 26), none, .mv (.t 37)⟩])))))))
             (.seq (.reg [⟨(some 39), none, .mv (.t 0)⟩,
                ⟨(some 40), none, .mv (.t 7)⟩,
                ⟨(some 41), none, .call (.fn 84) [.t 39, .t 40]⟩,
                ⟨(some 38), none, .mv (.t 41)⟩,
                ⟨(some 42), none, .ex (.t 38) 0⟩,
                ⟨(some 43), none, .ex (.t 38) 1⟩,
                ⟨(some 10), none, .mv (.t 42)⟩,
                ⟨(some 11), none, .mv (.t 43)⟩])
              (.seq (.reg [⟨(some 44), none, .mv (.t 10)⟩,
                 ⟨(some 45), none, .bi .len [25] [.t 44]⟩,
                 ⟨(some 46), none, .mv (.i .i64 0)⟩])
               (.block 4 (.loop (.seq (.reg [⟨(some 47), none, .bin .lss 3 (.t 46) (.t 45)⟩])
                  (.seq (.cond (.t 47)
                    (.skip)
                    (.exit 4))
                   (.seq (.block 5 (.seq (.reg [⟨(some 48), none, .mv (.t 46)⟩,
                        ⟨(some 49), none, .ia 25 (.t 44) (.t 46)⟩,
                        ⟨(some 50), none, .ld 5 (.t 49)⟩,
                        ⟨(some 12), none, .mv (.t 48)⟩,
                        ⟨(some 13), none, .mv (.t 50)⟩])
                      (.reg [⟨(some 51), none, .mv (.t 5)⟩,
                        ⟨(some 52), none, .mv (.t 12)⟩,
                        ⟨(some 53), none, .mv (.t 5)⟩,
                        ⟨(some 54), none, .mv (.t 12)⟩,
                        ⟨(some 55), none, .ia 22 (.t 53) (.t 54)⟩,
                        ⟨(some 56), none, .ld 25 (.t 55)⟩,
                        ⟨(some 57), none, .mv (.t 13)⟩,
                        ⟨(some 58), none, .bsl 25 1 [(0, .t 57)]⟩,
                        ⟨(some 59), none, .bi .append [25, 25] [.t 56, .t 58]⟩,
                        ⟨(some 60), none, .ia 22 (.t 51) (.t 52)⟩,
                        ⟨none, none, .st 25 (.t 60) (.t 59)⟩])))
                    (.reg [⟨(some 61), none, .bin .add 3 (.t 46) (.i .i64 1)⟩,
                      ⟨(some 46), none, .mv (.t 61)⟩]))))))))))))
         (.reg [⟨(some 62), none, .bin .add 3 (.t 21) (.i .i64 1)⟩,
           ⟨(some 21), none, .mv (.t 62)⟩])))))))
   (.seq (.reg [⟨(some 63), none, .mv (.t 5)⟩,
      ⟨(some 4), none, .mv (.t 63)⟩])
    (.ret))))
theorem b45 : Body Try.prog 45 64 [4] k45 := ⟨Enters.of Try.func45 (by kernel_rfl) (by kernel_rfl), _, _, Try.func45, rfl, by kernel_rfl, rfl, rfl⟩

/-- slices.Clone[[]byte,byte] -/
def k61 : KC :=
 .seq (.reg [⟨(some 2), none, .mv (.ns)⟩])
 (.seq (.seq (.reg [⟨(some 3), none, .mv (.t 0)⟩,
     ⟨(some 4), none, .bin .eql 25 (.t 3) (.ns)⟩])
   (.cond (.t 4)
    (.seq (.reg [⟨(some 2), none, .mv (.ns)⟩])
     (.ret))
    (.skip)))
  (.seq (.reg [⟨(some 5), none, .bsl 25 0 []⟩,
     ⟨(some 6), none, .mv (.t 0)⟩,
     ⟨(some 7), none, .bi .append [25, 25] [.t 5, .t 6]⟩,
     ⟨(some 2), none, .mv (.t 7)⟩])
   (.ret)))
theorem b61 : Body Try.prog 61 8 [2] k61 := ⟨Enters.of Try.func61 (by kernel_rfl) (by kernel_rfl), _, _, Try.func61, rfl, by kernel_rfl, rfl, rfl⟩

/-- cartridge/erasure.rows -/
def k78 : KC :=
 .seq (.reg [⟨(some 4), none, .mv (.ns)⟩])
 (.seq (.reg [⟨(some 5), none, .mv (.ns)⟩])
  (.seq (.seq (.reg [⟨(some 10), none, .mv (.t 0)⟩,
      ⟨(some 11), none, .mv (.i .i64 0)⟩])
    (.block 0 (.loop (.seq (.reg [⟨(some 12), none, .bin .lss 3 (.t 11) (.t 10)⟩])
       (.seq (.cond (.t 12)
         (.skip)
         (.exit 0))
        (.seq (.block 1 (.seq (.reg [⟨(some 13), none, .mv (.t 11)⟩,
             ⟨(some 6), none, .mv (.t 13)⟩])
           (.seq (.reg [⟨(some 14), none, .mv (.t 0)⟩,
              ⟨(some 15), none, .mk 25 (.t 14) (.t 14)⟩,
              ⟨(some 7), none, .mv (.t 15)⟩])
            (.seq (.reg [⟨(some 16), none, .mv (.t 7)⟩,
               ⟨(some 17), none, .mv (.t 6)⟩,
               ⟨(some 18), none, .ia 25 (.t 16) (.t 17)⟩,
               ⟨none, none, .st 5 (.t 18) (.i .u8 1)⟩])
             (.reg [⟨(some 19), none, .mv (.t 5)⟩,
               ⟨(some 20), none, .mv (.t 7)⟩,
               ⟨(some 21), none, .bsl 22 1 [(0, .t 20)]⟩,
               ⟨(some 22), none, .bi .append [22, 22] [.t 19, .t 21]⟩,
               ⟨(some 5), none, .mv (.t 22)⟩])))))
         (.reg [⟨(some 23), none, .bin .add 3 (.t 11) (.i .i64 1)⟩,
           ⟨(some 11), none, .mv (.t 23)⟩])))))))
   (.seq (.seq (.reg [⟨(some 24), none, .mv (.t 1)⟩,
       ⟨(some 25), none, .mv (.t 0)⟩,
       ⟨(some 26), none, .bin .gtr 3 (.t 24) (.t 25)⟩])
     (.cond (.t 26)
      (.seq (.reg [⟨(some 28), none, .mv (.t 0)⟩,
         ⟨(some 29), none, .mv (.t 1)⟩,
         ⟨(some 30), none, .mv (.t 0)⟩,
         ⟨(some 31), none, .bin .sub 3 (.t 29) (.t 30)⟩,
         ⟨(some 32), none, .call (.fn 44) [.t 28, .t 31]⟩,
         ⟨(some 27), none, .mv (.t 32)⟩,
         ⟨(some 33), none, .ex (.t 27) 0⟩,
         ⟨(some 34), none, .ex (.t 27) 1⟩,
         ⟨(some 8), none, .mv (.t 33)⟩,
         ⟨(some 9), none, .mv (.t 34)⟩])
       (.reg [⟨(some 35), none, .mv (.t 5)⟩,
         ⟨(some 36), none, .mv (.t 8)⟩,
         ⟨(some 37), none, .bi .append [22, 22] [.t 35, .t 36]⟩,
         ⟨(some 5), none, .mv (.t 37)⟩]))
      (.skip)))
    (.seq (.reg [⟨(some 38), none, .mv (.t 5)⟩,
       ⟨(some 4), none, .mv (.t 38)⟩])
     (.ret)))))
theorem b78 : Body Try.prog 78 39 [4] k78 := ⟨Enters.of Try.func78 (by kernel_rfl) (by kernel_rfl), _, _, Try.func78, rfl, by kernel_rfl, rfl, rfl⟩

/-- cartridge/matrix.Inverse -/
noncomputable def drw79_0 : Array Oper := ((Try.f79.body.map regs).getD []).getD 0 #[]
noncomputable def drw79_1 : Array Oper := ((Try.f79.body.map regs).getD []).getD 1 #[]
noncomputable def drw79_2 : Array Oper := ((Try.f79.body.map regs).getD []).getD 2 #[]
noncomputable def drw79_3 : Array Oper := ((Try.f79.body.map regs).getD []).getD 3 #[]
noncomputable def k79 : KC :=
 .seq (.reg [⟨(some 2), none, .mv (.ns)⟩,
   ⟨(some 3), none, .mv (.i .i64 0)⟩])
 (.seq (.seq (.reg [⟨(some 11), none, .mv (.t 0)⟩,
     ⟨(some 12), none, .call (.fn 120) [.t 11]⟩,
     ⟨(some 13), none, .un .not (.t 12)⟩,
     ⟨(some 14), none, .mv (.t 13)⟩,
     ⟨(some 15), (some (14, false)), .mv (.t 0)⟩,
     ⟨(some 16), (some (14, false)), .bi .len [22] [.t 15]⟩,
     ⟨(some 17), (some (14, false)), .mv (.t 0)⟩,
     ⟨(some 18), (some (14, false)), .ia 22 (.t 17) (.i .i64 0)⟩,
     ⟨(some 19), (some (14, false)), .ld 25 (.t 18)⟩,
     ⟨(some 20), (some (14, false)), .bi .len [25] [.t 19]⟩,
     ⟨(some 21), (some (14, false)), .bin .neq 3 (.t 16) (.t 20)⟩,
     ⟨(some 22), none, .pk (.t 14) (.b true) (.t 21)⟩])
   (.cond (.t 22)
    (.seq (.reg [⟨(some 2), none, .mv (.ns)⟩,
       ⟨(some 3), none, .mv (.i .i64 1)⟩])
     (.ret))
    (.skip)))
  (.seq (.reg [⟨(some 23), none, .mv (.t 0)⟩,
     ⟨(some 24), none, .call (.fn 121) [.t 23]⟩,
     ⟨(some 4), none, .mv (.t 24)⟩])
   (.seq (.seq (.reg [⟨(some 25), none, .mv (.t 4)⟩,
       ⟨(some 26), none, .bi .len [22] [.t 25]⟩,
       ⟨(some 27), none, .mv (.i .i64 0)⟩])
     (.block 0 (.loop (.seq (.reg [⟨(some 28), none, .bin .lss 3 (.t 27) (.t 26)⟩])
        (.seq (.cond (.t 28)
          (.skip)
          (.exit 0))
         (.seq (.block 1 (.seq (.reg [⟨(some 29), none, .mv (.t 27)⟩,
              ⟨(some 5), none, .al 3⟩,
              ⟨none, none, .st 3 (.t 5) (.t 29)⟩])
            (.seq (.reg [⟨(some 30), none, .mv (.t 4)⟩,
               ⟨(some 31), none, .ld 3 (.t 5)⟩,
               ⟨(some 32), none, .sli 22 (.t 30) (some (.t 31)) none none⟩,
               ⟨(some 33), none, .mf 123 [.t 5]⟩,
               ⟨(some 34), none, .call (.fn 122) [.t 32, .t 33]⟩,
               ⟨(some 6), none, .mv (.t 34)⟩])
             (.seq (.seq (.reg [⟨(some 35), none, .mv (.t 6)⟩,
                 ⟨(some 36), none, .bin .lss 3 (.t 35) (.i .i64 0)⟩])
               (.cond (.t 36)
                (.seq (.reg [⟨(some 2), none, .mv (.ns)⟩,
                   ⟨(some 3), none, .mv (.i .i64 12)⟩])
                 (.ret))
                (.skip)))
              (.seq (.drw drw79_0 [⟨(some 37), none, .mv (.t 4)⟩,
                 ⟨(some 38), none, .ld 3 (.t 5)⟩,
                 ⟨(some 39), none, .mv (.t 4)⟩,
                 ⟨(some 40), none, .ld 3 (.t 5)⟩,
                 ⟨(some 41), none, .mv (.t 6)⟩,
                 ⟨(some 42), none, .bin .add 3 (.t 40) (.t 41)⟩,
                 ⟨(some 43), none, .mv (.t 4)⟩,
                 ⟨(some 44), none, .ld 3 (.t 5)⟩,
                 ⟨(some 45), none, .mv (.t 6)⟩,
                 ⟨(some 46), none, .bin .add 3 (.t 44) (.t 45)⟩,
                 ⟨(some 47), none, .ia 22 (.t 43) (.t 46)⟩,
                 ⟨(some 48), none, .ld 25 (.t 47)⟩,
                 ⟨(some 49), none, .mv (.t 4)⟩,
                 ⟨(some 50), none, .ld 3 (.t 5)⟩,
                 ⟨(some 51), none, .ia 22 (.t 49) (.t 50)⟩,
                 ⟨(some 52), none, .ld 25 (.t 51)⟩,
                 ⟨(some 53), none, .ia 22 (.t 37) (.t 38)⟩,
                 ⟨none, none, .st 25 (.t 53) (.t 48)⟩,
                 ⟨(some 54), none, .ia 22 (.t 39) (.t 42)⟩,
                 ⟨none, none, .st 25 (.t 54) (.t 52)⟩])
               (.seq (.drw drw79_1 [⟨(some 55), none, .mv (.t 4)⟩,
                  ⟨(some 56), none, .ld 3 (.t 5)⟩,
                  ⟨(some 57), none, .mv (.t 4)⟩,
                  ⟨(some 58), none, .ld 3 (.t 5)⟩,
                  ⟨(some 59), none, .ia 22 (.t 57) (.t 58)⟩,
                  ⟨(some 60), none, .ld 25 (.t 59)⟩,
                  ⟨(some 61), none, .mv (.t 4)⟩,
                  ⟨(some 62), none, .ld 3 (.t 5)⟩,
                  ⟨(some 63), none, .ia 22 (.t 61) (.t 62)⟩,
                  ⟨(some 64), none, .ld 25 (.t 63)⟩,
                  ⟨(some 65), none, .ld 3 (.t 5)⟩,
                  ⟨(some 66), none, .ia 25 (.t 64) (.t 65)⟩,
                  ⟨(some 67), none, .ld 5 (.t 66)⟩,
                  ⟨(some 68), none, .call (.fn 82) [.t 67]⟩,
                  ⟨(some 69), none, .call (.fn 124) [.t 60, .t 68]⟩,
                  ⟨(some 70), none, .ia 22 (.t 55) (.t 56)⟩,
                  ⟨none, none, .st 25 (.t 70) (.t 69)⟩])
                (.seq (.reg [⟨(some 71), none, .mv (.t 4)⟩,
                   ⟨(some 72), none, .bi .len [22] [.t 71]⟩,
                   ⟨(some 73), none, .mv (.i .i64 0)⟩])
                 (.block 2 (.loop (.seq (.reg [⟨(some 74), none, .bin .lss 3 (.t 73) (.t 72)⟩])
                    (.seq (.cond (.t 74)
                      (.skip)
                      (.exit 2))
                     (.seq (.block 3 (.seq (.reg [⟨(some 75), none, .mv (.t 73)⟩,
                          ⟨(some 7), none, .mv (.t 75)⟩])
                        (.seq (.drw drw79_2 [⟨(some 76), none, .mv (.t 7)⟩,
                           ⟨(some 77), none, .ld 3 (.t 5)⟩,
                           ⟨(some 78), none, .bin .neq 3 (.t 76) (.t 77)⟩,
                           ⟨(some 79), none, .mv (.t 78)⟩,
                           ⟨(some 80), (some (79, true)), .mv (.t 4)⟩,
                           ⟨(some 81), (some (79, true)), .mv (.t 7)⟩,
                           ⟨(some 82), (some (79, true)), .ia 22 (.t 80) (.t 81)⟩,
                           ⟨(some 83), (some (79, true)), .ld 25 (.t 82)⟩,
                           ⟨(some 84), (some (79, true)), .ld 3 (.t 5)⟩,
                           ⟨(some 85), (some (79, true)), .ia 25 (.t 83) (.t 84)⟩,
                           ⟨(some 86), (some (79, true)), .ld 5 (.t 85)⟩,
                           ⟨(some 87), (some (79, true)), .bin .neq 5 (.t 86) (.i .u8 0)⟩,
                           ⟨(some 88), none, .pk (.t 79) (.t 87) (.b false)⟩])
                         (.cond (.t 88)
                          (.drw drw79_3 [⟨(some 89), none, .mv (.t 4)⟩,
                            ⟨(some 90), none, .mv (.t 7)⟩,
                            ⟨(some 91), none, .mv (.t 4)⟩,
                            ⟨(some 92), none, .mv (.t 7)⟩,
                            ⟨(some 93), none, .ia 22 (.t 91) (.t 92)⟩,
                            ⟨(some 94), none, .ld 25 (.t 93)⟩,
                            ⟨(some 95), none, .mv (.t 4)⟩,
                            ⟨(some 96), none, .ld 3 (.t 5)⟩,
                            ⟨(some 97), none, .ia 22 (.t 95) (.t 96)⟩,
                            ⟨(some 98), none, .ld 25 (.t 97)⟩,
                            ⟨(some 99), none, .mv (.t 4)⟩,
                            ⟨(some 100), none, .mv (.t 7)⟩,
                            ⟨(some 101), none, .ia 22 (.t 99) (.t 100)⟩,
                            ⟨(some 102), none, .ld 25 (.t 101)⟩,
                            ⟨(some 103), none, .ld 3 (.t 5)⟩,
                            ⟨(some 104), none, .ia 25 (.t 102) (.t 103)⟩,
                            ⟨(some 105), none, .ld 5 (.t 104)⟩,
                            ⟨(some 106), none, .call (.fn 124) [.t 98, .t 105]⟩,
                            ⟨(some 107), none, .call (.fn 125) [.t 94, .t 106]⟩,
                            ⟨(some 108), none, .ia 22 (.t 89) (.t 90)⟩,
                            ⟨none, none, .st 25 (.t 108) (.t 107)⟩])
                          (.skip)))))
                      (.reg [⟨(some 109), none, .bin .add 3 (.t 73) (.i .i64 1)⟩,
                        ⟨(some 73), none, .mv (.t 109)⟩])))))))))))))
          (.reg [⟨(some 110), none, .bin .add 3 (.t 27) (.i .i64 1)⟩,
            ⟨(some 27), none, .mv (.t 110)⟩])))))))
    (.seq (.reg [⟨(some 8), none, .mv (.ns)⟩])
     (.seq (.seq (.reg [⟨(some 111), none, .mv (.t 4)⟩,
         ⟨(some 112), none, .bi .len [22] [.t 111]⟩,
         ⟨(some 113), none, .mv (.i .i64 0)⟩])
       (.block 4 (.loop (.seq (.reg [⟨(some 114), none, .bin .lss 3 (.t 113) (.t 112)⟩])
          (.seq (.cond (.t 114)
            (.skip)
            (.exit 4))
           (.seq (.block 5 (.seq (.reg [⟨(some 115), none, .ia 22 (.t 111) (.t 113)⟩,
                ⟨(some 116), none, .ld 25 (.t 115)⟩,
                ⟨(some 10), none, .mv (.t 116)⟩])
              (.reg [⟨(some 117), none, .mv (.t 8)⟩,
                ⟨(some 118), none, .mv (.t 10)⟩,
                ⟨(some 119), none, .mv (.t 0)⟩,
                ⟨(some 120), none, .bi .len [22] [.t 119]⟩,
                ⟨(some 121), none, .sli 25 (.t 118) (some (.t 120)) none none⟩,
                ⟨(some 122), none, .call (.fn 61) [.t 121]⟩,
                ⟨(some 123), none, .bsl 22 1 [(0, .t 122)]⟩,
                ⟨(some 124), none, .bi .append [22, 22] [.t 117, .t 123]⟩,
                ⟨(some 8), none, .mv (.t 124)⟩])))
            (.reg [⟨(some 125), none, .bin .add 3 (.t 113) (.i .i64 1)⟩,
              ⟨(some 113), none, .mv (.t 125)⟩])))))))
      (.seq (.reg [⟨(some 126), none, .mv (.t 8)⟩,
         ⟨(some 2), none, .mv (.t 126)⟩,
         ⟨(some 3), none, .mv (.i .i64 0)⟩])
       (.ret)))))))
theorem b79 : Body Try.prog 79 127 [2, 3] k79 := ⟨Enters.of Try.func79 (by kernel_rfl) (by kernel_rfl), _, _, Try.func79, rfl, by kernel_rfl, rfl, rfl⟩

/-- slices.ContainsFunc[[][]byte,[]byte] -/
def k80 : KC :=
 .seq (.reg [⟨(some 4), none, .mv (.b false)⟩])
 (.seq (.reg [⟨(some 5), none, .mv (.t 0)⟩,
    ⟨(some 6), none, .mv (.t 1)⟩,
    ⟨(some 7), none, .call (.fn 122) [.t 5, .t 6]⟩,
    ⟨(some 8), none, .bin .geq 3 (.t 7) (.i .i64 0)⟩,
    ⟨(some 4), none, .mv (.t 8)⟩])
  (.ret))
theorem b80 : Body Try.prog 80 9 [4] k80 := ⟨Enters.of Try.func80 (by kernel_rfl) (by kernel_rfl), _, _, Try.func80, rfl, by kernel_rfl, rfl, rfl⟩

/-- cartridge/erasure.alike$1 -/
def k81 : KC :=
 .seq (.reg [⟨(some 3), none, .mv (.b false)⟩])
 (.seq (.reg [⟨(some 4), none, .mv (.t 0)⟩,
    ⟨(some 5), none, .bi .len [25] [.t 4]⟩,
    ⟨(some 6), none, .ld 22 (.t 1)⟩,
    ⟨(some 7), none, .ia 22 (.t 6) (.i .i64 0)⟩,
    ⟨(some 8), none, .ld 25 (.t 7)⟩,
    ⟨(some 9), none, .bi .len [25] [.t 8]⟩,
    ⟨(some 10), none, .bin .neq 3 (.t 5) (.t 9)⟩,
    ⟨(some 3), none, .mv (.t 10)⟩])
  (.ret))
theorem b81 : Body Try.prog 81 11 [3] k81 := ⟨Enters.of Try.func81 (by kernel_rfl) (by kernel_rfl), _, _, Try.func81, rfl, by kernel_rfl, rfl, rfl⟩

/-- cartridge/gf.Inv -/
def k82 : KC :=
 .seq (.reg [⟨(some 2), none, .mv (.i .u8 0)⟩])
 (.seq (.reg [⟨(some 3), none, .mv (.t 0)⟩,
    ⟨(some 4), none, .call (.fn 126) [.t 3, .i .i64 254]⟩,
    ⟨(some 2), none, .mv (.t 4)⟩])
  (.ret))
theorem b82 : Body Try.prog 82 5 [2] k82 := ⟨Enters.of Try.func82 (by kernel_rfl) (by kernel_rfl), _, _, Try.func82, rfl, by kernel_rfl, rfl, rfl⟩

/-- cartridge/gf.Add -/
def k83 : KC :=
 .seq (.reg [⟨(some 4), none, .mv (.i .u8 0)⟩])
 (.seq (.reg [⟨(some 5), none, .mv (.t 0)⟩,
    ⟨(some 6), none, .mv (.t 1)⟩,
    ⟨(some 7), none, .bin .xor 5 (.t 5) (.t 6)⟩,
    ⟨(some 4), none, .mv (.t 7)⟩])
  (.ret))
theorem b83 : Body Try.prog 83 8 [4] k83 := ⟨Enters.of Try.func83 (by kernel_rfl) (by kernel_rfl), _, _, Try.func83, rfl, by kernel_rfl, rfl, rfl⟩

/-- cartridge/matrix.Apply -/
def k84 : KC :=
 .seq (.reg [⟨(some 4), none, .mv (.ns)⟩,
   ⟨(some 5), none, .mv (.i .i64 0)⟩])
 (.seq (.seq (.reg [⟨(some 6), none, .mv (.t 0)⟩,
     ⟨(some 7), none, .call (.fn 120) [.t 6]⟩,
     ⟨(some 8), none, .un .not (.t 7)⟩,
     ⟨(some 9), none, .mv (.t 8)⟩,
     ⟨(some 10), (some (9, false)), .mv (.t 1)⟩,
     ⟨(some 11), (some (9, false)), .bi .len [25] [.t 10]⟩,
     ⟨(some 12), (some (9, false)), .mv (.t 0)⟩,
     ⟨(some 13), (some (9, false)), .ia 22 (.t 12) (.i .i64 0)⟩,
     ⟨(some 14), (some (9, false)), .ld 25 (.t 13)⟩,
     ⟨(some 15), (some (9, false)), .bi .len [25] [.t 14]⟩,
     ⟨(some 16), (some (9, false)), .bin .neq 3 (.t 11) (.t 15)⟩,
     ⟨(some 17), none, .pk (.t 9) (.b true) (.t 16)⟩])
   (.cond (.t 17)
    (.seq (.reg [⟨(some 4), none, .mv (.ns)⟩,
       ⟨(some 5), none, .mv (.i .i64 1)⟩])
     (.ret))
    (.skip)))
  (.seq (.reg [⟨(some 18), none, .mv (.t 0)⟩,
     ⟨(some 19), none, .mv (.t 1)⟩,
     ⟨(some 20), none, .call (.fn 127) [.t 18, .t 19]⟩,
     ⟨(some 4), none, .mv (.t 20)⟩,
     ⟨(some 5), none, .mv (.i .i64 0)⟩])
   (.ret)))
theorem b84 : Body Try.prog 84 21 [4, 5] k84 := ⟨Enters.of Try.func84 (by kernel_rfl) (by kernel_rfl), _, _, Try.func84, rfl, by kernel_rfl, rfl, rfl⟩

/-- cartridge/matrix.Right -/
def k120 : KC :=
 .seq (.reg [⟨(some 1), none, .box 22 (.t 0)⟩,
   ⟨(some 2), none, .mv (.b false)⟩])
 (.seq (.seq (.reg [⟨(some 3), none, .ld 22 (.t 1)⟩,
     ⟨(some 4), none, .bi .len [22] [.t 3]⟩,
     ⟨(some 5), none, .bin .lss 3 (.t 4) (.i .i64 1)⟩,
     ⟨(some 6), none, .mv (.t 5)⟩,
     ⟨(some 7), (some (6, false)), .ld 22 (.t 1)⟩,
     ⟨(some 8), (some (6, false)), .bi .len [22] [.t 7]⟩,
     ⟨(some 9), (some (6, false)), .bin .gtr 3 (.t 8) (.i .i64 255)⟩,
     ⟨(some 10), none, .pk (.t 6) (.b true) (.t 9)⟩,
     ⟨(some 11), none, .mv (.t 10)⟩,
     ⟨(some 12), (some (11, false)), .ld 22 (.t 1)⟩,
     ⟨(some 13), (some (11, false)), .ia 22 (.t 12) (.i .i64 0)⟩,
     ⟨(some 14), (some (11, false)), .ld 25 (.t 13)⟩,
     ⟨(some 15), (some (11, false)), .bi .len [25] [.t 14]⟩,
     ⟨(some 16), (some (11, false)), .bin .lss 3 (.t 15) (.i .i64 1)⟩,
     ⟨(some 17), none, .pk (.t 11) (.b true) (.t 16)⟩,
     ⟨(some 18), none, .mv (.t 17)⟩,
     ⟨(some 19), (some (18, false)), .ld 22 (.t 1)⟩,
     ⟨(some 20), (some (18, false)), .ia 22 (.t 19) (.i .i64 0)⟩,
     ⟨(some 21), (some (18, false)), .ld 25 (.t 20)⟩,
     ⟨(some 22), (some (18, false)), .bi .len [25] [.t 21]⟩,
     ⟨(some 23), (some (18, false)), .bin .gtr 3 (.t 22) (.i .i64 255)⟩,
     ⟨(some 24), none, .pk (.t 18) (.b true) (.t 23)⟩])
   (.cond (.t 24)
    (.seq (.reg [⟨(some 2), none, .mv (.b false)⟩])
     (.ret))
    (.skip)))
  (.seq (.reg [⟨(some 25), none, .ld 22 (.t 1)⟩,
     ⟨(some 26), none, .mf 170 [.t 1]⟩,
     ⟨(some 27), none, .call (.fn 80) [.t 25, .t 26]⟩,
     ⟨(some 28), none, .un .not (.t 27)⟩,
     ⟨(some 2), none, .mv (.t 28)⟩])
   (.ret)))
theorem b120 : Body Try.prog 120 29 [2] k120 := ⟨Enters.of Try.func120 (by kernel_rfl) (by kernel_rfl), _, _, Try.func120, rfl, by kernel_rfl, rfl, rfl⟩

/-- cartridge/matrix.beside -/
def k121 : KC :=
 .seq (.reg [⟨(some 2), none, .mv (.ns)⟩])
 (.seq (.reg [⟨(some 3), none, .mv (.ns)⟩])
  (.seq (.seq (.reg [⟨(some 7), none, .mv (.t 0)⟩,
      ⟨(some 8), none, .bi .len [22] [.t 7]⟩,
      ⟨(some 9), none, .mv (.i .i64 0)⟩])
    (.block 0 (.loop (.seq (.reg [⟨(some 10), none, .bin .lss 3 (.t 9) (.t 8)⟩])
       (.seq (.cond (.t 10)
         (.skip)
         (.exit 0))
        (.seq (.block 1 (.seq (.reg [⟨(some 11), none, .mv (.t 9)⟩,
             ⟨(some 12), none, .ia 22 (.t 7) (.t 9)⟩,
             ⟨(some 13), none, .ld 25 (.t 12)⟩,
             ⟨(some 4), none, .mv (.t 11)⟩,
             ⟨(some 5), none, .mv (.t 13)⟩])
           (.seq (.reg [⟨(some 14), none, .mv (.t 0)⟩,
              ⟨(some 15), none, .bi .len [22] [.t 14]⟩,
              ⟨(some 16), none, .mk 25 (.t 15) (.t 15)⟩,
              ⟨(some 6), none, .mv (.t 16)⟩])
            (.seq (.reg [⟨(some 17), none, .mv (.t 6)⟩,
               ⟨(some 18), none, .mv (.t 4)⟩,
               ⟨(some 19), none, .ia 25 (.t 17) (.t 18)⟩,
               ⟨none, none, .st 5 (.t 19) (.i .u8 1)⟩])
             (.reg [⟨(some 20), none, .mv (.t 3)⟩,
               ⟨(some 21), none, .mv (.t 5)⟩,
               ⟨(some 22), none, .mv (.t 6)⟩,
               ⟨(some 23), none, .bsl 22 2 [(0, .t 21), (1, .t 22)]⟩,
               ⟨(some 24), none, .call (.fn 171) [.t 23]⟩,
               ⟨(some 25), none, .bsl 22 1 [(0, .t 24)]⟩,
               ⟨(some 26), none, .bi .append [22, 22] [.t 20, .t 25]⟩,
               ⟨(some 3), none, .mv (.t 26)⟩])))))
         (.reg [⟨(some 27), none, .bin .add 3 (.t 9) (.i .i64 1)⟩,
           ⟨(some 9), none, .mv (.t 27)⟩])))))))
   (.seq (.reg [⟨(some 28), none, .mv (.t 3)⟩,
      ⟨(some 2), none, .mv (.t 28)⟩])
    (.ret))))
theorem b121 : Body Try.prog 121 29 [2] k121 := ⟨Enters.of Try.func121 (by kernel_rfl) (by kernel_rfl), _, _, Try.func121, rfl, by kernel_rfl, rfl, rfl⟩

/-- slices.IndexFunc[[][]byte,[]byte] -/
def k122 : KC :=
 .seq (.reg [⟨(some 4), none, .mv (.i .i64 0)⟩])
 (.seq (.seq (.reg [⟨(some 6), none, .mv (.t 0)⟩,
     ⟨(some 7), none, .bi .len [22] [.t 6]⟩,
     ⟨(some 8), none, .mv (.i .i64 0)⟩])
   (.block 0 (.loop (.seq (.reg [⟨(some 9), none, .bin .lss 3 (.t 8) (.t 7)⟩])
      (.seq (.cond (.t 9)
        (.skip)
        (.exit 0))
       (.seq (.block 1 (.seq (.reg [⟨(some 10), none, .mv (.t 8)⟩,
            ⟨(some 5), none, .mv (.t 10)⟩])
          (.seq (.reg [⟨(some 11), none, .mv (.t 1)⟩,
             ⟨(some 12), none, .mv (.t 0)⟩,
             ⟨(some 13), none, .mv (.t 5)⟩,
             ⟨(some 14), none, .ia 22 (.t 12) (.t 13)⟩,
             ⟨(some 15), none, .ld 25 (.t 14)⟩,
             ⟨(some 16), none, .call (.t 11) [.t 15]⟩])
           (.cond (.t 16)
            (.seq (.reg [⟨(some 17), none, .mv (.t 5)⟩,
               ⟨(some 4), none, .mv (.t 17)⟩])
             (.ret))
            (.skip)))))
        (.reg [⟨(some 18), none, .bin .add 3 (.t 8) (.i .i64 1)⟩,
          ⟨(some 8), none, .mv (.t 18)⟩])))))))
  (.seq (.reg [⟨(some 4), none, .mv (.i .i64 (-1))⟩])
   (.ret)))
theorem b122 : Body Try.prog 122 19 [4] k122 := ⟨Enters.of Try.func122 (by kernel_rfl) (by kernel_rfl), _, _, Try.func122, rfl, by kernel_rfl, rfl, rfl⟩

/-- cartridge/matrix.Inverse$1 -/
def k123 : KC :=
 .seq (.reg [⟨(some 3), none, .mv (.b false)⟩])
 (.seq (.reg [⟨(some 4), none, .mv (.t 0)⟩,
    ⟨(some 5), none, .ld 3 (.t 1)⟩,
    ⟨(some 6), none, .ia 25 (.t 4) (.t 5)⟩,
    ⟨(some 7), none, .ld 5 (.t 6)⟩,
    ⟨(some 8), none, .bin .neq 5 (.t 7) (.i .u8 0)⟩,
    ⟨(some 3), none, .mv (.t 8)⟩])
  (.ret))
theorem b123 : Body Try.prog 123 9 [3] k123 := ⟨Enters.of Try.func123 (by kernel_rfl) (by kernel_rfl), _, _, Try.func123, rfl, by kernel_rfl, rfl, rfl⟩

/-- cartridge/matrix.scaled -/
def k124 : KC :=
 .seq (.reg [⟨(some 4), none, .mv (.ns)⟩])
 (.seq (.reg [⟨(some 8), none, .mv (.t 0)⟩,
    ⟨(some 9), none, .bi .len [25] [.t 8]⟩,
    ⟨(some 10), none, .mk 25 (.t 9) (.t 9)⟩,
    ⟨(some 5), none, .mv (.t 10)⟩])
  (.seq (.seq (.reg [⟨(some 11), none, .mv (.t 0)⟩,
      ⟨(some 12), none, .bi .len [25] [.t 11]⟩,
      ⟨(some 13), none, .mv (.i .i64 0)⟩])
    (.block 0 (.loop (.seq (.reg [⟨(some 14), none, .bin .lss 3 (.t 13) (.t 12)⟩])
       (.seq (.cond (.t 14)
         (.skip)
         (.exit 0))
        (.seq (.block 1 (.seq (.reg [⟨(some 15), none, .mv (.t 13)⟩,
             ⟨(some 16), none, .ia 25 (.t 11) (.t 13)⟩,
             ⟨(some 17), none, .ld 5 (.t 16)⟩,
             ⟨(some 6), none, .mv (.t 15)⟩,
             ⟨(some 7), none, .mv (.t 17)⟩])
           (.reg [⟨(some 18), none, .mv (.t 5)⟩,
             ⟨(some 19), none, .mv (.t 6)⟩,
             ⟨(some 20), none, .mv (.t 7)⟩,
             ⟨(some 21), none, .mv (.t 1)⟩,
             ⟨(some 22), none, .call (.fn 172) [.t 20, .t 21]⟩,
             ⟨(some 23), none, .ia 25 (.t 18) (.t 19)⟩,
             ⟨none, none, .st 5 (.t 23) (.t 22)⟩])))
         (.reg [⟨(some 24), none, .bin .add 3 (.t 13) (.i .i64 1)⟩,
           ⟨(some 13), none, .mv (.t 24)⟩])))))))
   (.seq (.reg [⟨(some 25), none, .mv (.t 5)⟩,
      ⟨(some 4), none, .mv (.t 25)⟩])
    (.ret))))
theorem b124 : Body Try.prog 124 26 [4] k124 := ⟨Enters.of Try.func124 (by kernel_rfl) (by kernel_rfl), _, _, Try.func124, rfl, by kernel_rfl, rfl, rfl⟩

/-- cartridge/matrix.sum -/
noncomputable def drw125_0 : Array Oper := ((Try.f125.body.map regs).getD []).getD 0 #[]
noncomputable def k125 : KC :=
 .seq (.reg [⟨(some 4), none, .mv (.ns)⟩])
 (.seq (.reg [⟨(some 7), none, .mv (.t 0)⟩,
    ⟨(some 8), none, .bi .len [25] [.t 7]⟩,
    ⟨(some 9), none, .mk 25 (.t 8) (.t 8)⟩,
    ⟨(some 5), none, .mv (.t 9)⟩])
  (.seq (.seq (.reg [⟨(some 10), none, .mv (.t 0)⟩,
      ⟨(some 11), none, .bi .len [25] [.t 10]⟩,
      ⟨(some 12), none, .mv (.i .i64 0)⟩])
    (.block 0 (.loop (.seq (.reg [⟨(some 13), none, .bin .lss 3 (.t 12) (.t 11)⟩])
       (.seq (.cond (.t 13)
         (.skip)
         (.exit 0))
        (.seq (.block 1 (.seq (.reg [⟨(some 14), none, .mv (.t 12)⟩,
             ⟨(some 6), none, .mv (.t 14)⟩])
           (.drw drw125_0 [⟨(some 15), none, .mv (.t 5)⟩,
             ⟨(some 16), none, .mv (.t 6)⟩,
             ⟨(some 17), none, .mv (.t 0)⟩,
             ⟨(some 18), none, .mv (.t 6)⟩,
             ⟨(some 19), none, .ia 25 (.t 17) (.t 18)⟩,
             ⟨(some 20), none, .ld 5 (.t 19)⟩,
             ⟨(some 21), none, .mv (.t 1)⟩,
             ⟨(some 22), none, .mv (.t 6)⟩,
             ⟨(some 23), none, .ia 25 (.t 21) (.t 22)⟩,
             ⟨(some 24), none, .ld 5 (.t 23)⟩,
             ⟨(some 25), none, .call (.fn 83) [.t 20, .t 24]⟩,
             ⟨(some 26), none, .ia 25 (.t 15) (.t 16)⟩,
             ⟨none, none, .st 5 (.t 26) (.t 25)⟩])))
         (.reg [⟨(some 27), none, .bin .add 3 (.t 12) (.i .i64 1)⟩,
           ⟨(some 12), none, .mv (.t 27)⟩])))))))
   (.seq (.reg [⟨(some 28), none, .mv (.t 5)⟩,
      ⟨(some 4), none, .mv (.t 28)⟩])
    (.ret))))
theorem b125 : Body Try.prog 125 29 [4] k125 := ⟨Enters.of Try.func125 (by kernel_rfl) (by kernel_rfl), _, _, Try.func125, rfl, by kernel_rfl, rfl, rfl⟩

/-- cartridge/gf.power -/
def k126 : KC :=
 .seq (.reg [⟨(some 4), none, .mv (.i .u8 0)⟩])
 (.seq (.reg [⟨(some 5), none, .mv (.i .u8 1)⟩])
  (.seq (.block 0 (.loop (.seq (.seq (.reg [⟨(some 6), none, .mv (.t 1)⟩,
         ⟨(some 7), none, .bin .gtr 3 (.t 6) (.i .i64 0)⟩])
       (.cond (.t 7)
        (.skip)
        (.exit 0)))
      (.seq (.block 1 (.seq (.seq (.reg [⟨(some 10), none, .mv (.t 1)⟩,
            ⟨(some 11), none, .bin .and 3 (.t 10) (.i .i64 1)⟩,
            ⟨(some 12), none, .bin .eql 3 (.t 11) (.i .i64 1)⟩])
          (.cond (.t 12)
           (.reg [⟨(some 13), none, .mv (.t 5)⟩,
             ⟨(some 14), none, .mv (.t 0)⟩,
             ⟨(some 15), none, .call (.fn 172) [.t 13, .t 14]⟩,
             ⟨(some 5), none, .mv (.t 15)⟩])
           (.skip)))
         (.reg [⟨(some 16), none, .mv (.t 0)⟩,
           ⟨(some 17), none, .mv (.t 0)⟩,
           ⟨(some 18), none, .call (.fn 172) [.t 16, .t 17]⟩,
           ⟨(some 0), none, .mv (.t 18)⟩])))
       (.reg [⟨(some 8), none, .mv (.t 1)⟩,
         ⟨(some 9), none, .bin .shr 3 (.t 8) (.i .u64 1)⟩,
         ⟨(some 1), none, .mv (.t 9)⟩])))))
   (.seq (.reg [⟨(some 19), none, .mv (.t 5)⟩,
      ⟨(some 4), none, .mv (.t 19)⟩])
    (.ret))))
theorem b126 : Body Try.prog 126 20 [4] k126 := ⟨Enters.of Try.func126 (by kernel_rfl) (by kernel_rfl), _, _, Try.func126, rfl, by kernel_rfl, rfl, rfl⟩

/-- cartridge/matrix.apply -/
noncomputable def drw127_0 : Array Oper := ((Try.f127.body.map regs).getD []).getD 0 #[]
noncomputable def k127 : KC :=
 .seq (.reg [⟨(some 4), none, .mv (.ns)⟩])
 (.seq (.reg [⟨(some 10), none, .mv (.t 0)⟩,
    ⟨(some 11), none, .bi .len [22] [.t 10]⟩,
    ⟨(some 12), none, .mk 25 (.t 11) (.t 11)⟩,
    ⟨(some 5), none, .mv (.t 12)⟩])
  (.seq (.seq (.reg [⟨(some 13), none, .mv (.t 0)⟩,
      ⟨(some 14), none, .bi .len [22] [.t 13]⟩,
      ⟨(some 15), none, .mv (.i .i64 0)⟩])
    (.block 0 (.loop (.seq (.reg [⟨(some 16), none, .bin .lss 3 (.t 15) (.t 14)⟩])
       (.seq (.cond (.t 16)
         (.skip)
         (.exit 0))
        (.seq (.block 1 (.seq (.reg [⟨(some 17), none, .mv (.t 15)⟩,
             ⟨(some 18), none, .ia 22 (.t 13) (.t 15)⟩,
             ⟨(some 19), none, .ld 25 (.t 18)⟩,
             ⟨(some 6), none, .mv (.t 17)⟩,
             ⟨(some 7), none, .mv (.t 19)⟩])
           (.seq (.reg [⟨(some 20), none, .mv (.t 7)⟩,
              ⟨(some 21), none, .bi .len [25] [.t 20]⟩,
              ⟨(some 22), none, .mv (.i .i64 0)⟩])
            (.block 2 (.loop (.seq (.reg [⟨(some 23), none, .bin .lss 3 (.t 22) (.t 21)⟩])
               (.seq (.cond (.t 23)
                 (.skip)
                 (.exit 2))
                (.seq (.block 3 (.seq (.reg [⟨(some 24), none, .mv (.t 22)⟩,
                     ⟨(some 25), none, .ia 25 (.t 20) (.t 22)⟩,
                     ⟨(some 26), none, .ld 5 (.t 25)⟩,
                     ⟨(some 8), none, .mv (.t 24)⟩,
                     ⟨(some 9), none, .mv (.t 26)⟩])
                   (.drw drw127_0 [⟨(some 27), none, .mv (.t 5)⟩,
                     ⟨(some 28), none, .mv (.t 6)⟩,
                     ⟨(some 29), none, .mv (.t 5)⟩,
                     ⟨(some 30), none, .mv (.t 6)⟩,
                     ⟨(some 31), none, .ia 25 (.t 29) (.t 30)⟩,
                     ⟨(some 32), none, .ld 5 (.t 31)⟩,
                     ⟨(some 33), none, .mv (.t 9)⟩,
                     ⟨(some 34), none, .mv (.t 1)⟩,
                     ⟨(some 35), none, .mv (.t 8)⟩,
                     ⟨(some 36), none, .ia 25 (.t 34) (.t 35)⟩,
                     ⟨(some 37), none, .ld 5 (.t 36)⟩,
                     ⟨(some 38), none, .call (.fn 172) [.t 33, .t 37]⟩,
                     ⟨(some 39), none, .call (.fn 83) [.t 32, .t 38]⟩,
                     ⟨(some 40), none, .ia 25 (.t 27) (.t 28)⟩,
                     ⟨none, none, .st 5 (.t 40) (.t 39)⟩])))
                 (.reg [⟨(some 41), none, .bin .add 3 (.t 22) (.i .i64 1)⟩,
                   ⟨(some 22), none, .mv (.t 41)⟩])))))))))
         (.reg [⟨(some 42), none, .bin .add 3 (.t 15) (.i .i64 1)⟩,
           ⟨(some 15), none, .mv (.t 42)⟩])))))))
   (.seq (.reg [⟨(some 43), none, .mv (.t 5)⟩,
      ⟨(some 4), none, .mv (.t 43)⟩])
    (.ret))))
theorem b127 : Body Try.prog 127 44 [4] k127 := ⟨Enters.of Try.func127 (by kernel_rfl) (by kernel_rfl), _, _, Try.func127, rfl, by kernel_rfl, rfl, rfl⟩

/-- cartridge/matrix.Right$1 -/
def k170 : KC :=
 .seq (.reg [⟨(some 3), none, .mv (.b false)⟩])
 (.seq (.reg [⟨(some 4), none, .mv (.t 0)⟩,
    ⟨(some 5), none, .bi .len [25] [.t 4]⟩,
    ⟨(some 6), none, .ld 22 (.t 1)⟩,
    ⟨(some 7), none, .ia 22 (.t 6) (.i .i64 0)⟩,
    ⟨(some 8), none, .ld 25 (.t 7)⟩,
    ⟨(some 9), none, .bi .len [25] [.t 8]⟩,
    ⟨(some 10), none, .bin .neq 3 (.t 5) (.t 9)⟩,
    ⟨(some 3), none, .mv (.t 10)⟩])
  (.ret))
theorem b170 : Body Try.prog 170 11 [3] k170 := ⟨Enters.of Try.func170 (by kernel_rfl) (by kernel_rfl), _, _, Try.func170, rfl, by kernel_rfl, rfl, rfl⟩

/-- slices.Concat[[]byte,byte] -/
def k171 : KC :=
 .seq (.reg [⟨(some 2), none, .mv (.ns)⟩])
 (.seq (.reg [⟨(some 3), none, .mv (.i .i64 0)⟩])
  (.seq (.seq (.reg [⟨(some 9), none, .mv (.t 0)⟩,
      ⟨(some 10), none, .bi .len [22] [.t 9]⟩,
      ⟨(some 11), none, .mv (.i .i64 0)⟩])
    (.block 0 (.loop (.seq (.reg [⟨(some 12), none, .bin .lss 3 (.t 11) (.t 10)⟩])
       (.seq (.cond (.t 12)
         (.skip)
         (.exit 0))
        (.seq (.block 1 (.seq (.reg [⟨(some 13), none, .ia 22 (.t 9) (.t 11)⟩,
             ⟨(some 14), none, .ld 25 (.t 13)⟩,
             ⟨(some 5), none, .mv (.t 14)⟩])
           (.seq (.reg [⟨(some 15), none, .mv (.t 3)⟩,
              ⟨(some 16), none, .mv (.t 5)⟩,
              ⟨(some 17), none, .bi .len [25] [.t 16]⟩,
              ⟨(some 18), none, .bin .add 3 (.t 15) (.t 17)⟩,
              ⟨(some 3), none, .mv (.t 18)⟩])
            (.seq (.reg [⟨(some 19), none, .mv (.t 3)⟩,
               ⟨(some 20), none, .bin .lss 3 (.t 19) (.i .i64 0)⟩])
             (.cond (.t 20)
              (.reg [⟨(some 21), none, .unk⟩,
                ⟨none, none, .unk⟩])
              (.skip))))))
         (.reg [⟨(some 22), none, .bin .add 3 (.t 11) (.i .i64 1)⟩,
           ⟨(some 11), none, .mv (.t 22)⟩])))))))
   (.seq (.reg [⟨(some 23), none, .mv (.t 3)⟩,
      ⟨(some 24), none, .call (.fn 191) [.ns, .t 23]⟩,
      ⟨(some 6), none, .mv (.t 24)⟩])
    (.seq (.seq (.reg [⟨(some 25), none, .mv (.t 0)⟩,
        ⟨(some 26), none, .bi .len [22] [.t 25]⟩,
        ⟨(some 27), none, .mv (.i .i64 0)⟩])
      (.block 2 (.loop (.seq (.reg [⟨(some 28), none, .bin .lss 3 (.t 27) (.t 26)⟩])
         (.seq (.cond (.t 28)
           (.skip)
           (.exit 2))
          (.seq (.block 3 (.seq (.reg [⟨(some 29), none, .ia 22 (.t 25) (.t 27)⟩,
               ⟨(some 30), none, .ld 25 (.t 29)⟩,
               ⟨(some 8), none, .mv (.t 30)⟩])
             (.reg [⟨(some 31), none, .mv (.t 6)⟩,
               ⟨(some 32), none, .mv (.t 8)⟩,
               ⟨(some 33), none, .bi .append [25, 25] [.t 31, .t 32]⟩,
               ⟨(some 6), none, .mv (.t 33)⟩])))
           (.reg [⟨(some 34), none, .bin .add 3 (.t 27) (.i .i64 1)⟩,
             ⟨(some 27), none, .mv (.t 34)⟩])))))))
     (.seq (.reg [⟨(some 35), none, .mv (.t 6)⟩,
        ⟨(some 2), none, .mv (.t 35)⟩])
      (.ret))))))
theorem b171 : Body Try.prog 171 36 [2] k171 := ⟨Enters.of Try.func171 (by kernel_rfl) (by kernel_rfl), _, _, Try.func171, rfl, by kernel_rfl, rfl, rfl⟩

/-- cartridge/gf.Mul -/
def k172 : KC :=
 .seq (.reg [⟨(some 4), none, .mv (.i .u8 0)⟩])
 (.seq (.reg [⟨(some 5), none, .mv (.i .u8 0)⟩])
  (.seq (.block 0 (.loop (.seq (.seq (.reg [⟨(some 7), none, .mv (.t 1)⟩,
         ⟨(some 8), none, .bin .neq 5 (.t 7) (.i .u8 0)⟩])
       (.cond (.t 8)
        (.skip)
        (.exit 0)))
      (.seq (.block 1 (.seq (.seq (.reg [⟨(some 11), none, .mv (.t 1)⟩,
            ⟨(some 12), none, .bin .and 5 (.t 11) (.i .u8 1)⟩,
            ⟨(some 13), none, .bin .eql 5 (.t 12) (.i .u8 1)⟩])
          (.cond (.t 13)
           (.reg [⟨(some 14), none, .mv (.t 5)⟩,
             ⟨(some 15), none, .mv (.t 0)⟩,
             ⟨(some 16), none, .bin .xor 5 (.t 14) (.t 15)⟩,
             ⟨(some 5), none, .mv (.t 16)⟩])
           (.skip)))
         (.seq (.reg [⟨(some 17), none, .mv (.t 0)⟩,
            ⟨(some 18), none, .bin .and 5 (.t 17) (.i .u8 128)⟩,
            ⟨(some 19), none, .bin .neq 5 (.t 18) (.i .u8 0)⟩,
            ⟨(some 6), none, .mv (.t 19)⟩])
          (.seq (.reg [⟨(some 20), none, .mv (.t 0)⟩,
             ⟨(some 21), none, .bin .shl 5 (.t 20) (.i .u64 1)⟩,
             ⟨(some 0), none, .mv (.t 21)⟩])
           (.seq (.reg [⟨(some 22), none, .mv (.t 6)⟩])
            (.cond (.t 22)
             (.reg [⟨(some 23), none, .mv (.t 0)⟩,
               ⟨(some 24), none, .bin .xor 5 (.t 23) (.i .u8 29)⟩,
               ⟨(some 0), none, .mv (.t 24)⟩])
             (.skip)))))))
       (.reg [⟨(some 9), none, .mv (.t 1)⟩,
         ⟨(some 10), none, .bin .shr 5 (.t 9) (.i .u64 1)⟩,
         ⟨(some 1), none, .mv (.t 10)⟩])))))
   (.seq (.reg [⟨(some 25), none, .mv (.t 5)⟩,
      ⟨(some 4), none, .mv (.t 25)⟩])
    (.ret))))
theorem b172 : Body Try.prog 172 26 [4] k172 := ⟨Enters.of Try.func172 (by kernel_rfl) (by kernel_rfl), _, _, Try.func172, rfl, by kernel_rfl, rfl, rfl⟩

/-- slices.Grow[[]byte,byte] -/
def k191 : KC :=
 .seq (.reg [⟨(some 4), none, .mv (.ns)⟩])
 (.seq (.seq (.reg [⟨(some 5), none, .mv (.t 1)⟩,
     ⟨(some 6), none, .bin .lss 3 (.t 5) (.i .i64 0)⟩])
   (.cond (.t 6)
    (.reg [⟨(some 7), none, .unk⟩,
      ⟨none, none, .unk⟩])
    (.skip)))
  (.seq (.seq (.reg [⟨(some 8), none, .mv (.t 1)⟩,
      ⟨(some 9), none, .mv (.t 0)⟩,
      ⟨(some 10), none, .bi .cap [25] [.t 9]⟩,
      ⟨(some 11), none, .mv (.t 0)⟩,
      ⟨(some 12), none, .bi .len [25] [.t 11]⟩,
      ⟨(some 13), none, .bin .sub 3 (.t 10) (.t 12)⟩,
      ⟨(some 14), none, .bin .sub 3 (.t 8) (.t 13)⟩,
      ⟨(some 1), none, .mv (.t 14)⟩])
    (.seq (.reg [⟨(some 15), none, .mv (.t 1)⟩,
       ⟨(some 16), none, .bin .gtr 3 (.t 15) (.i .i64 0)⟩])
     (.cond (.t 16)
      (.reg [⟨(some 17), none, .mv (.t 0)⟩,
        ⟨(some 18), none, .mv (.t 0)⟩,
        ⟨(some 19), none, .bi .cap [25] [.t 18]⟩,
        ⟨(some 20), none, .sli 25 (.t 17) none (some (.t 19)) none⟩,
        ⟨(some 21), none, .mv (.t 1)⟩,
        ⟨(some 22), none, .bi .append [25, 3] [.t 20, .t 21]⟩,
        ⟨(some 23), none, .mv (.t 0)⟩,
        ⟨(some 24), none, .bi .len [25] [.t 23]⟩,
        ⟨(some 25), none, .sli 25 (.t 22) none (some (.t 24)) none⟩,
        ⟨(some 0), none, .mv (.t 25)⟩])
      (.skip))))
   (.seq (.reg [⟨(some 26), none, .mv (.t 0)⟩,
      ⟨(some 4), none, .mv (.t 26)⟩])
    (.ret))))
theorem b191 : Body Try.prog 191 27 [4] k191 := ⟨Enters.of Try.func191 (by kernel_rfl) (by kernel_rfl), _, _, Try.func191, rfl, by kernel_rfl, rfl, rfl⟩

end Go.Proofs.Ytndjbcnpgggddaa
