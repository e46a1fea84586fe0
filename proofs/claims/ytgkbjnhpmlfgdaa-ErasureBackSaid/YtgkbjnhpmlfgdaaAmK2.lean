import Derived.Test.YtgkbjnhpmlfgdaaAmT
/- The code, cooked, and tied to the program's; written by gen.py. -/
namespace Go.Proofs.Ytgkbjnhpmlfgdaa
open Go.AM

/-- cartridge/cartridgeref1.Encode -/
noncomputable def drw56_0 : Array Oper := ((Try.f56.body.map regs).getD []).getD 0 #[]
noncomputable def drw56_1 : Array Oper := ((Try.f56.body.map regs).getD []).getD 1 #[]
noncomputable def k56 : KC :=
 .seq (.reg [⟨(some 4), none, .mv (.ns)⟩,
   ⟨(some 5), none, .mv (.i .i64 0)⟩])
 (.seq (.seq (.reg [⟨(some 14), none, .mv (.t 0)⟩,
     ⟨(some 15), none, .bi .len [22] [.t 14]⟩,
     ⟨(some 16), none, .bin .lss 3 (.t 15) (.i .i64 1)⟩,
     ⟨(some 17), none, .mv (.t 16)⟩,
     ⟨(some 18), (some (17, false)), .mv (.t 1)⟩,
     ⟨(some 19), (some (17, false)), .bin .lss 3 (.t 18) (.i .i64 0)⟩,
     ⟨(some 20), none, .pk (.t 17) (.b true) (.t 19)⟩,
     ⟨(some 21), none, .mv (.t 20)⟩,
     ⟨(some 22), (some (21, false)), .mv (.t 1)⟩,
     ⟨(some 23), (some (21, false)), .bin .gtr 3 (.t 22) (.i .i64 255)⟩,
     ⟨(some 24), none, .pk (.t 21) (.b true) (.t 23)⟩,
     ⟨(some 25), none, .mv (.t 24)⟩,
     ⟨(some 26), (some (25, false)), .mv (.t 0)⟩,
     ⟨(some 27), (some (25, false)), .bi .len [22] [.t 26]⟩,
     ⟨(some 28), (some (25, false)), .mv (.t 1)⟩,
     ⟨(some 29), (some (25, false)), .bin .add 3 (.t 27) (.t 28)⟩,
     ⟨(some 30), (some (25, false)), .bin .gtr 3 (.t 29) (.i .i64 255)⟩,
     ⟨(some 31), none, .pk (.t 25) (.b true) (.t 30)⟩])
   (.cond (.t 31)
    (.seq (.reg [⟨(some 4), none, .mv (.ns)⟩,
       ⟨(some 5), none, .mv (.i .i64 1)⟩])
     (.ret))
    (.skip)))
  (.seq (.seq (.reg [⟨(some 6), none, .mv (.i .i64 1)⟩])
    (.block 0 (.loop (.seq (.seq (.reg [⟨(some 32), none, .mv (.t 6)⟩,
          ⟨(some 33), none, .mv (.t 0)⟩,
          ⟨(some 34), none, .bi .len [22] [.t 33]⟩,
          ⟨(some 35), none, .bin .lss 3 (.t 32) (.t 34)⟩])
        (.cond (.t 35)
         (.skip)
         (.exit 0)))
       (.seq (.block 1 (.seq (.drw drw56_0 [⟨(some 38), none, .mv (.t 0)⟩,
            ⟨(some 39), none, .mv (.t 6)⟩,
            ⟨(some 40), none, .ia 22 (.t 38) (.t 39)⟩,
            ⟨(some 41), none, .ld 23 (.t 40)⟩,
            ⟨(some 42), none, .bi .len [23] [.t 41]⟩,
            ⟨(some 43), none, .mv (.t 0)⟩,
            ⟨(some 44), none, .ia 22 (.t 43) (.i .i64 0)⟩,
            ⟨(some 45), none, .ld 23 (.t 44)⟩,
            ⟨(some 46), none, .bi .len [23] [.t 45]⟩,
            ⟨(some 47), none, .bin .neq 3 (.t 42) (.t 46)⟩])
          (.cond (.t 47)
           (.seq (.reg [⟨(some 4), none, .mv (.ns)⟩,
              ⟨(some 5), none, .mv (.i .i64 1)⟩])
            (.ret))
           (.skip))))
        (.reg [⟨(some 36), none, .mv (.t 6)⟩,
          ⟨(some 37), none, .bin .add 3 (.t 36) (.i .i64 1)⟩,
          ⟨(some 6), none, .mv (.t 37)⟩]))))))
   (.seq (.seq (.reg [⟨(some 48), none, .mv (.t 1)⟩,
       ⟨(some 49), none, .bin .eql 3 (.t 48) (.i .i64 0)⟩])
     (.cond (.t 49)
      (.seq (.reg [⟨(some 4), none, .mv (.ns)⟩,
         ⟨(some 5), none, .mv (.i .i64 0)⟩])
       (.ret))
      (.skip)))
    (.seq (.reg [⟨(some 51), none, .mv (.t 0)⟩,
       ⟨(some 52), none, .bi .len [22] [.t 51]⟩,
       ⟨(some 53), none, .mv (.t 1)⟩,
       ⟨(some 54), none, .call (.fn 38) [.t 52, .t 53]⟩,
       ⟨(some 50), none, .mv (.t 54)⟩,
       ⟨(some 55), none, .ex (.t 50) 0⟩,
       ⟨(some 56), none, .ex (.t 50) 1⟩,
       ⟨(some 7), none, .mv (.t 55)⟩,
       ⟨(some 8), none, .mv (.t 56)⟩])
     (.seq (.reg [⟨(some 9), none, .mv (.ns)⟩])
      (.seq (.seq (.reg [⟨(some 10), none, .mv (.i .i64 0)⟩])
        (.block 2 (.loop (.seq (.seq (.reg [⟨(some 57), none, .mv (.t 10)⟩,
              ⟨(some 58), none, .mv (.t 1)⟩,
              ⟨(some 59), none, .bin .lss 3 (.t 57) (.t 58)⟩])
            (.cond (.t 59)
             (.skip)
             (.exit 2)))
           (.seq (.block 3 (.seq (.reg [⟨(some 62), none, .mv (.t 0)⟩,
                ⟨(some 63), none, .ia 22 (.t 62) (.i .i64 0)⟩,
                ⟨(some 64), none, .ld 23 (.t 63)⟩,
                ⟨(some 65), none, .bi .len [23] [.t 64]⟩,
                ⟨(some 66), none, .mk 23 (.t 65) (.t 65)⟩,
                ⟨(some 11), none, .mv (.t 66)⟩])
              (.seq (.seq (.reg [⟨(some 12), none, .mv (.i .i64 0)⟩])
                (.block 4 (.loop (.seq (.seq (.reg [⟨(some 67), none, .mv (.t 12)⟩,
                      ⟨(some 68), none, .mv (.t 11)⟩,
                      ⟨(some 69), none, .bi .len [23] [.t 68]⟩,
                      ⟨(some 70), none, .bin .lss 3 (.t 67) (.t 69)⟩])
                    (.cond (.t 70)
                     (.skip)
                     (.exit 4)))
                   (.seq (.block 5 (.seq (.reg [⟨(some 13), none, .mv (.i .i64 0)⟩])
                      (.block 6 (.loop (.seq (.seq (.reg [⟨(some 73), none, .mv (.t 13)⟩,
                            ⟨(some 74), none, .mv (.t 0)⟩,
                            ⟨(some 75), none, .bi .len [22] [.t 74]⟩,
                            ⟨(some 76), none, .bin .lss 3 (.t 73) (.t 75)⟩])
                          (.cond (.t 76)
                           (.skip)
                           (.exit 6)))
                         (.seq (.block 7 (.drw drw56_1 [⟨(some 79), none, .mv (.t 11)⟩,
                             ⟨(some 80), none, .mv (.t 12)⟩,
                             ⟨(some 81), none, .mv (.t 11)⟩,
                             ⟨(some 82), none, .mv (.t 12)⟩,
                             ⟨(some 83), none, .ia 23 (.t 81) (.t 82)⟩,
                             ⟨(some 84), none, .ld 5 (.t 83)⟩,
                             ⟨(some 85), none, .mv (.t 7)⟩,
                             ⟨(some 86), none, .mv (.t 10)⟩,
                             ⟨(some 87), none, .ia 22 (.t 85) (.t 86)⟩,
                             ⟨(some 88), none, .ld 23 (.t 87)⟩,
                             ⟨(some 89), none, .mv (.t 13)⟩,
                             ⟨(some 90), none, .ia 23 (.t 88) (.t 89)⟩,
                             ⟨(some 91), none, .ld 5 (.t 90)⟩,
                             ⟨(some 92), none, .mv (.t 0)⟩,
                             ⟨(some 93), none, .mv (.t 13)⟩,
                             ⟨(some 94), none, .ia 22 (.t 92) (.t 93)⟩,
                             ⟨(some 95), none, .ld 23 (.t 94)⟩,
                             ⟨(some 96), none, .mv (.t 12)⟩,
                             ⟨(some 97), none, .ia 23 (.t 95) (.t 96)⟩,
                             ⟨(some 98), none, .ld 5 (.t 97)⟩,
                             ⟨(some 99), none, .call (.fn 20) [.t 91, .t 98]⟩,
                             ⟨(some 100), none, .bin .xor 5 (.t 84) (.t 99)⟩,
                             ⟨(some 101), none, .ia 23 (.t 79) (.t 80)⟩,
                             ⟨none, none, .st 5 (.t 101) (.t 100)⟩]))
                          (.reg [⟨(some 77), none, .mv (.t 13)⟩,
                            ⟨(some 78), none, .bin .add 3 (.t 77) (.i .i64 1)⟩,
                            ⟨(some 13), none, .mv (.t 78)⟩])))))))
                    (.reg [⟨(some 71), none, .mv (.t 12)⟩,
                      ⟨(some 72), none, .bin .add 3 (.t 71) (.i .i64 1)⟩,
                      ⟨(some 12), none, .mv (.t 72)⟩]))))))
               (.reg [⟨(some 102), none, .mv (.t 9)⟩,
                 ⟨(some 103), none, .mv (.t 11)⟩,
                 ⟨(some 104), none, .bsl 22 1 [(0, .t 103)]⟩,
                 ⟨(some 105), none, .bi .append [22, 22] [.t 102, .t 104]⟩,
                 ⟨(some 9), none, .mv (.t 105)⟩]))))
            (.reg [⟨(some 60), none, .mv (.t 10)⟩,
              ⟨(some 61), none, .bin .add 3 (.t 60) (.i .i64 1)⟩,
              ⟨(some 10), none, .mv (.t 61)⟩]))))))
       (.seq (.reg [⟨(some 106), none, .mv (.t 9)⟩,
          ⟨(some 4), none, .mv (.t 106)⟩,
          ⟨(some 5), none, .mv (.i .i64 0)⟩])
        (.ret))))))))
theorem b56 : Body Try.prog 56 107 [4, 5] k56 := ⟨Enters.of Try.func56 (by kernel_rfl) (by kernel_rfl), _, _, Try.func56, rfl, by kernel_rfl, rfl, rfl⟩

/-- cartridge/erasure.Decode -/
def k57 : KC :=
 .seq (.reg [⟨(some 4), none, .mv (.ns)⟩,
   ⟨(some 5), none, .mv (.i .i64 0)⟩])
 (.seq (.reg [⟨(some 6), none, .mv (.ns)⟩])
  (.seq (.seq (.reg [⟨(some 14), none, .mv (.t 0)⟩,
      ⟨(some 15), none, .bi .len [22] [.t 14]⟩,
      ⟨(some 16), none, .mv (.i .i64 0)⟩])
    (.block 0 (.loop (.seq (.reg [⟨(some 17), none, .bin .lss 3 (.t 16) (.t 15)⟩])
       (.seq (.cond (.t 17)
         (.skip)
         (.exit 0))
        (.seq (.block 1 (.seq (.reg [⟨(some 18), none, .ia 22 (.t 14) (.t 16)⟩,
             ⟨(some 19), none, .ld 23 (.t 18)⟩,
             ⟨(some 8), none, .mv (.t 19)⟩])
           (.seq (.reg [⟨(some 20), none, .mv (.t 8)⟩,
              ⟨(some 21), none, .bi .len [23] [.t 20]⟩,
              ⟨(some 22), none, .bin .gtr 3 (.t 21) (.i .i64 0)⟩])
            (.cond (.t 22)
             (.reg [⟨(some 23), none, .mv (.t 6)⟩,
               ⟨(some 24), none, .mv (.t 8)⟩,
               ⟨(some 25), none, .bsl 22 1 [(0, .t 24)]⟩,
               ⟨(some 26), none, .bi .append [22, 22] [.t 23, .t 25]⟩,
               ⟨(some 6), none, .mv (.t 26)⟩])
             (.skip)))))
         (.reg [⟨(some 27), none, .bin .add 3 (.t 16) (.i .i64 1)⟩,
           ⟨(some 16), none, .mv (.t 27)⟩])))))))
   (.seq (.block 2 (.seq (.reg [⟨(some 29), none, .mv (.t 1)⟩,
        ⟨(some 30), none, .bin .lss 3 (.t 29) (.i .i64 1)⟩,
        ⟨(some 31), none, .mv (.t 30)⟩,
        ⟨(some 32), (some (31, false)), .mv (.t 1)⟩,
        ⟨(some 33), (some (31, false)), .mv (.t 0)⟩,
        ⟨(some 34), (some (31, false)), .bi .len [22] [.t 33]⟩,
        ⟨(some 35), (some (31, false)), .bin .gtr 3 (.t 32) (.t 34)⟩,
        ⟨(some 36), none, .pk (.t 31) (.b true) (.t 35)⟩,
        ⟨(some 37), none, .mv (.t 36)⟩,
        ⟨(some 38), (some (37, false)), .mv (.t 0)⟩,
        ⟨(some 39), (some (37, false)), .bi .len [22] [.t 38]⟩,
        ⟨(some 40), (some (37, false)), .bin .gtr 3 (.t 39) (.i .i64 255)⟩,
        ⟨(some 41), none, .pk (.t 37) (.b true) (.t 40)⟩,
        ⟨(some 42), none, .mv (.t 41)⟩,
        ⟨(some 43), (some (42, false)), .mv (.t 6)⟩,
        ⟨(some 44), (some (42, false)), .bi .len [22] [.t 43]⟩,
        ⟨(some 45), (some (42, false)), .bin .eql 3 (.t 44) (.i .i64 0)⟩,
        ⟨(some 46), none, .pk (.t 42) (.b true) (.t 45)⟩,
        ⟨(some 47), none, .mv (.t 46)⟩,
        ⟨(some 48), (some (47, false)), .mv (.t 6)⟩,
        ⟨(some 49), (some (47, false)), .call (.fn 93) [.t 48]⟩,
        ⟨(some 50), (some (47, false)), .un .not (.t 49)⟩,
        ⟨(some 51), none, .pk (.t 47) (.b true) (.t 50)⟩,
        ⟨(some 28), none, .mv (.t 51)⟩])
      (.cond (.t 28)
       (.seq (.reg [⟨(some 4), none, .mv (.ns)⟩,
          ⟨(some 5), none, .mv (.i .i64 1)⟩])
        (.ret))
       (.seq (.reg [⟨(some 53), none, .mv (.t 6)⟩,
          ⟨(some 54), none, .bi .len [22] [.t 53]⟩,
          ⟨(some 55), none, .mv (.t 1)⟩,
          ⟨(some 56), none, .bin .lss 3 (.t 54) (.t 55)⟩,
          ⟨(some 52), none, .mv (.t 56)⟩])
        (.cond (.t 52)
         (.seq (.reg [⟨(some 4), none, .mv (.ns)⟩,
            ⟨(some 5), none, .mv (.i .i64 10)⟩])
          (.ret))
         (.skip))))))
    (.seq (.reg [⟨(some 9), none, .mv (.ns)⟩])
     (.seq (.seq (.reg [⟨(some 57), none, .mv (.t 1)⟩,
         ⟨(some 58), none, .mv (.t 0)⟩,
         ⟨(some 59), none, .bi .len [22] [.t 58]⟩,
         ⟨(some 60), none, .call (.fn 95) [.t 57, .t 59]⟩,
         ⟨(some 61), none, .bi .len [22] [.t 60]⟩,
         ⟨(some 62), none, .mv (.i .i64 0)⟩])
       (.block 3 (.loop (.seq (.reg [⟨(some 63), none, .bin .lss 3 (.t 62) (.t 61)⟩])
          (.seq (.cond (.t 63)
            (.skip)
            (.exit 3))
           (.seq (.block 4 (.seq (.reg [⟨(some 64), none, .mv (.t 62)⟩,
                ⟨(some 65), none, .ia 22 (.t 60) (.t 62)⟩,
                ⟨(some 66), none, .ld 23 (.t 65)⟩,
                ⟨(some 10), none, .mv (.t 64)⟩,
                ⟨(some 11), none, .mv (.t 66)⟩])
              (.seq (.reg [⟨(some 67), none, .mv (.t 0)⟩,
                 ⟨(some 68), none, .mv (.t 10)⟩,
                 ⟨(some 69), none, .ia 22 (.t 67) (.t 68)⟩,
                 ⟨(some 70), none, .ld 23 (.t 69)⟩,
                 ⟨(some 71), none, .bi .len [23] [.t 70]⟩,
                 ⟨(some 72), none, .bin .gtr 3 (.t 71) (.i .i64 0)⟩,
                 ⟨(some 73), none, .mv (.t 72)⟩,
                 ⟨(some 74), (some (73, true)), .mv (.t 9)⟩,
                 ⟨(some 75), (some (73, true)), .bi .len [22] [.t 74]⟩,
                 ⟨(some 76), (some (73, true)), .mv (.t 1)⟩,
                 ⟨(some 77), (some (73, true)), .bin .lss 3 (.t 75) (.t 76)⟩,
                 ⟨(some 78), none, .pk (.t 73) (.t 77) (.b false)⟩])
               (.cond (.t 78)
                (.reg [⟨(some 79), none, .mv (.t 9)⟩,
                  ⟨(some 80), none, .mv (.t 11)⟩,
                  ⟨(some 81), none, .bsl 22 1 [(0, .t 80)]⟩,
                  ⟨(some 82), none, .bi .append [22, 22] [.t 79, .t 81]⟩,
                  ⟨(some 9), none, .mv (.t 82)⟩])
                (.skip)))))
            (.reg [⟨(some 83), none, .bin .add 3 (.t 62) (.i .i64 1)⟩,
              ⟨(some 62), none, .mv (.t 83)⟩])))))))
      (.seq (.reg [⟨(some 85), none, .mv (.t 9)⟩,
         ⟨(some 86), none, .call (.fn 17) [.t 85]⟩,
         ⟨(some 84), none, .mv (.t 86)⟩,
         ⟨(some 87), none, .ex (.t 84) 0⟩,
         ⟨(some 88), none, .ex (.t 84) 1⟩,
         ⟨(some 12), none, .mv (.t 87)⟩,
         ⟨(some 13), none, .mv (.t 88)⟩])
       (.seq (.seq (.reg [⟨(some 89), none, .mv (.t 13)⟩,
           ⟨(some 90), none, .bin .neq 26 (.t 89) (.i .i64 0)⟩])
         (.cond (.t 90)
          (.seq (.reg [⟨(some 91), none, .mv (.t 13)⟩,
             ⟨(some 4), none, .mv (.ns)⟩,
             ⟨(some 5), none, .mv (.t 91)⟩])
           (.ret))
          (.skip)))
        (.seq (.reg [⟨(some 92), none, .mv (.t 12)⟩,
           ⟨(some 93), none, .mv (.t 6)⟩,
           ⟨(some 94), none, .mv (.t 1)⟩,
           ⟨(some 95), none, .sli 22 (.t 93) none (some (.t 94)) none⟩,
           ⟨(some 96), none, .call (.fn 94) [.t 92, .t 95]⟩,
           ⟨(some 4), none, .mv (.t 96)⟩,
           ⟨(some 5), none, .mv (.i .i64 0)⟩])
         (.ret)))))))))
theorem b57 : Body Try.prog 57 97 [4, 5] k57 := ⟨Enters.of Try.func57 (by kernel_rfl) (by kernel_rfl), _, _, Try.func57, rfl, by kernel_rfl, rfl, rfl⟩

/-- cartridge/cartridgelaw3.num -/
def k58 : KC :=
 .seq (.reg [⟨(some 2), none, .mv (.i .i64 0)⟩])
 (.seq (.reg [⟨(some 3), none, .mv (.t 0)⟩,
    ⟨(some 2), none, .mv (.t 3)⟩])
  (.ret))
theorem b58 : Body Try.prog 58 4 [2] k58 := ⟨Enters.of Try.func58 (by kernel_rfl) (by kernel_rfl), _, _, Try.func58, rfl, by kernel_rfl, rfl, rfl⟩

/-- cartridge/matrix.beside -/
def k59 : KC :=
 .seq (.reg [⟨(some 2), none, .mv (.ns)⟩])
 (.seq (.reg [⟨(some 3), none, .mv (.ns)⟩])
  (.seq (.seq (.reg [⟨(some 7), none, .mv (.t 0)⟩,
      ⟨(some 8), none, .bi .len [22] [.t 7]⟩,
      ⟨(some 9), none, .mv (.i .i64 0)⟩])
    (.block 0 (.loop (.seq (.reg [⟨(some 10), none, .bin .lss 3 (.t 9) (.t 8)⟩])
       (.seq (.cond (.t 10)
         (.skip)
         (.exit 0))
        (.seq (.block 1 (.seq (.reg [⟨(some 11), none, .mv (.t 9)⟩,
             ⟨(some 12), none, .ia 22 (.t 7) (.t 9)⟩,
             ⟨(some 13), none, .ld 23 (.t 12)⟩,
             ⟨(some 4), none, .mv (.t 11)⟩,
             ⟨(some 5), none, .mv (.t 13)⟩])
           (.seq (.reg [⟨(some 14), none, .mv (.t 0)⟩,
              ⟨(some 15), none, .bi .len [22] [.t 14]⟩,
              ⟨(some 16), none, .mk 23 (.t 15) (.t 15)⟩,
              ⟨(some 6), none, .mv (.t 16)⟩])
            (.seq (.reg [⟨(some 17), none, .mv (.t 6)⟩,
               ⟨(some 18), none, .mv (.t 4)⟩,
               ⟨(some 19), none, .ia 23 (.t 17) (.t 18)⟩,
               ⟨none, none, .st 5 (.t 19) (.i .u8 1)⟩])
             (.reg [⟨(some 20), none, .mv (.t 3)⟩,
               ⟨(some 21), none, .mv (.t 5)⟩,
               ⟨(some 22), none, .mv (.t 6)⟩,
               ⟨(some 23), none, .bsl 22 2 [(0, .t 21), (1, .t 22)]⟩,
               ⟨(some 24), none, .call (.fn 96) [.t 23]⟩,
               ⟨(some 25), none, .bsl 22 1 [(0, .t 24)]⟩,
               ⟨(some 26), none, .bi .append [22, 22] [.t 20, .t 25]⟩,
               ⟨(some 3), none, .mv (.t 26)⟩])))))
         (.reg [⟨(some 27), none, .bin .add 3 (.t 9) (.i .i64 1)⟩,
           ⟨(some 9), none, .mv (.t 27)⟩])))))))
   (.seq (.reg [⟨(some 28), none, .mv (.t 3)⟩,
      ⟨(some 2), none, .mv (.t 28)⟩])
    (.ret))))
theorem b59 : Body Try.prog 59 29 [2] k59 := ⟨Enters.of Try.func59 (by kernel_rfl) (by kernel_rfl), _, _, Try.func59, rfl, by kernel_rfl, rfl, rfl⟩

/-- slices.IndexFunc[[][]byte,[]byte] -/
def k60 : KC :=
 .seq (.reg [⟨(some 4), none, .mv (.i .i64 0)⟩])
 (.seq (.seq (.reg [⟨(some 6), none, .mv (.t 0)⟩,
     ⟨(some 7), none, .bi .len [22] [.t 6]⟩,
     ⟨(some 8), none, .mv (.i .i64 0)⟩])
   (.block 0 (.loop (.seq (.reg [⟨(some 9), none, .bin .lss 3 (.t 8) (.t 7)⟩])
      (.seq (.cond (.t 9)
        (.skip)
        (.exit 0))
       (.seq (.block 1 (.seq (.reg [⟨(some 10), none, .mv (.t 8)⟩,
            ⟨(some 5), none, .mv (.t 10)⟩])
          (.seq (.reg [⟨(some 11), none, .mv (.t 1)⟩,
             ⟨(some 12), none, .mv (.t 0)⟩,
             ⟨(some 13), none, .mv (.t 5)⟩,
             ⟨(some 14), none, .ia 22 (.t 12) (.t 13)⟩,
             ⟨(some 15), none, .ld 23 (.t 14)⟩,
             ⟨(some 16), none, .call (.t 11) [.t 15]⟩])
           (.cond (.t 16)
            (.seq (.reg [⟨(some 17), none, .mv (.t 5)⟩,
               ⟨(some 4), none, .mv (.t 17)⟩])
             (.ret))
            (.skip)))))
        (.reg [⟨(some 18), none, .bin .add 3 (.t 8) (.i .i64 1)⟩,
          ⟨(some 8), none, .mv (.t 18)⟩])))))))
  (.seq (.reg [⟨(some 4), none, .mv (.i .i64 (-1))⟩])
   (.ret)))
theorem b60 : Body Try.prog 60 19 [4] k60 := ⟨Enters.of Try.func60 (by kernel_rfl) (by kernel_rfl), _, _, Try.func60, rfl, by kernel_rfl, rfl, rfl⟩

/-- cartridge/matrix.Inverse$1 -/
def k61 : KC :=
 .seq (.reg [⟨(some 3), none, .mv (.b false)⟩])
 (.seq (.reg [⟨(some 4), none, .mv (.t 0)⟩,
    ⟨(some 5), none, .ld 3 (.t 1)⟩,
    ⟨(some 6), none, .ia 23 (.t 4) (.t 5)⟩,
    ⟨(some 7), none, .ld 5 (.t 6)⟩,
    ⟨(some 8), none, .bin .neq 5 (.t 7) (.i .u8 0)⟩,
    ⟨(some 3), none, .mv (.t 8)⟩])
  (.ret))
theorem b61 : Body Try.prog 61 9 [3] k61 := ⟨Enters.of Try.func61 (by kernel_rfl) (by kernel_rfl), _, _, Try.func61, rfl, by kernel_rfl, rfl, rfl⟩

/-- cartridge/matrix.scaled -/
def k62 : KC :=
 .seq (.reg [⟨(some 4), none, .mv (.ns)⟩])
 (.seq (.reg [⟨(some 8), none, .mv (.t 0)⟩,
    ⟨(some 9), none, .bi .len [23] [.t 8]⟩,
    ⟨(some 10), none, .mk 23 (.t 9) (.t 9)⟩,
    ⟨(some 5), none, .mv (.t 10)⟩])
  (.seq (.seq (.reg [⟨(some 11), none, .mv (.t 0)⟩,
      ⟨(some 12), none, .bi .len [23] [.t 11]⟩,
      ⟨(some 13), none, .mv (.i .i64 0)⟩])
    (.block 0 (.loop (.seq (.reg [⟨(some 14), none, .bin .lss 3 (.t 13) (.t 12)⟩])
       (.seq (.cond (.t 14)
         (.skip)
         (.exit 0))
        (.seq (.block 1 (.seq (.reg [⟨(some 15), none, .mv (.t 13)⟩,
             ⟨(some 16), none, .ia 23 (.t 11) (.t 13)⟩,
             ⟨(some 17), none, .ld 5 (.t 16)⟩,
             ⟨(some 6), none, .mv (.t 15)⟩,
             ⟨(some 7), none, .mv (.t 17)⟩])
           (.reg [⟨(some 18), none, .mv (.t 5)⟩,
             ⟨(some 19), none, .mv (.t 6)⟩,
             ⟨(some 20), none, .mv (.t 7)⟩,
             ⟨(some 21), none, .mv (.t 1)⟩,
             ⟨(some 22), none, .call (.fn 97) [.t 20, .t 21]⟩,
             ⟨(some 23), none, .ia 23 (.t 18) (.t 19)⟩,
             ⟨none, none, .st 5 (.t 23) (.t 22)⟩])))
         (.reg [⟨(some 24), none, .bin .add 3 (.t 13) (.i .i64 1)⟩,
           ⟨(some 13), none, .mv (.t 24)⟩])))))))
   (.seq (.reg [⟨(some 25), none, .mv (.t 5)⟩,
      ⟨(some 4), none, .mv (.t 25)⟩])
    (.ret))))
theorem b62 : Body Try.prog 62 26 [4] k62 := ⟨Enters.of Try.func62 (by kernel_rfl) (by kernel_rfl), _, _, Try.func62, rfl, by kernel_rfl, rfl, rfl⟩

/-- cartridge/gf.Inv -/
def k63 : KC :=
 .seq (.reg [⟨(some 2), none, .mv (.i .u8 0)⟩])
 (.seq (.reg [⟨(some 3), none, .mv (.t 0)⟩,
    ⟨(some 4), none, .call (.fn 98) [.t 3, .i .i64 254]⟩,
    ⟨(some 2), none, .mv (.t 4)⟩])
  (.ret))
theorem b63 : Body Try.prog 63 5 [2] k63 := ⟨Enters.of Try.func63 (by kernel_rfl) (by kernel_rfl), _, _, Try.func63, rfl, by kernel_rfl, rfl, rfl⟩

/-- cartridge/matrix.sum -/
noncomputable def drw64_0 : Array Oper := ((Try.f64.body.map regs).getD []).getD 0 #[]
noncomputable def k64 : KC :=
 .seq (.reg [⟨(some 4), none, .mv (.ns)⟩])
 (.seq (.reg [⟨(some 7), none, .mv (.t 0)⟩,
    ⟨(some 8), none, .bi .len [23] [.t 7]⟩,
    ⟨(some 9), none, .mk 23 (.t 8) (.t 8)⟩,
    ⟨(some 5), none, .mv (.t 9)⟩])
  (.seq (.seq (.reg [⟨(some 10), none, .mv (.t 0)⟩,
      ⟨(some 11), none, .bi .len [23] [.t 10]⟩,
      ⟨(some 12), none, .mv (.i .i64 0)⟩])
    (.block 0 (.loop (.seq (.reg [⟨(some 13), none, .bin .lss 3 (.t 12) (.t 11)⟩])
       (.seq (.cond (.t 13)
         (.skip)
         (.exit 0))
        (.seq (.block 1 (.seq (.reg [⟨(some 14), none, .mv (.t 12)⟩,
             ⟨(some 6), none, .mv (.t 14)⟩])
           (.drw drw64_0 [⟨(some 15), none, .mv (.t 5)⟩,
             ⟨(some 16), none, .mv (.t 6)⟩,
             ⟨(some 17), none, .mv (.t 0)⟩,
             ⟨(some 18), none, .mv (.t 6)⟩,
             ⟨(some 19), none, .ia 23 (.t 17) (.t 18)⟩,
             ⟨(some 20), none, .ld 5 (.t 19)⟩,
             ⟨(some 21), none, .mv (.t 1)⟩,
             ⟨(some 22), none, .mv (.t 6)⟩,
             ⟨(some 23), none, .ia 23 (.t 21) (.t 22)⟩,
             ⟨(some 24), none, .ld 5 (.t 23)⟩,
             ⟨(some 25), none, .call (.fn 74) [.t 20, .t 24]⟩,
             ⟨(some 26), none, .ia 23 (.t 15) (.t 16)⟩,
             ⟨none, none, .st 5 (.t 26) (.t 25)⟩])))
         (.reg [⟨(some 27), none, .bin .add 3 (.t 12) (.i .i64 1)⟩,
           ⟨(some 12), none, .mv (.t 27)⟩])))))))
   (.seq (.reg [⟨(some 28), none, .mv (.t 5)⟩,
      ⟨(some 4), none, .mv (.t 28)⟩])
    (.ret))))
theorem b64 : Body Try.prog 64 29 [4] k64 := ⟨Enters.of Try.func64 (by kernel_rfl) (by kernel_rfl), _, _, Try.func64, rfl, by kernel_rfl, rfl, rfl⟩

/-- slices.Clone[[]byte,byte] -/
def k65 : KC :=
 .seq (.reg [⟨(some 2), none, .mv (.ns)⟩])
 (.seq (.seq (.reg [⟨(some 3), none, .mv (.t 0)⟩,
     ⟨(some 4), none, .bin .eql 23 (.t 3) (.ns)⟩])
   (.cond (.t 4)
    (.seq (.reg [⟨(some 2), none, .mv (.ns)⟩])
     (.ret))
    (.skip)))
  (.seq (.reg [⟨(some 5), none, .bsl 23 0 []⟩,
     ⟨(some 6), none, .mv (.t 0)⟩,
     ⟨(some 7), none, .bi .append [23, 23] [.t 5, .t 6]⟩,
     ⟨(some 2), none, .mv (.t 7)⟩])
   (.ret)))
theorem b65 : Body Try.prog 65 8 [2] k65 := ⟨Enters.of Try.func65 (by kernel_rfl) (by kernel_rfl), _, _, Try.func65, rfl, by kernel_rfl, rfl, rfl⟩

/-- cartridge/matrix.apply -/
noncomputable def drw66_0 : Array Oper := ((Try.f66.body.map regs).getD []).getD 0 #[]
noncomputable def k66 : KC :=
 .seq (.reg [⟨(some 4), none, .mv (.ns)⟩])
 (.seq (.reg [⟨(some 10), none, .mv (.t 0)⟩,
    ⟨(some 11), none, .bi .len [22] [.t 10]⟩,
    ⟨(some 12), none, .mk 23 (.t 11) (.t 11)⟩,
    ⟨(some 5), none, .mv (.t 12)⟩])
  (.seq (.seq (.reg [⟨(some 13), none, .mv (.t 0)⟩,
      ⟨(some 14), none, .bi .len [22] [.t 13]⟩,
      ⟨(some 15), none, .mv (.i .i64 0)⟩])
    (.block 0 (.loop (.seq (.reg [⟨(some 16), none, .bin .lss 3 (.t 15) (.t 14)⟩])
       (.seq (.cond (.t 16)
         (.skip)
         (.exit 0))
        (.seq (.block 1 (.seq (.reg [⟨(some 17), none, .mv (.t 15)⟩,
             ⟨(some 18), none, .ia 22 (.t 13) (.t 15)⟩,
             ⟨(some 19), none, .ld 23 (.t 18)⟩,
             ⟨(some 6), none, .mv (.t 17)⟩,
             ⟨(some 7), none, .mv (.t 19)⟩])
           (.seq (.reg [⟨(some 20), none, .mv (.t 7)⟩,
              ⟨(some 21), none, .bi .len [23] [.t 20]⟩,
              ⟨(some 22), none, .mv (.i .i64 0)⟩])
            (.block 2 (.loop (.seq (.reg [⟨(some 23), none, .bin .lss 3 (.t 22) (.t 21)⟩])
               (.seq (.cond (.t 23)
                 (.skip)
                 (.exit 2))
                (.seq (.block 3 (.seq (.reg [⟨(some 24), none, .mv (.t 22)⟩,
                     ⟨(some 25), none, .ia 23 (.t 20) (.t 22)⟩,
                     ⟨(some 26), none, .ld 5 (.t 25)⟩,
                     ⟨(some 8), none, .mv (.t 24)⟩,
                     ⟨(some 9), none, .mv (.t 26)⟩])
                   (.drw drw66_0 [⟨(some 27), none, .mv (.t 5)⟩,
                     ⟨(some 28), none, .mv (.t 6)⟩,
                     ⟨(some 29), none, .mv (.t 5)⟩,
                     ⟨(some 30), none, .mv (.t 6)⟩,
                     ⟨(some 31), none, .ia 23 (.t 29) (.t 30)⟩,
                     ⟨(some 32), none, .ld 5 (.t 31)⟩,
                     ⟨(some 33), none, .mv (.t 9)⟩,
                     ⟨(some 34), none, .mv (.t 1)⟩,
                     ⟨(some 35), none, .mv (.t 8)⟩,
                     ⟨(some 36), none, .ia 23 (.t 34) (.t 35)⟩,
                     ⟨(some 37), none, .ld 5 (.t 36)⟩,
                     ⟨(some 38), none, .call (.fn 97) [.t 33, .t 37]⟩,
                     ⟨(some 39), none, .call (.fn 74) [.t 32, .t 38]⟩,
                     ⟨(some 40), none, .ia 23 (.t 27) (.t 28)⟩,
                     ⟨none, none, .st 5 (.t 40) (.t 39)⟩])))
                 (.reg [⟨(some 41), none, .bin .add 3 (.t 22) (.i .i64 1)⟩,
                   ⟨(some 22), none, .mv (.t 41)⟩])))))))))
         (.reg [⟨(some 42), none, .bin .add 3 (.t 15) (.i .i64 1)⟩,
           ⟨(some 15), none, .mv (.t 42)⟩])))))))
   (.seq (.reg [⟨(some 43), none, .mv (.t 5)⟩,
      ⟨(some 4), none, .mv (.t 43)⟩])
    (.ret))))
theorem b66 : Body Try.prog 66 44 [4] k66 := ⟨Enters.of Try.func66 (by kernel_rfl) (by kernel_rfl), _, _, Try.func66, rfl, by kernel_rfl, rfl, rfl⟩

/-- cartridge/cartridgelaw8.Few -/
def k67 : KC :=
 .seq (.reg [⟨(some 1), none, .box 48 (.t 0)⟩,
   ⟨(some 2), none, .mv (.b false)⟩])
 (.seq (.seq (.reg [⟨(some 3), none, .mv (.i .i64 0)⟩])
   (.block 0 (.loop (.seq (.seq (.reg [⟨(some 4), none, .mv (.t 3)⟩,
         ⟨(some 5), none, .fa 48 (.t 1) 2⟩,
         ⟨(some 6), none, .ld 22 (.t 5)⟩,
         ⟨(some 7), none, .bi .len [22] [.t 6]⟩,
         ⟨(some 8), none, .bin .lss 3 (.t 4) (.t 7)⟩,
         ⟨(some 9), none, .mv (.t 8)⟩,
         ⟨(some 10), (some (9, true)), .mv (.t 3)⟩,
         ⟨(some 11), (some (9, true)), .bin .lss 3 (.t 10) (.i .i64 100)⟩,
         ⟨(some 12), none, .pk (.t 9) (.t 11) (.b false)⟩])
       (.cond (.t 12)
        (.skip)
        (.exit 0)))
      (.seq (.block 1 (.seq (.reg [⟨(some 15), none, .fa 48 (.t 1) 2⟩,
           ⟨(some 16), none, .ld 22 (.t 15)⟩,
           ⟨(some 17), none, .mv (.t 3)⟩,
           ⟨(some 18), none, .ia 22 (.t 16) (.t 17)⟩,
           ⟨(some 19), none, .ld 23 (.t 18)⟩,
           ⟨(some 20), none, .bi .len [23] [.t 19]⟩,
           ⟨(some 21), none, .bin .gtr 3 (.t 20) (.i .i64 300)⟩])
         (.cond (.t 21)
          (.seq (.reg [⟨(some 2), none, .mv (.b false)⟩])
           (.ret))
          (.skip))))
       (.reg [⟨(some 13), none, .mv (.t 3)⟩,
         ⟨(some 14), none, .bin .add 3 (.t 13) (.i .i64 1)⟩,
         ⟨(some 3), none, .mv (.t 14)⟩]))))))
  (.seq (.reg [⟨(some 22), none, .fa 48 (.t 1) 2⟩,
     ⟨(some 23), none, .ld 22 (.t 22)⟩,
     ⟨(some 24), none, .bi .len [22] [.t 23]⟩,
     ⟨(some 25), none, .bin .leq 3 (.t 24) (.i .i64 90)⟩,
     ⟨(some 2), none, .mv (.t 25)⟩])
   (.ret)))
theorem b67 : Body Try.prog 67 26 [2] k67 := ⟨Enters.of Try.func67 (by kernel_rfl) (by kernel_rfl), _, _, Try.func67, rfl, by kernel_rfl, rfl, rfl⟩

/-- slices.ContainsFunc[[][]byte,[]byte] -/
def k68 : KC :=
 .seq (.reg [⟨(some 4), none, .mv (.b false)⟩])
 (.seq (.reg [⟨(some 5), none, .mv (.t 0)⟩,
    ⟨(some 6), none, .mv (.t 1)⟩,
    ⟨(some 7), none, .call (.fn 60) [.t 5, .t 6]⟩,
    ⟨(some 8), none, .bin .geq 3 (.t 7) (.i .i64 0)⟩,
    ⟨(some 4), none, .mv (.t 8)⟩])
  (.ret))
theorem b68 : Body Try.prog 68 9 [4] k68 := ⟨Enters.of Try.func68 (by kernel_rfl) (by kernel_rfl), _, _, Try.func68, rfl, by kernel_rfl, rfl, rfl⟩

/-- cartridge/stripe.Parity$1 -/
def k69 : KC :=
 .seq (.reg [⟨(some 2), none, .mv (.b false)⟩])
 (.seq (.reg [⟨(some 3), none, .mv (.t 0)⟩,
    ⟨(some 4), none, .bi .len [23] [.t 3]⟩,
    ⟨(some 5), none, .bin .eql 3 (.t 4) (.i .i64 0)⟩,
    ⟨(some 2), none, .mv (.t 5)⟩])
  (.ret))
theorem b69 : Body Try.prog 69 6 [2] k69 := ⟨Enters.of Try.func69 (by kernel_rfl) (by kernel_rfl), _, _, Try.func69, rfl, by kernel_rfl, rfl, rfl⟩

/-- cartridge/stripe.cell -/
def k70 : KC :=
 .seq (.reg [⟨(some 2), none, .box 48 (.t 0)⟩,
   ⟨(some 4), none, .mv (.ns)⟩])
 (.seq (.seq (.reg [⟨(some 5), none, .fa 48 (.t 2) 3⟩,
     ⟨(some 6), none, .ld 4 (.t 5)⟩,
     ⟨(some 7), none, .mv (.t 6)⟩,
     ⟨(some 8), (some (7, false)), .mv (.t 1)⟩,
     ⟨(some 9), (some (7, false)), .bin .lss 3 (.t 8) (.i .i64 0)⟩,
     ⟨(some 10), none, .pk (.t 7) (.b true) (.t 9)⟩,
     ⟨(some 11), none, .mv (.t 10)⟩,
     ⟨(some 12), (some (11, false)), .mv (.t 1)⟩,
     ⟨(some 13), (some (11, false)), .fa 48 (.t 2) 2⟩,
     ⟨(some 14), (some (11, false)), .ld 22 (.t 13)⟩,
     ⟨(some 15), (some (11, false)), .bi .len [22] [.t 14]⟩,
     ⟨(some 16), (some (11, false)), .bin .geq 3 (.t 12) (.t 15)⟩,
     ⟨(some 17), none, .pk (.t 11) (.b true) (.t 16)⟩])
   (.cond (.t 17)
    (.seq (.reg [⟨(some 18), none, .mk 23 (.i .i64 79) (.i .i64 79)⟩,
       ⟨(some 4), none, .mv (.t 18)⟩])
     (.ret))
    (.skip)))
  (.seq (.seq (.reg [⟨(some 19), none, .fa 48 (.t 2) 2⟩,
      ⟨(some 20), none, .ld 22 (.t 19)⟩,
      ⟨(some 21), none, .mv (.t 1)⟩,
      ⟨(some 22), none, .ia 22 (.t 20) (.t 21)⟩,
      ⟨(some 23), none, .ld 23 (.t 22)⟩,
      ⟨(some 24), none, .bi .len [23] [.t 23]⟩,
      ⟨(some 25), none, .bin .neq 3 (.t 24) (.i .i64 79)⟩])
    (.cond (.t 25)
     (.seq (.reg [⟨(some 4), none, .mv (.ns)⟩])
      (.ret))
     (.skip)))
   (.seq (.reg [⟨(some 26), none, .fa 48 (.t 2) 2⟩,
      ⟨(some 27), none, .ld 22 (.t 26)⟩,
      ⟨(some 28), none, .mv (.t 1)⟩,
      ⟨(some 29), none, .ia 22 (.t 27) (.t 28)⟩,
      ⟨(some 30), none, .ld 23 (.t 29)⟩,
      ⟨(some 31), none, .call (.fn 65) [.t 30]⟩,
      ⟨(some 4), none, .mv (.t 31)⟩])
    (.ret))))
theorem b70 : Body Try.prog 70 32 [4] k70 := ⟨Enters.of Try.func70 (by kernel_rfl) (by kernel_rfl), _, _, Try.func70, rfl, by kernel_rfl, rfl, rfl⟩

/-- cartridge/matrix.turned -/
def k71 : KC :=
 .seq (.reg [⟨(some 2), none, .mv (.ns)⟩])
 (.seq (.reg [⟨(some 8), none, .mv (.t 0)⟩,
    ⟨(some 9), none, .ia 22 (.t 8) (.i .i64 0)⟩,
    ⟨(some 10), none, .ld 23 (.t 9)⟩,
    ⟨(some 11), none, .bi .len [23] [.t 10]⟩,
    ⟨(some 12), none, .mk 22 (.t 11) (.t 11)⟩,
    ⟨(some 3), none, .mv (.t 12)⟩])
  (.seq (.seq (.reg [⟨(some 13), none, .mv (.t 0)⟩,
      ⟨(some 14), none, .bi .len [22] [.t 13]⟩,
      ⟨(some 15), none, .mv (.i .i64 0)⟩])
    (.block 0 (.loop (.seq (.reg [⟨(some 16), none, .bin .lss 3 (.t 15) (.t 14)⟩])
       (.seq (.cond (.t 16)
         (.skip)
         (.exit 0))
        (.seq (.block 1 (.seq (.reg [⟨(some 17), none, .ia 22 (.t 13) (.t 15)⟩,
             ⟨(some 18), none, .ld 23 (.t 17)⟩,
             ⟨(some 5), none, .mv (.t 18)⟩])
           (.seq (.reg [⟨(some 19), none, .mv (.t 5)⟩,
              ⟨(some 20), none, .bi .len [23] [.t 19]⟩,
              ⟨(some 21), none, .mv (.i .i64 0)⟩])
            (.block 2 (.loop (.seq (.reg [⟨(some 22), none, .bin .lss 3 (.t 21) (.t 20)⟩])
               (.seq (.cond (.t 22)
                 (.skip)
                 (.exit 2))
                (.seq (.block 3 (.seq (.reg [⟨(some 23), none, .mv (.t 21)⟩,
                     ⟨(some 24), none, .ia 23 (.t 19) (.t 21)⟩,
                     ⟨(some 25), none, .ld 5 (.t 24)⟩,
                     ⟨(some 6), none, .mv (.t 23)⟩,
                     ⟨(some 7), none, .mv (.t 25)⟩])
                   (.reg [⟨(some 26), none, .mv (.t 3)⟩,
                     ⟨(some 27), none, .mv (.t 6)⟩,
                     ⟨(some 28), none, .mv (.t 3)⟩,
                     ⟨(some 29), none, .mv (.t 6)⟩,
                     ⟨(some 30), none, .ia 22 (.t 28) (.t 29)⟩,
                     ⟨(some 31), none, .ld 23 (.t 30)⟩,
                     ⟨(some 32), none, .mv (.t 7)⟩,
                     ⟨(some 33), none, .bsl 23 1 [(0, .t 32)]⟩,
                     ⟨(some 34), none, .bi .append [23, 23] [.t 31, .t 33]⟩,
                     ⟨(some 35), none, .ia 22 (.t 26) (.t 27)⟩,
                     ⟨none, none, .st 23 (.t 35) (.t 34)⟩])))
                 (.reg [⟨(some 36), none, .bin .add 3 (.t 21) (.i .i64 1)⟩,
                   ⟨(some 21), none, .mv (.t 36)⟩])))))))))
         (.reg [⟨(some 37), none, .bin .add 3 (.t 15) (.i .i64 1)⟩,
           ⟨(some 15), none, .mv (.t 37)⟩])))))))
   (.seq (.reg [⟨(some 38), none, .mv (.t 3)⟩,
      ⟨(some 2), none, .mv (.t 38)⟩])
    (.ret))))
theorem b71 : Body Try.prog 71 39 [2] k71 := ⟨Enters.of Try.func71 (by kernel_rfl) (by kernel_rfl), _, _, Try.func71, rfl, by kernel_rfl, rfl, rfl⟩

/-- cartridge/cartridgeref1.Inv -/
def k72 : KC :=
 .seq (.reg [⟨(some 2), none, .mv (.i .u8 0)⟩])
 (.seq (.reg [⟨(some 3), none, .mv (.i .u8 1)⟩])
  (.seq (.seq (.reg [⟨(some 4), none, .mv (.i .i64 0)⟩])
    (.block 0 (.loop (.seq (.seq (.reg [⟨(some 5), none, .mv (.t 4)⟩,
          ⟨(some 6), none, .bin .lss 3 (.t 5) (.i .i64 254)⟩])
        (.cond (.t 6)
         (.skip)
         (.exit 0)))
       (.seq (.block 1 (.reg [⟨(some 9), none, .mv (.t 3)⟩,
           ⟨(some 10), none, .mv (.t 0)⟩,
           ⟨(some 11), none, .call (.fn 20) [.t 9, .t 10]⟩,
           ⟨(some 3), none, .mv (.t 11)⟩]))
        (.reg [⟨(some 7), none, .mv (.t 4)⟩,
          ⟨(some 8), none, .bin .add 3 (.t 7) (.i .i64 1)⟩,
          ⟨(some 4), none, .mv (.t 8)⟩]))))))
   (.seq (.reg [⟨(some 12), none, .mv (.t 3)⟩,
      ⟨(some 2), none, .mv (.t 12)⟩])
    (.ret))))
theorem b72 : Body Try.prog 72 13 [2] k72 := ⟨Enters.of Try.func72 (by kernel_rfl) (by kernel_rfl), _, _, Try.func72, rfl, by kernel_rfl, rfl, rfl⟩

/-- cartridge/matrix.Right$1 -/
def k73 : KC :=
 .seq (.reg [⟨(some 3), none, .mv (.b false)⟩])
 (.seq (.reg [⟨(some 4), none, .mv (.t 0)⟩,
    ⟨(some 5), none, .bi .len [23] [.t 4]⟩,
    ⟨(some 6), none, .ld 22 (.t 1)⟩,
    ⟨(some 7), none, .ia 22 (.t 6) (.i .i64 0)⟩,
    ⟨(some 8), none, .ld 23 (.t 7)⟩,
    ⟨(some 9), none, .bi .len [23] [.t 8]⟩,
    ⟨(some 10), none, .bin .neq 3 (.t 5) (.t 9)⟩,
    ⟨(some 3), none, .mv (.t 10)⟩])
  (.ret))
theorem b73 : Body Try.prog 73 11 [3] k73 := ⟨Enters.of Try.func73 (by kernel_rfl) (by kernel_rfl), _, _, Try.func73, rfl, by kernel_rfl, rfl, rfl⟩

/-- cartridge/gf.Add -/
def k74 : KC :=
 .seq (.reg [⟨(some 4), none, .mv (.i .u8 0)⟩])
 (.seq (.reg [⟨(some 5), none, .mv (.t 0)⟩,
    ⟨(some 6), none, .mv (.t 1)⟩,
    ⟨(some 7), none, .bin .xor 5 (.t 5) (.t 6)⟩,
    ⟨(some 4), none, .mv (.t 7)⟩])
  (.ret))
theorem b74 : Body Try.prog 74 8 [4] k74 := ⟨Enters.of Try.func74 (by kernel_rfl) (by kernel_rfl), _, _, Try.func74, rfl, by kernel_rfl, rfl, rfl⟩

/-- cartridge/shelf.New -/
noncomputable def drw75_0 : Array Oper := ((Try.f75.body.map regs).getD []).getD 0 #[]
noncomputable def k75 : KC :=
 .seq (.reg [⟨(some 4), none, .mv (.np)⟩,
   ⟨(some 5), none, .mv (.i .i64 0)⟩])
 (.seq (.seq (.reg [⟨(some 8), none, .mv (.t 0)⟩,
     ⟨(some 9), none, .bi .len [46] [.t 8]⟩,
     ⟨(some 10), none, .bin .gtr 3 (.t 9) (.i .i64 30)⟩,
     ⟨(some 11), none, .mv (.t 10)⟩,
     ⟨(some 12), (some (11, false)), .mv (.t 1)⟩,
     ⟨(some 13), (some (11, false)), .bin .lss 3 (.t 12) (.i .i64 1)⟩,
     ⟨(some 14), none, .pk (.t 11) (.b true) (.t 13)⟩,
     ⟨(some 15), none, .mv (.t 14)⟩,
     ⟨(some 16), (some (15, false)), .mv (.t 1)⟩,
     ⟨(some 17), (some (15, false)), .bin .gtr 3 (.t 16) (.i .i64 4)⟩,
     ⟨(some 18), none, .pk (.t 15) (.b true) (.t 17)⟩])
   (.cond (.t 18)
    (.seq (.reg [⟨(some 4), none, .mv (.np)⟩,
       ⟨(some 5), none, .mv (.i .i64 1)⟩])
     (.ret))
    (.skip)))
  (.seq (.seq (.reg [⟨(some 19), none, .mv (.t 0)⟩,
      ⟨(some 20), none, .bi .len [46] [.t 19]⟩,
      ⟨(some 21), none, .mv (.i .i64 0)⟩])
    (.block 0 (.loop (.seq (.reg [⟨(some 22), none, .bin .lss 3 (.t 21) (.t 20)⟩])
       (.seq (.cond (.t 22)
         (.skip)
         (.exit 0))
        (.seq (.block 1 (.seq (.reg [⟨(some 23), none, .mv (.t 21)⟩,
             ⟨(some 24), none, .ia 46 (.t 19) (.t 21)⟩,
             ⟨(some 25), none, .ld 3 (.t 24)⟩,
             ⟨(some 6), none, .mv (.t 23)⟩,
             ⟨(some 7), none, .mv (.t 25)⟩])
           (.seq (.reg [⟨(some 26), none, .mv (.t 7)⟩,
              ⟨(some 27), none, .bin .lss 3 (.t 26) (.i .i64 1)⟩,
              ⟨(some 28), none, .mv (.t 27)⟩,
              ⟨(some 29), (some (28, false)), .mv (.t 0)⟩,
              ⟨(some 30), (some (28, false)), .mv (.t 6)⟩,
              ⟨(some 31), (some (28, false)), .sli 46 (.t 29) none (some (.t 30)) none⟩,
              ⟨(some 32), (some (28, false)), .mv (.t 7)⟩,
              ⟨(some 33), (some (28, false)), .call (.fn 99) [.t 31, .t 32]⟩,
              ⟨(some 34), none, .pk (.t 28) (.b true) (.t 33)⟩])
            (.cond (.t 34)
             (.seq (.reg [⟨(some 4), none, .mv (.np)⟩,
                ⟨(some 5), none, .mv (.i .i64 1)⟩])
              (.ret))
             (.skip)))))
         (.reg [⟨(some 35), none, .bin .add 3 (.t 21) (.i .i64 1)⟩,
           ⟨(some 21), none, .mv (.t 35)⟩])))))))
   (.seq (.drw drw75_0 [⟨(some 36), none, .mv (.t 0)⟩,
      ⟨(some 37), none, .call (.fn 76) [.t 36]⟩,
      ⟨(some 38), none, .mv (.t 1)⟩,
      ⟨(some 39), none, .mk 46 (.t 38) (.t 38)⟩,
      ⟨(some 40), none, .bld 127 [(0, .t 37), (1, .t 39)]⟩,
      ⟨(some 41), none, .box 127 (.t 40)⟩,
      ⟨(some 4), none, .mv (.t 41)⟩,
      ⟨(some 5), none, .mv (.i .i64 0)⟩])
    (.ret))))
theorem b75 : Body Try.prog 75 42 [4, 5] k75 := ⟨Enters.of Try.func75 (by kernel_rfl) (by kernel_rfl), _, _, Try.func75, rfl, by kernel_rfl, rfl, rfl⟩

/-- slices.Clone[[]int,int] -/
def k76 : KC :=
 .seq (.reg [⟨(some 2), none, .mv (.ns)⟩])
 (.seq (.seq (.reg [⟨(some 3), none, .mv (.t 0)⟩,
     ⟨(some 4), none, .bin .eql 46 (.t 3) (.ns)⟩])
   (.cond (.t 4)
    (.seq (.reg [⟨(some 2), none, .mv (.ns)⟩])
     (.ret))
    (.skip)))
  (.seq (.reg [⟨(some 5), none, .bsl 46 0 []⟩,
     ⟨(some 6), none, .mv (.t 0)⟩,
     ⟨(some 7), none, .bi .append [46, 46] [.t 5, .t 6]⟩,
     ⟨(some 2), none, .mv (.t 7)⟩])
   (.ret)))
theorem b76 : Body Try.prog 76 8 [2] k76 := ⟨Enters.of Try.func76 (by kernel_rfl) (by kernel_rfl), _, _, Try.func76, rfl, by kernel_rfl, rfl, rfl⟩

/-- slices.ContainsFunc[[]int,int] -/
def k77 : KC :=
 .seq (.reg [⟨(some 4), none, .mv (.b false)⟩])
 (.seq (.reg [⟨(some 5), none, .mv (.t 0)⟩,
    ⟨(some 6), none, .mv (.t 1)⟩,
    ⟨(some 7), none, .call (.fn 100) [.t 5, .t 6]⟩,
    ⟨(some 8), none, .bin .geq 3 (.t 7) (.i .i64 0)⟩,
    ⟨(some 4), none, .mv (.t 8)⟩])
  (.ret))
theorem b77 : Body Try.prog 77 9 [4] k77 := ⟨Enters.of Try.func77 (by kernel_rfl) (by kernel_rfl), _, _, Try.func77, rfl, by kernel_rfl, rfl, rfl⟩

/-- (*cartridge/robot.Robot).Serve$1 -/
def k78 : KC :=
 .seq (.reg [⟨(some 3), none, .mv (.b false)⟩])
 (.seq (.reg [⟨(some 4), none, .ld 64 (.t 1)⟩,
    ⟨(some 5), none, .mv (.t 0)⟩,
    ⟨(some 6), none, .call (.fn 79) [.t 4, .t 5]⟩,
    ⟨(some 7), none, .un .not (.t 6)⟩,
    ⟨(some 3), none, .mv (.t 7)⟩])
  (.ret))
theorem b78 : Body Try.prog 78 8 [3] k78 := ⟨Enters.of Try.func78 (by kernel_rfl) (by kernel_rfl), _, _, Try.func78, rfl, by kernel_rfl, rfl, rfl⟩

/-- (*cartridge/robot.Robot).is -/
def k79 : KC :=
 .seq (.reg [⟨(some 4), none, .mv (.b false)⟩])
 (.seq (.reg [⟨(some 5), none, .mv (.t 0)⟩,
    ⟨(some 6), none, .bin .neq 64 (.t 5) (.np)⟩,
    ⟨(some 7), none, .mv (.t 6)⟩,
    ⟨(some 8), (some (7, true)), .mv (.t 0)⟩,
    ⟨(some 9), (some (7, true)), .nc (.t 8)⟩,
    ⟨(some 10), (some (7, true)), .fa 109 (.t 9) 2⟩,
    ⟨(some 11), (some (7, true)), .ld 46 (.t 10)⟩,
    ⟨(some 12), (some (7, true)), .mv (.t 1)⟩,
    ⟨(some 13), (some (7, true)), .call (.fn 99) [.t 11, .t 12]⟩,
    ⟨(some 14), none, .pk (.t 7) (.t 13) (.b false)⟩,
    ⟨(some 4), none, .mv (.t 14)⟩])
  (.ret))
theorem b79 : Body Try.prog 79 15 [4] k79 := ⟨Enters.of Try.func79 (by kernel_rfl) (by kernel_rfl), _, _, Try.func79, rfl, by kernel_rfl, rfl, rfl⟩

/-- (*cartridge/mount.Line).Add -/
def k80 : KC :=
 .seq (.reg [⟨(some 4), none, .mv (.t 0)⟩,
   ⟨(some 5), none, .bin .neq 129 (.t 4) (.np)⟩])
 (.cond (.t 5)
  (.reg [⟨(some 6), none, .mv (.t 0)⟩,
    ⟨(some 7), none, .mv (.t 0)⟩,
    ⟨(some 8), none, .nc (.t 7)⟩,
    ⟨(some 9), none, .fa 107 (.t 8) 0⟩,
    ⟨(some 10), none, .ld 46 (.t 9)⟩,
    ⟨(some 11), none, .mv (.t 1)⟩,
    ⟨(some 12), none, .bsl 46 1 [(0, .t 11)]⟩,
    ⟨(some 13), none, .bi .append [46, 46] [.t 10, .t 12]⟩,
    ⟨(some 14), none, .nc (.t 6)⟩,
    ⟨(some 15), none, .fa 107 (.t 14) 0⟩,
    ⟨none, none, .st 46 (.t 15) (.t 13)⟩])
  (.skip))
theorem b80 : Body Try.prog 80 16 [] k80 := ⟨Enters.of Try.func80 (by kernel_rfl) (by kernel_rfl), _, _, Try.func80, rfl, by kernel_rfl, rfl, rfl⟩

/-- (*cartridge/robot.Robot).ready -/
def k81 : KC :=
 .seq (.reg [⟨(some 2), none, .mv (.i .i64 0)⟩,
   ⟨(some 3), none, .mv (.b false)⟩])
 (.seq (.seq (.reg [⟨(some 6), none, .mv (.t 0)⟩,
     ⟨(some 7), none, .nc (.t 6)⟩,
     ⟨(some 8), none, .fa 109 (.t 7) 1⟩,
     ⟨(some 9), none, .ld 3 (.t 8)⟩,
     ⟨(some 10), none, .mv (.i .i64 0)⟩])
   (.block 0 (.loop (.seq (.reg [⟨(some 11), none, .bin .lss 3 (.t 10) (.t 9)⟩])
      (.seq (.cond (.t 11)
        (.skip)
        (.exit 0))
       (.seq (.block 1 (.seq (.reg [⟨(some 12), none, .mv (.t 10)⟩,
            ⟨(some 4), none, .mv (.t 12)⟩])
          (.seq (.reg [⟨(some 13), none, .mv (.t 0)⟩,
             ⟨(some 14), none, .nc (.t 13)⟩,
             ⟨(some 15), none, .fa 109 (.t 14) 0⟩,
             ⟨(some 16), none, .ld 102 (.t 15)⟩,
             ⟨(some 17), none, .mv (.t 4)⟩,
             ⟨(some 18), none, .call (.fn 92) [.t 16, .t 17]⟩,
             ⟨(some 5), none, .mv (.t 18)⟩])
           (.seq (.reg [⟨(some 19), none, .mv (.t 5)⟩,
              ⟨(some 20), none, .bin .neq 3 (.t 19) (.i .i64 0)⟩,
              ⟨(some 21), none, .mv (.t 20)⟩,
              ⟨(some 22), (some (21, true)), .mv (.t 0)⟩,
              ⟨(some 23), (some (21, true)), .nc (.t 22)⟩,
              ⟨(some 24), (some (21, true)), .fa 109 (.t 23) 3⟩,
              ⟨(some 25), (some (21, true)), .mv (.t 5)⟩,
              ⟨(some 26), (some (21, true)), .call (.fn 101) [.t 24, .t 25]⟩,
              ⟨(some 27), none, .pk (.t 21) (.t 26) (.b false)⟩])
            (.cond (.t 27)
             (.seq (.reg [⟨(some 28), none, .mv (.t 5)⟩,
                ⟨(some 2), none, .mv (.t 28)⟩,
                ⟨(some 3), none, .mv (.b true)⟩])
              (.ret))
             (.skip))))))
        (.reg [⟨(some 29), none, .bin .add 3 (.t 10) (.i .i64 1)⟩,
          ⟨(some 10), none, .mv (.t 29)⟩])))))))
  (.seq (.reg [⟨(some 2), none, .mv (.i .i64 0)⟩,
     ⟨(some 3), none, .mv (.b false)⟩])
   (.ret)))
theorem b81 : Body Try.prog 81 30 [2, 3] k81 := ⟨Enters.of Try.func81 (by kernel_rfl) (by kernel_rfl), _, _, Try.func81, rfl, by kernel_rfl, rfl, rfl⟩

/-- (*cartridge/mount.Line).Len -/
def k82 : KC :=
 .seq (.reg [⟨(some 2), none, .mv (.i .i64 0)⟩])
 (.seq (.seq (.reg [⟨(some 3), none, .mv (.t 0)⟩,
     ⟨(some 4), none, .bin .eql 129 (.t 3) (.np)⟩])
   (.cond (.t 4)
    (.seq (.reg [⟨(some 2), none, .mv (.i .i64 0)⟩])
     (.ret))
    (.skip)))
  (.seq (.reg [⟨(some 5), none, .mv (.t 0)⟩,
     ⟨(some 6), none, .nc (.t 5)⟩,
     ⟨(some 7), none, .fa 107 (.t 6) 0⟩,
     ⟨(some 8), none, .ld 46 (.t 7)⟩,
     ⟨(some 9), none, .bi .len [46] [.t 8]⟩,
     ⟨(some 2), none, .mv (.t 9)⟩])
   (.ret)))
theorem b82 : Body Try.prog 82 10 [2] k82 := ⟨Enters.of Try.func82 (by kernel_rfl) (by kernel_rfl), _, _, Try.func82, rfl, by kernel_rfl, rfl, rfl⟩

/-- cartridge/cartridgeref22.NewShelf -/
noncomputable def drw83_0 : Array Oper := ((Try.f83.body.map regs).getD []).getD 0 #[]
noncomputable def k83 : KC :=
 .seq (.reg [⟨(some 4), none, .mv (.np)⟩,
   ⟨(some 5), none, .mv (.i .i64 0)⟩])
 (.seq (.seq (.reg [⟨(some 8), none, .mv (.t 0)⟩,
     ⟨(some 9), none, .bi .len [46] [.t 8]⟩,
     ⟨(some 10), none, .bin .gtr 3 (.t 9) (.i .i64 30)⟩,
     ⟨(some 11), none, .mv (.t 10)⟩,
     ⟨(some 12), (some (11, false)), .mv (.t 1)⟩,
     ⟨(some 13), (some (11, false)), .bin .lss 3 (.t 12) (.i .i64 1)⟩,
     ⟨(some 14), none, .pk (.t 11) (.b true) (.t 13)⟩,
     ⟨(some 15), none, .mv (.t 14)⟩,
     ⟨(some 16), (some (15, false)), .mv (.t 1)⟩,
     ⟨(some 17), (some (15, false)), .bin .gtr 3 (.t 16) (.i .i64 4)⟩,
     ⟨(some 18), none, .pk (.t 15) (.b true) (.t 17)⟩])
   (.cond (.t 18)
    (.seq (.reg [⟨(some 4), none, .mv (.np)⟩,
       ⟨(some 5), none, .mv (.i .i64 1)⟩])
     (.ret))
    (.skip)))
  (.seq (.reg [⟨(some 19), none, .mv (.t 1)⟩,
     ⟨(some 20), none, .mk 46 (.t 19) (.t 19)⟩,
     ⟨(some 21), none, .bld 118 [(2, .t 20)]⟩,
     ⟨(some 22), none, .box 118 (.t 21)⟩,
     ⟨(some 6), none, .mv (.t 22)⟩])
   (.seq (.seq (.reg [⟨(some 7), none, .mv (.i .i64 0)⟩])
     (.block 0 (.loop (.seq (.seq (.reg [⟨(some 23), none, .mv (.t 7)⟩,
           ⟨(some 24), none, .mv (.t 0)⟩,
           ⟨(some 25), none, .bi .len [46] [.t 24]⟩,
           ⟨(some 26), none, .bin .lss 3 (.t 23) (.t 25)⟩])
         (.cond (.t 26)
          (.skip)
          (.exit 0)))
        (.seq (.block 1 (.seq (.seq (.reg [⟨(some 29), none, .mv (.t 0)⟩,
              ⟨(some 30), none, .mv (.t 7)⟩,
              ⟨(some 31), none, .ia 46 (.t 29) (.t 30)⟩,
              ⟨(some 32), none, .ld 3 (.t 31)⟩,
              ⟨(some 33), none, .bin .lss 3 (.t 32) (.i .i64 1)⟩,
              ⟨(some 34), none, .mv (.t 33)⟩,
              ⟨(some 35), (some (34, false)), .mv (.t 6)⟩,
              ⟨(some 36), (some (34, false)), .mv (.t 0)⟩,
              ⟨(some 37), (some (34, false)), .mv (.t 7)⟩,
              ⟨(some 38), (some (34, false)), .ia 46 (.t 36) (.t 37)⟩,
              ⟨(some 39), (some (34, false)), .ld 3 (.t 38)⟩,
              ⟨(some 40), (some (34, false)), .call (.fn 84) [.t 35, .t 39]⟩,
              ⟨(some 41), (some (34, false)), .bin .geq 3 (.t 40) (.i .i64 0)⟩,
              ⟨(some 42), none, .pk (.t 34) (.b true) (.t 41)⟩])
            (.cond (.t 42)
             (.seq (.reg [⟨(some 4), none, .mv (.np)⟩,
                ⟨(some 5), none, .mv (.i .i64 1)⟩])
              (.ret))
             (.skip)))
           (.seq (.drw drw83_0 [⟨(some 43), none, .mv (.t 6)⟩,
              ⟨(some 44), none, .mv (.t 6)⟩,
              ⟨(some 45), none, .nc (.t 44)⟩,
              ⟨(some 46), none, .fa 118 (.t 45) 0⟩,
              ⟨(some 47), none, .ld 46 (.t 46)⟩,
              ⟨(some 48), none, .mv (.t 0)⟩,
              ⟨(some 49), none, .mv (.t 7)⟩,
              ⟨(some 50), none, .ia 46 (.t 48) (.t 49)⟩,
              ⟨(some 51), none, .ld 3 (.t 50)⟩,
              ⟨(some 52), none, .bsl 46 1 [(0, .t 51)]⟩,
              ⟨(some 53), none, .bi .append [46, 46] [.t 47, .t 52]⟩,
              ⟨(some 54), none, .nc (.t 43)⟩,
              ⟨(some 55), none, .fa 118 (.t 54) 0⟩,
              ⟨none, none, .st 46 (.t 55) (.t 53)⟩])
            (.reg [⟨(some 56), none, .mv (.t 6)⟩,
              ⟨(some 57), none, .mv (.t 6)⟩,
              ⟨(some 58), none, .nc (.t 57)⟩,
              ⟨(some 59), none, .fa 118 (.t 58) 1⟩,
              ⟨(some 60), none, .ld 46 (.t 59)⟩,
              ⟨(some 61), none, .bsl 46 1 [(0, .i .i64 (-1))]⟩,
              ⟨(some 62), none, .bi .append [46, 46] [.t 60, .t 61]⟩,
              ⟨(some 63), none, .nc (.t 56)⟩,
              ⟨(some 64), none, .fa 118 (.t 63) 1⟩,
              ⟨none, none, .st 46 (.t 64) (.t 62)⟩]))))
         (.reg [⟨(some 27), none, .mv (.t 7)⟩,
           ⟨(some 28), none, .bin .add 3 (.t 27) (.i .i64 1)⟩,
           ⟨(some 7), none, .mv (.t 28)⟩]))))))
    (.seq (.reg [⟨(some 65), none, .mv (.t 6)⟩,
       ⟨(some 4), none, .mv (.t 65)⟩,
       ⟨(some 5), none, .mv (.i .i64 0)⟩])
     (.ret)))))
theorem b83 : Body Try.prog 83 66 [4, 5] k83 := ⟨Enters.of Try.func83 (by kernel_rfl) (by kernel_rfl), _, _, Try.func83, rfl, by kernel_rfl, rfl, rfl⟩

/-- (*cartridge/cartridgeref22.Shelf).find -/
def k84 : KC :=
 .seq (.reg [⟨(some 4), none, .mv (.i .i64 0)⟩])
 (.seq (.seq (.reg [⟨(some 5), none, .mv (.i .i64 0)⟩])
   (.block 0 (.loop (.seq (.seq (.reg [⟨(some 6), none, .mv (.t 5)⟩,
         ⟨(some 7), none, .mv (.t 0)⟩,
         ⟨(some 8), none, .nc (.t 7)⟩,
         ⟨(some 9), none, .fa 118 (.t 8) 0⟩,
         ⟨(some 10), none, .ld 46 (.t 9)⟩,
         ⟨(some 11), none, .bi .len [46] [.t 10]⟩,
         ⟨(some 12), none, .bin .lss 3 (.t 6) (.t 11)⟩])
       (.cond (.t 12)
        (.skip)
        (.exit 0)))
      (.seq (.block 1 (.seq (.reg [⟨(some 15), none, .mv (.t 0)⟩,
           ⟨(some 16), none, .nc (.t 15)⟩,
           ⟨(some 17), none, .fa 118 (.t 16) 0⟩,
           ⟨(some 18), none, .ld 46 (.t 17)⟩,
           ⟨(some 19), none, .mv (.t 5)⟩,
           ⟨(some 20), none, .ia 46 (.t 18) (.t 19)⟩,
           ⟨(some 21), none, .ld 3 (.t 20)⟩,
           ⟨(some 22), none, .mv (.t 1)⟩,
           ⟨(some 23), none, .bin .eql 3 (.t 21) (.t 22)⟩])
         (.cond (.t 23)
          (.seq (.reg [⟨(some 24), none, .mv (.t 5)⟩,
             ⟨(some 4), none, .mv (.t 24)⟩])
           (.ret))
          (.skip))))
       (.reg [⟨(some 13), none, .mv (.t 5)⟩,
         ⟨(some 14), none, .bin .add 3 (.t 13) (.i .i64 1)⟩,
         ⟨(some 5), none, .mv (.t 14)⟩]))))))
  (.seq (.reg [⟨(some 4), none, .mv (.i .i64 (-1))⟩])
   (.ret)))
theorem b84 : Body Try.prog 84 25 [4] k84 := ⟨Enters.of Try.func84 (by kernel_rfl) (by kernel_rfl), _, _, Try.func84, rfl, by kernel_rfl, rfl, rfl⟩

/-- (*cartridge/mount.Line).Serve -/
def k85 : KC :=
 .seq (.reg [⟨(some 3), none, .box 3 (.t 1)⟩,
   ⟨(some 4), none, .mv (.i .i64 0)⟩])
 (.seq (.reg [⟨(some 6), none, .mv (.t 0)⟩,
    ⟨(some 7), none, .call (.fn 82) [.t 6]⟩,
    ⟨(some 5), none, .mv (.t 7)⟩])
  (.seq (.seq (.reg [⟨(some 8), none, .mv (.t 5)⟩,
      ⟨(some 9), none, .bin .gtr 3 (.t 8) (.i .i64 0)⟩])
    (.cond (.t 9)
     (.reg [⟨(some 10), none, .mv (.t 0)⟩,
       ⟨(some 11), none, .mv (.t 0)⟩,
       ⟨(some 12), none, .nc (.t 11)⟩,
       ⟨(some 13), none, .fa 107 (.t 12) 0⟩,
       ⟨(some 14), none, .ld 46 (.t 13)⟩,
       ⟨(some 15), none, .mf 103 [.t 3]⟩,
       ⟨(some 16), none, .call (.fn 102) [.t 14, .t 15]⟩,
       ⟨(some 17), none, .nc (.t 10)⟩,
       ⟨(some 18), none, .fa 107 (.t 17) 0⟩,
       ⟨none, none, .st 46 (.t 18) (.t 16)⟩])
     (.skip)))
   (.seq (.reg [⟨(some 19), none, .mv (.t 5)⟩,
      ⟨(some 20), none, .mv (.t 0)⟩,
      ⟨(some 21), none, .call (.fn 82) [.t 20]⟩,
      ⟨(some 22), none, .bin .sub 3 (.t 19) (.t 21)⟩,
      ⟨(some 4), none, .mv (.t 22)⟩])
    (.ret))))
theorem b85 : Body Try.prog 85 23 [4] k85 := ⟨Enters.of Try.func85 (by kernel_rfl) (by kernel_rfl), _, _, Try.func85, rfl, by kernel_rfl, rfl, rfl⟩

/-- (*cartridge/robot.Robot).pick -/
noncomputable def drw86_0 : Array Oper := ((Try.f86.body.map regs).getD []).getD 0 #[]
noncomputable def k86 : KC :=
 .seq (.reg [⟨(some 7), none, .mv (.t 0)⟩,
   ⟨(some 8), none, .nc (.t 7)⟩,
   ⟨(some 9), none, .fa 109 (.t 8) 3⟩,
   ⟨(some 10), none, .call (.fn 104) [.t 9]⟩,
   ⟨(some 6), none, .mv (.t 10)⟩,
   ⟨(some 11), none, .ex (.t 6) 0⟩,
   ⟨(some 12), none, .ex (.t 6) 1⟩,
   ⟨(some 2), none, .mv (.t 11)⟩,
   ⟨(some 3), none, .mv (.t 12)⟩])
 (.seq (.seq (.reg [⟨(some 14), none, .mv (.t 0)⟩,
     ⟨(some 15), none, .call (.fn 105) [.t 14]⟩,
     ⟨(some 13), none, .mv (.t 15)⟩,
     ⟨(some 16), none, .ex (.t 13) 0⟩,
     ⟨(some 17), none, .ex (.t 13) 1⟩,
     ⟨(some 4), none, .mv (.t 16)⟩,
     ⟨(some 5), none, .mv (.t 17)⟩])
   (.seq (.reg [⟨(some 18), none, .mv (.t 5)⟩])
    (.cond (.t 18)
     (.seq (.reg [⟨(some 19), none, .mv (.t 0)⟩,
        ⟨(some 20), none, .nc (.t 19)⟩,
        ⟨(some 21), none, .fa 109 (.t 20) 0⟩,
        ⟨(some 22), none, .ld 102 (.t 21)⟩,
        ⟨(some 23), none, .mv (.t 2)⟩,
        ⟨(some 24), none, .mv (.t 4)⟩,
        ⟨(some 25), none, .call (.fn 106) [.t 22, .t 23, .t 24]⟩])
      (.seq (.reg [⟨(some 26), none, .mv (.t 0)⟩,
         ⟨(some 27), none, .mv (.t 0)⟩,
         ⟨(some 28), none, .nc (.t 27)⟩,
         ⟨(some 29), none, .fa 109 (.t 28) 4⟩,
         ⟨(some 30), none, .ld 46 (.t 29)⟩,
         ⟨(some 31), none, .mv (.t 4)⟩,
         ⟨(some 32), none, .bsl 46 1 [(0, .t 31)]⟩,
         ⟨(some 33), none, .bi .append [46, 46] [.t 30, .t 32]⟩,
         ⟨(some 34), none, .nc (.t 26)⟩,
         ⟨(some 35), none, .fa 109 (.t 34) 4⟩,
         ⟨none, none, .st 46 (.t 35) (.t 33)⟩])
       (.ret)))
     (.skip))))
  (.seq (.drw drw86_0 [⟨(some 36), none, .mv (.t 0)⟩,
     ⟨(some 37), none, .nc (.t 36)⟩,
     ⟨(some 38), none, .fa 109 (.t 37) 0⟩,
     ⟨(some 39), none, .ld 102 (.t 38)⟩,
     ⟨(some 40), none, .mv (.t 0)⟩,
     ⟨(some 41), none, .nc (.t 40)⟩,
     ⟨(some 42), none, .fa 109 (.t 41) 4⟩,
     ⟨(some 43), none, .ld 46 (.t 42)⟩,
     ⟨(some 44), none, .ia 46 (.t 43) (.i .i64 0)⟩,
     ⟨(some 45), none, .ld 3 (.t 44)⟩,
     ⟨(some 46), none, .call (.fn 107) [.t 39, .t 45]⟩])
   (.reg [⟨(some 47), none, .mv (.t 0)⟩,
     ⟨(some 48), none, .mv (.t 0)⟩,
     ⟨(some 49), none, .nc (.t 48)⟩,
     ⟨(some 50), none, .fa 109 (.t 49) 4⟩,
     ⟨(some 51), none, .ld 46 (.t 50)⟩,
     ⟨(some 52), none, .sli 46 (.t 51) (some (.i .i64 1)) none none⟩,
     ⟨(some 53), none, .nc (.t 47)⟩,
     ⟨(some 54), none, .fa 109 (.t 53) 4⟩,
     ⟨none, none, .st 46 (.t 54) (.t 52)⟩])))
theorem b86 : Body Try.prog 86 55 [] k86 := ⟨Enters.of Try.func86 (by kernel_rfl) (by kernel_rfl), _, _, Try.func86, rfl, by kernel_rfl, rfl, rfl⟩

/-- (*cartridge/cartridgeref22.Robot).wants -/
def k87 : KC :=
 .seq (.reg [⟨(some 4), none, .mv (.b false)⟩])
 (.seq (.seq (.reg [⟨(some 5), none, .mv (.i .i64 0)⟩])
   (.block 0 (.loop (.seq (.seq (.reg [⟨(some 6), none, .mv (.t 5)⟩,
         ⟨(some 7), none, .mv (.t 0)⟩,
         ⟨(some 8), none, .nc (.t 7)⟩,
         ⟨(some 9), none, .fa 84 (.t 8) 1⟩,
         ⟨(some 10), none, .ld 46 (.t 9)⟩,
         ⟨(some 11), none, .bi .len [46] [.t 10]⟩,
         ⟨(some 12), none, .bin .lss 3 (.t 6) (.t 11)⟩])
       (.cond (.t 12)
        (.skip)
        (.exit 0)))
      (.seq (.block 1 (.seq (.reg [⟨(some 15), none, .mv (.t 0)⟩,
           ⟨(some 16), none, .nc (.t 15)⟩,
           ⟨(some 17), none, .fa 84 (.t 16) 1⟩,
           ⟨(some 18), none, .ld 46 (.t 17)⟩,
           ⟨(some 19), none, .mv (.t 5)⟩,
           ⟨(some 20), none, .ia 46 (.t 18) (.t 19)⟩,
           ⟨(some 21), none, .ld 3 (.t 20)⟩,
           ⟨(some 22), none, .mv (.t 1)⟩,
           ⟨(some 23), none, .bin .eql 3 (.t 21) (.t 22)⟩])
         (.cond (.t 23)
          (.seq (.reg [⟨(some 4), none, .mv (.b true)⟩])
           (.ret))
          (.skip))))
       (.reg [⟨(some 13), none, .mv (.t 5)⟩,
         ⟨(some 14), none, .bin .add 3 (.t 13) (.i .i64 1)⟩,
         ⟨(some 5), none, .mv (.t 14)⟩]))))))
  (.seq (.reg [⟨(some 4), none, .mv (.b false)⟩])
   (.ret)))
theorem b87 : Body Try.prog 87 24 [4] k87 := ⟨Enters.of Try.func87 (by kernel_rfl) (by kernel_rfl), _, _, Try.func87, rfl, by kernel_rfl, rfl, rfl⟩

/-- (*cartridge/cartridgeref22.Shelf).Move -/
def k88 : KC :=
 .seq (.reg [⟨(some 6), none, .mv (.i .i64 0)⟩])
 (.seq (.reg [⟨(some 8), none, .mv (.t 0)⟩,
    ⟨(some 9), none, .mv (.t 1)⟩,
    ⟨(some 10), none, .call (.fn 84) [.t 8, .t 9]⟩,
    ⟨(some 7), none, .mv (.t 10)⟩])
  (.seq (.seq (.reg [⟨(some 11), none, .mv (.t 7)⟩,
      ⟨(some 12), none, .bin .lss 3 (.t 11) (.i .i64 0)⟩,
      ⟨(some 13), none, .mv (.t 12)⟩,
      ⟨(some 14), (some (13, false)), .mv (.t 2)⟩,
      ⟨(some 15), (some (13, false)), .bin .lss 3 (.t 14) (.i .i64 0)⟩,
      ⟨(some 16), none, .pk (.t 13) (.b true) (.t 15)⟩,
      ⟨(some 17), none, .mv (.t 16)⟩,
      ⟨(some 18), (some (17, false)), .mv (.t 2)⟩,
      ⟨(some 19), (some (17, false)), .mv (.t 0)⟩,
      ⟨(some 20), (some (17, false)), .nc (.t 19)⟩,
      ⟨(some 21), (some (17, false)), .fa 118 (.t 20) 2⟩,
      ⟨(some 22), (some (17, false)), .ld 46 (.t 21)⟩,
      ⟨(some 23), (some (17, false)), .bi .len [46] [.t 22]⟩,
      ⟨(some 24), (some (17, false)), .bin .geq 3 (.t 18) (.t 23)⟩,
      ⟨(some 25), none, .pk (.t 17) (.b true) (.t 24)⟩])
    (.cond (.t 25)
     (.seq (.reg [⟨(some 6), none, .mv (.i .i64 1)⟩])
      (.ret))
     (.skip)))
   (.seq (.seq (.reg [⟨(some 26), none, .mv (.t 0)⟩,
       ⟨(some 27), none, .nc (.t 26)⟩,
       ⟨(some 28), none, .fa 118 (.t 27) 1⟩,
       ⟨(some 29), none, .ld 46 (.t 28)⟩,
       ⟨(some 30), none, .mv (.t 7)⟩,
       ⟨(some 31), none, .ia 46 (.t 29) (.t 30)⟩,
       ⟨(some 32), none, .ld 3 (.t 31)⟩,
       ⟨(some 33), none, .bin .geq 3 (.t 32) (.i .i64 0)⟩,
       ⟨(some 34), none, .mv (.t 33)⟩,
       ⟨(some 35), (some (34, false)), .mv (.t 0)⟩,
       ⟨(some 36), (some (34, false)), .nc (.t 35)⟩,
       ⟨(some 37), (some (34, false)), .fa 118 (.t 36) 2⟩,
       ⟨(some 38), (some (34, false)), .ld 46 (.t 37)⟩,
       ⟨(some 39), (some (34, false)), .mv (.t 2)⟩,
       ⟨(some 40), (some (34, false)), .ia 46 (.t 38) (.t 39)⟩,
       ⟨(some 41), (some (34, false)), .ld 3 (.t 40)⟩,
       ⟨(some 42), (some (34, false)), .bin .neq 3 (.t 41) (.i .i64 0)⟩,
       ⟨(some 43), none, .pk (.t 34) (.b true) (.t 42)⟩])
     (.cond (.t 43)
      (.seq (.reg [⟨(some 6), none, .mv (.i .i64 11)⟩])
       (.ret))
      (.skip)))
    (.seq (.reg [⟨(some 44), none, .mv (.t 0)⟩,
       ⟨(some 45), none, .nc (.t 44)⟩,
       ⟨(some 46), none, .fa 118 (.t 45) 1⟩,
       ⟨(some 47), none, .ld 46 (.t 46)⟩,
       ⟨(some 48), none, .mv (.t 7)⟩,
       ⟨(some 49), none, .mv (.t 2)⟩,
       ⟨(some 50), none, .ia 46 (.t 47) (.t 48)⟩,
       ⟨none, none, .st 3 (.t 50) (.t 49)⟩])
     (.seq (.reg [⟨(some 51), none, .mv (.t 0)⟩,
        ⟨(some 52), none, .nc (.t 51)⟩,
        ⟨(some 53), none, .fa 118 (.t 52) 2⟩,
        ⟨(some 54), none, .ld 46 (.t 53)⟩,
        ⟨(some 55), none, .mv (.t 2)⟩,
        ⟨(some 56), none, .mv (.t 1)⟩,
        ⟨(some 57), none, .ia 46 (.t 54) (.t 55)⟩,
        ⟨none, none, .st 3 (.t 57) (.t 56)⟩])
      (.seq (.reg [⟨(some 6), none, .mv (.i .i64 0)⟩])
       (.ret)))))))
theorem b88 : Body Try.prog 88 58 [6] k88 := ⟨Enters.of Try.func88 (by kernel_rfl) (by kernel_rfl), _, _, Try.func88, rfl, by kernel_rfl, rfl, rfl⟩

/-- (*cartridge/cartridgeref22.Shelf).Back -/
noncomputable def drw89_0 : Array Oper := ((Try.f89.body.map regs).getD []).getD 0 #[]
noncomputable def k89 : KC :=
 .seq (.reg [⟨(some 4), none, .mv (.i .i64 0)⟩])
 (.seq (.seq (.reg [⟨(some 5), none, .mv (.t 1)⟩,
     ⟨(some 6), none, .bin .lss 3 (.t 5) (.i .i64 0)⟩,
     ⟨(some 7), none, .mv (.t 6)⟩,
     ⟨(some 8), (some (7, false)), .mv (.t 1)⟩,
     ⟨(some 9), (some (7, false)), .mv (.t 0)⟩,
     ⟨(some 10), (some (7, false)), .nc (.t 9)⟩,
     ⟨(some 11), (some (7, false)), .fa 118 (.t 10) 2⟩,
     ⟨(some 12), (some (7, false)), .ld 46 (.t 11)⟩,
     ⟨(some 13), (some (7, false)), .bi .len [46] [.t 12]⟩,
     ⟨(some 14), (some (7, false)), .bin .geq 3 (.t 8) (.t 13)⟩,
     ⟨(some 15), none, .pk (.t 7) (.b true) (.t 14)⟩])
   (.cond (.t 15)
    (.seq (.reg [⟨(some 4), none, .mv (.i .i64 1)⟩])
     (.ret))
    (.skip)))
  (.seq (.seq (.reg [⟨(some 16), none, .mv (.t 0)⟩,
      ⟨(some 17), none, .nc (.t 16)⟩,
      ⟨(some 18), none, .fa 118 (.t 17) 2⟩,
      ⟨(some 19), none, .ld 46 (.t 18)⟩,
      ⟨(some 20), none, .mv (.t 1)⟩,
      ⟨(some 21), none, .ia 46 (.t 19) (.t 20)⟩,
      ⟨(some 22), none, .ld 3 (.t 21)⟩,
      ⟨(some 23), none, .bin .eql 3 (.t 22) (.i .i64 0)⟩])
    (.cond (.t 23)
     (.seq (.reg [⟨(some 4), none, .mv (.i .i64 11)⟩])
      (.ret))
     (.skip)))
   (.seq (.drw drw89_0 [⟨(some 24), none, .mv (.t 0)⟩,
      ⟨(some 25), none, .nc (.t 24)⟩,
      ⟨(some 26), none, .fa 118 (.t 25) 1⟩,
      ⟨(some 27), none, .ld 46 (.t 26)⟩,
      ⟨(some 28), none, .mv (.t 0)⟩,
      ⟨(some 29), none, .mv (.t 0)⟩,
      ⟨(some 30), none, .nc (.t 29)⟩,
      ⟨(some 31), none, .fa 118 (.t 30) 2⟩,
      ⟨(some 32), none, .ld 46 (.t 31)⟩,
      ⟨(some 33), none, .mv (.t 1)⟩,
      ⟨(some 34), none, .ia 46 (.t 32) (.t 33)⟩,
      ⟨(some 35), none, .ld 3 (.t 34)⟩,
      ⟨(some 36), none, .call (.fn 84) [.t 28, .t 35]⟩,
      ⟨(some 37), none, .ia 46 (.t 27) (.t 36)⟩,
      ⟨none, none, .st 3 (.t 37) (.i .i64 (-1))⟩])
    (.seq (.reg [⟨(some 38), none, .mv (.t 0)⟩,
       ⟨(some 39), none, .nc (.t 38)⟩,
       ⟨(some 40), none, .fa 118 (.t 39) 2⟩,
       ⟨(some 41), none, .ld 46 (.t 40)⟩,
       ⟨(some 42), none, .mv (.t 1)⟩,
       ⟨(some 43), none, .ia 46 (.t 41) (.t 42)⟩,
       ⟨none, none, .st 3 (.t 43) (.i .i64 0)⟩])
     (.seq (.reg [⟨(some 4), none, .mv (.i .i64 0)⟩])
      (.ret))))))
theorem b89 : Body Try.prog 89 44 [4] k89 := ⟨Enters.of Try.func89 (by kernel_rfl) (by kernel_rfl), _, _, Try.func89, rfl, by kernel_rfl, rfl, rfl⟩

/-- cartridge/cartridgeref1.Cut -/
def k90 : KC :=
 .seq (.reg [⟨(some 6), none, .mv (.i .i64 0)⟩])
 (.seq (.block 0 (.seq (.reg [⟨(some 8), none, .mv (.t 0)⟩,
      ⟨(some 9), none, .mv (.t 1)⟩,
      ⟨(some 10), none, .bin .lss 3 (.t 8) (.t 9)⟩,
      ⟨(some 7), none, .mv (.t 10)⟩])
    (.cond (.t 7)
     (.seq (.reg [⟨(some 11), none, .mv (.t 1)⟩,
        ⟨(some 6), none, .mv (.t 11)⟩])
      (.ret))
     (.seq (.reg [⟨(some 13), none, .mv (.t 0)⟩,
        ⟨(some 14), none, .mv (.t 2)⟩,
        ⟨(some 15), none, .bin .gtr 3 (.t 13) (.t 14)⟩,
        ⟨(some 12), none, .mv (.t 15)⟩])
      (.cond (.t 12)
       (.seq (.reg [⟨(some 16), none, .mv (.t 2)⟩,
          ⟨(some 6), none, .mv (.t 16)⟩])
        (.ret))
       (.skip))))))
  (.seq (.reg [⟨(some 17), none, .mv (.t 0)⟩,
     ⟨(some 6), none, .mv (.t 17)⟩])
   (.ret)))
theorem b90 : Body Try.prog 90 18 [6] k90 := ⟨Enters.of Try.func90 (by kernel_rfl) (by kernel_rfl), _, _, Try.func90, rfl, by kernel_rfl, rfl, rfl⟩

/-- (*cartridge/cartridgeref22.Robot).pick -/
def k91 : KC :=
 .seq (.reg [⟨(some 2), none, .mv (.b false)⟩])
 (.seq (.seq (.reg [⟨(some 3), none, .mv (.i .i64 0)⟩])
   (.block 0 (.loop (.seq (.seq (.reg [⟨(some 4), none, .mv (.t 3)⟩,
         ⟨(some 5), none, .mv (.t 0)⟩,
         ⟨(some 6), none, .nc (.t 5)⟩,
         ⟨(some 7), none, .fa 84 (.t 6) 0⟩,
         ⟨(some 8), none, .ld 82 (.t 7)⟩,
         ⟨(some 9), none, .nc (.t 8)⟩,
         ⟨(some 10), none, .fa 118 (.t 9) 2⟩,
         ⟨(some 11), none, .ld 46 (.t 10)⟩,
         ⟨(some 12), none, .bi .len [46] [.t 11]⟩,
         ⟨(some 13), none, .bin .lss 3 (.t 4) (.t 12)⟩])
       (.cond (.t 13)
        (.skip)
        (.exit 0)))
      (.seq (.block 1 (.seq (.reg [⟨(some 16), none, .mv (.t 0)⟩,
           ⟨(some 17), none, .nc (.t 16)⟩,
           ⟨(some 18), none, .fa 84 (.t 17) 0⟩,
           ⟨(some 19), none, .ld 82 (.t 18)⟩,
           ⟨(some 20), none, .nc (.t 19)⟩,
           ⟨(some 21), none, .fa 118 (.t 20) 2⟩,
           ⟨(some 22), none, .ld 46 (.t 21)⟩,
           ⟨(some 23), none, .mv (.t 3)⟩,
           ⟨(some 24), none, .ia 46 (.t 22) (.t 23)⟩,
           ⟨(some 25), none, .ld 3 (.t 24)⟩,
           ⟨(some 26), none, .bin .neq 3 (.t 25) (.i .i64 0)⟩,
           ⟨(some 27), none, .mv (.t 26)⟩,
           ⟨(some 28), (some (27, true)), .mv (.t 0)⟩,
           ⟨(some 29), (some (27, true)), .mv (.t 0)⟩,
           ⟨(some 30), (some (27, true)), .nc (.t 29)⟩,
           ⟨(some 31), (some (27, true)), .fa 84 (.t 30) 0⟩,
           ⟨(some 32), (some (27, true)), .ld 82 (.t 31)⟩,
           ⟨(some 33), (some (27, true)), .nc (.t 32)⟩,
           ⟨(some 34), (some (27, true)), .fa 118 (.t 33) 2⟩,
           ⟨(some 35), (some (27, true)), .ld 46 (.t 34)⟩,
           ⟨(some 36), (some (27, true)), .mv (.t 3)⟩,
           ⟨(some 37), (some (27, true)), .ia 46 (.t 35) (.t 36)⟩,
           ⟨(some 38), (some (27, true)), .ld 3 (.t 37)⟩,
           ⟨(some 39), (some (27, true)), .call (.fn 87) [.t 28, .t 38]⟩,
           ⟨(some 40), none, .pk (.t 27) (.t 39) (.b false)⟩])
         (.cond (.t 40)
          (.seq (.reg [⟨(some 2), none, .mv (.b false)⟩])
           (.ret))
          (.skip))))
       (.reg [⟨(some 14), none, .mv (.t 3)⟩,
         ⟨(some 15), none, .bin .add 3 (.t 14) (.i .i64 1)⟩,
         ⟨(some 3), none, .mv (.t 15)⟩]))))))
  (.seq (.reg [⟨(some 41), none, .mv (.t 0)⟩,
     ⟨(some 42), none, .nc (.t 41)⟩,
     ⟨(some 43), none, .fa 84 (.t 42) 1⟩,
     ⟨(some 44), none, .ld 46 (.t 43)⟩,
     ⟨(some 45), none, .bi .len [46] [.t 44]⟩,
     ⟨(some 46), none, .bin .gtr 3 (.t 45) (.i .i64 0)⟩,
     ⟨(some 2), none, .mv (.t 46)⟩])
   (.ret)))
theorem b91 : Body Try.prog 91 47 [2] k91 := ⟨Enters.of Try.func91 (by kernel_rfl) (by kernel_rfl), _, _, Try.func91, rfl, by kernel_rfl, rfl, rfl⟩

/-- (*cartridge/shelf.Shelf).Mounted -/
def k92 : KC :=
 .seq (.reg [⟨(some 4), none, .mv (.i .i64 0)⟩])
 (.seq (.seq (.reg [⟨(some 5), none, .mv (.t 0)⟩,
     ⟨(some 6), none, .mv (.t 1)⟩,
     ⟨(some 7), none, .call (.fn 108) [.t 5, .t 6]⟩,
     ⟨(some 8), none, .un .not (.t 7)⟩])
   (.cond (.t 8)
    (.seq (.reg [⟨(some 4), none, .mv (.i .i64 0)⟩])
     (.ret))
    (.skip)))
  (.seq (.reg [⟨(some 9), none, .mv (.t 0)⟩,
     ⟨(some 10), none, .nc (.t 9)⟩,
     ⟨(some 11), none, .fa 127 (.t 10) 1⟩,
     ⟨(some 12), none, .ld 46 (.t 11)⟩,
     ⟨(some 13), none, .mv (.t 1)⟩,
     ⟨(some 14), none, .ia 46 (.t 12) (.t 13)⟩,
     ⟨(some 15), none, .ld 3 (.t 14)⟩,
     ⟨(some 4), none, .mv (.t 15)⟩])
   (.ret)))
theorem b92 : Body Try.prog 92 16 [4] k92 := ⟨Enters.of Try.func92 (by kernel_rfl) (by kernel_rfl), _, _, Try.func92, rfl, by kernel_rfl, rfl, rfl⟩

/-- cartridge/erasure.alike -/
def k93 : KC :=
 .seq (.reg [⟨(some 1), none, .box 22 (.t 0)⟩,
   ⟨(some 2), none, .mv (.b false)⟩])
 (.seq (.reg [⟨(some 3), none, .ld 22 (.t 1)⟩,
    ⟨(some 4), none, .mf 109 [.t 1]⟩,
    ⟨(some 5), none, .call (.fn 68) [.t 3, .t 4]⟩,
    ⟨(some 6), none, .un .not (.t 5)⟩,
    ⟨(some 2), none, .mv (.t 6)⟩])
  (.ret))
theorem b93 : Body Try.prog 93 7 [2] k93 := ⟨Enters.of Try.func93 (by kernel_rfl) (by kernel_rfl), _, _, Try.func93, rfl, by kernel_rfl, rfl, rfl⟩

/-- cartridge/erasure.reckon -/
def k94 : KC :=
 .seq (.reg [⟨(some 4), none, .mv (.ns)⟩])
 (.seq (.reg [⟨(some 14), none, .mv (.t 0)⟩,
    ⟨(some 15), none, .bi .len [22] [.t 14]⟩,
    ⟨(some 16), none, .mk 22 (.t 15) (.t 15)⟩,
    ⟨(some 5), none, .mv (.t 16)⟩])
  (.seq (.seq (.reg [⟨(some 17), none, .mv (.t 1)⟩,
      ⟨(some 18), none, .ia 22 (.t 17) (.i .i64 0)⟩,
      ⟨(some 19), none, .ld 23 (.t 18)⟩,
      ⟨(some 20), none, .bi .len [23] [.t 19]⟩,
      ⟨(some 21), none, .mv (.i .i64 0)⟩])
    (.block 0 (.loop (.seq (.reg [⟨(some 22), none, .bin .lss 3 (.t 21) (.t 20)⟩])
       (.seq (.cond (.t 22)
         (.skip)
         (.exit 0))
        (.seq (.block 1 (.seq (.reg [⟨(some 23), none, .mv (.t 21)⟩,
             ⟨(some 6), none, .mv (.t 23)⟩])
           (.seq (.reg [⟨(some 7), none, .mv (.ns)⟩])
            (.seq (.seq (.reg [⟨(some 24), none, .mv (.t 1)⟩,
                ⟨(some 25), none, .bi .len [22] [.t 24]⟩,
                ⟨(some 26), none, .mv (.i .i64 0)⟩])
              (.block 2 (.loop (.seq (.reg [⟨(some 27), none, .bin .lss 3 (.t 26) (.t 25)⟩])
                 (.seq (.cond (.t 27)
                   (.skip)
                   (.exit 2))
                  (.seq (.block 3 (.seq (.reg [⟨(some 28), none, .ia 22 (.t 24) (.t 26)⟩,
                       ⟨(some 29), none, .ld 23 (.t 28)⟩,
                       ⟨(some 9), none, .mv (.t 29)⟩])
                     (.reg [⟨(some 30), none, .mv (.t 7)⟩,
                       ⟨(some 31), none, .mv (.t 9)⟩,
                       ⟨(some 32), none, .mv (.t 6)⟩,
                       ⟨(some 33), none, .ia 23 (.t 31) (.t 32)⟩,
                       ⟨(some 34), none, .ld 5 (.t 33)⟩,
                       ⟨(some 35), none, .bsl 23 1 [(0, .t 34)]⟩,
                       ⟨(some 36), none, .bi .append [23, 23] [.t 30, .t 35]⟩,
                       ⟨(some 7), none, .mv (.t 36)⟩])))
                   (.reg [⟨(some 37), none, .bin .add 3 (.t 26) (.i .i64 1)⟩,
                     ⟨(some 26), none, .mv (.t 37)⟩])))))))
             (.seq (.reg [⟨(some 39), none, .mv (.t 0)⟩,
                ⟨(some 40), none, .mv (.t 7)⟩,
                ⟨(some 41), none, .call (.fn 19) [.t 39, .t 40]⟩,
                ⟨(some 38), none, .mv (.t 41)⟩,
                ⟨(some 42), none, .ex (.t 38) 0⟩,
                ⟨(some 43), none, .ex (.t 38) 1⟩,
                ⟨(some 10), none, .mv (.t 42)⟩,
                ⟨(some 11), none, .mv (.t 43)⟩])
              (.seq (.reg [⟨(some 44), none, .mv (.t 10)⟩,
                 ⟨(some 45), none, .bi .len [23] [.t 44]⟩,
                 ⟨(some 46), none, .mv (.i .i64 0)⟩])
               (.block 4 (.loop (.seq (.reg [⟨(some 47), none, .bin .lss 3 (.t 46) (.t 45)⟩])
                  (.seq (.cond (.t 47)
                    (.skip)
                    (.exit 4))
                   (.seq (.block 5 (.seq (.reg [⟨(some 48), none, .mv (.t 46)⟩,
                        ⟨(some 49), none, .ia 23 (.t 44) (.t 46)⟩,
                        ⟨(some 50), none, .ld 5 (.t 49)⟩,
                        ⟨(some 12), none, .mv (.t 48)⟩,
                        ⟨(some 13), none, .mv (.t 50)⟩])
                      (.reg [⟨(some 51), none, .mv (.t 5)⟩,
                        ⟨(some 52), none, .mv (.t 12)⟩,
                        ⟨(some 53), none, .mv (.t 5)⟩,
                        ⟨(some 54), none, .mv (.t 12)⟩,
                        ⟨(some 55), none, .ia 22 (.t 53) (.t 54)⟩,
                        ⟨(some 56), none, .ld 23 (.t 55)⟩,
                        ⟨(some 57), none, .mv (.t 13)⟩,
                        ⟨(some 58), none, .bsl 23 1 [(0, .t 57)]⟩,
                        ⟨(some 59), none, .bi .append [23, 23] [.t 56, .t 58]⟩,
                        ⟨(some 60), none, .ia 22 (.t 51) (.t 52)⟩,
                        ⟨none, none, .st 23 (.t 60) (.t 59)⟩])))
                    (.reg [⟨(some 61), none, .bin .add 3 (.t 46) (.i .i64 1)⟩,
                      ⟨(some 46), none, .mv (.t 61)⟩]))))))))))))
         (.reg [⟨(some 62), none, .bin .add 3 (.t 21) (.i .i64 1)⟩,
           ⟨(some 21), none, .mv (.t 62)⟩])))))))
   (.seq (.reg [⟨(some 63), none, .mv (.t 5)⟩,
      ⟨(some 4), none, .mv (.t 63)⟩])
    (.ret))))
theorem b94 : Body Try.prog 94 64 [4] k94 := ⟨Enters.of Try.func94 (by kernel_rfl) (by kernel_rfl), _, _, Try.func94, rfl, by kernel_rfl, rfl, rfl⟩

/-- cartridge/erasure.rows -/
def k95 : KC :=
 .seq (.reg [⟨(some 4), none, .mv (.ns)⟩])
 (.seq (.reg [⟨(some 5), none, .mv (.ns)⟩])
  (.seq (.seq (.reg [⟨(some 10), none, .mv (.t 0)⟩,
      ⟨(some 11), none, .mv (.i .i64 0)⟩])
    (.block 0 (.loop (.seq (.reg [⟨(some 12), none, .bin .lss 3 (.t 11) (.t 10)⟩])
       (.seq (.cond (.t 12)
         (.skip)
         (.exit 0))
        (.seq (.block 1 (.seq (.reg [⟨(some 13), none, .mv (.t 11)⟩,
             ⟨(some 6), none, .mv (.t 13)⟩])
           (.seq (.reg [⟨(some 14), none, .mv (.t 0)⟩,
              ⟨(some 15), none, .mk 23 (.t 14) (.t 14)⟩,
              ⟨(some 7), none, .mv (.t 15)⟩])
            (.seq (.reg [⟨(some 16), none, .mv (.t 7)⟩,
               ⟨(some 17), none, .mv (.t 6)⟩,
               ⟨(some 18), none, .ia 23 (.t 16) (.t 17)⟩,
               ⟨none, none, .st 5 (.t 18) (.i .u8 1)⟩])
             (.reg [⟨(some 19), none, .mv (.t 5)⟩,
               ⟨(some 20), none, .mv (.t 7)⟩,
               ⟨(some 21), none, .bsl 22 1 [(0, .t 20)]⟩,
               ⟨(some 22), none, .bi .append [22, 22] [.t 19, .t 21]⟩,
               ⟨(some 5), none, .mv (.t 22)⟩])))))
         (.reg [⟨(some 23), none, .bin .add 3 (.t 11) (.i .i64 1)⟩,
           ⟨(some 11), none, .mv (.t 23)⟩])))))))
   (.seq (.seq (.reg [⟨(some 24), none, .mv (.t 1)⟩,
       ⟨(some 25), none, .mv (.t 0)⟩,
       ⟨(some 26), none, .bin .gtr 3 (.t 24) (.t 25)⟩])
     (.cond (.t 26)
      (.seq (.reg [⟨(some 28), none, .mv (.t 0)⟩,
         ⟨(some 29), none, .mv (.t 1)⟩,
         ⟨(some 30), none, .mv (.t 0)⟩,
         ⟨(some 31), none, .bin .sub 3 (.t 29) (.t 30)⟩,
         ⟨(some 32), none, .call (.fn 37) [.t 28, .t 31]⟩,
         ⟨(some 27), none, .mv (.t 32)⟩,
         ⟨(some 33), none, .ex (.t 27) 0⟩,
         ⟨(some 34), none, .ex (.t 27) 1⟩,
         ⟨(some 8), none, .mv (.t 33)⟩,
         ⟨(some 9), none, .mv (.t 34)⟩])
       (.reg [⟨(some 35), none, .mv (.t 5)⟩,
         ⟨(some 36), none, .mv (.t 8)⟩,
         ⟨(some 37), none, .bi .append [22, 22] [.t 35, .t 36]⟩,
         ⟨(some 5), none, .mv (.t 37)⟩]))
      (.skip)))
    (.seq (.reg [⟨(some 38), none, .mv (.t 5)⟩,
       ⟨(some 4), none, .mv (.t 38)⟩])
     (.ret)))))
theorem b95 : Body Try.prog 95 39 [4] k95 := ⟨Enters.of Try.func95 (by kernel_rfl) (by kernel_rfl), _, _, Try.func95, rfl, by kernel_rfl, rfl, rfl⟩

/-- slices.Concat[[]byte,byte] -/
def k96 : KC :=
 .seq (.reg [⟨(some 2), none, .mv (.ns)⟩])
 (.seq (.reg [⟨(some 3), none, .mv (.i .i64 0)⟩])
  (.seq (.seq (.reg [⟨(some 9), none, .mv (.t 0)⟩,
      ⟨(some 10), none, .bi .len [22] [.t 9]⟩,
      ⟨(some 11), none, .mv (.i .i64 0)⟩])
    (.block 0 (.loop (.seq (.reg [⟨(some 12), none, .bin .lss 3 (.t 11) (.t 10)⟩])
       (.seq (.cond (.t 12)
         (.skip)
         (.exit 0))
        (.seq (.block 1 (.seq (.reg [⟨(some 13), none, .ia 22 (.t 9) (.t 11)⟩,
             ⟨(some 14), none, .ld 23 (.t 13)⟩,
             ⟨(some 5), none, .mv (.t 14)⟩])
           (.seq (.reg [⟨(some 15), none, .mv (.t 3)⟩,
              ⟨(some 16), none, .mv (.t 5)⟩,
              ⟨(some 17), none, .bi .len [23] [.t 16]⟩,
              ⟨(some 18), none, .bin .add 3 (.t 15) (.t 17)⟩,
              ⟨(some 3), none, .mv (.t 18)⟩])
            (.seq (.reg [⟨(some 19), none, .mv (.t 3)⟩,
               ⟨(some 20), none, .bin .lss 3 (.t 19) (.i .i64 0)⟩])
             (.cond (.t 20)
              (.reg [⟨(some 21), none, .unk⟩,
                ⟨none, none, .unk⟩])
              (.skip))))))
         (.reg [⟨(some 22), none, .bin .add 3 (.t 11) (.i .i64 1)⟩,
           ⟨(some 11), none, .mv (.t 22)⟩])))))))
   (.seq (.reg [⟨(some 23), none, .mv (.t 3)⟩,
      ⟨(some 24), none, .call (.fn 110) [.ns, .t 23]⟩,
      ⟨(some 6), none, .mv (.t 24)⟩])
    (.seq (.seq (.reg [⟨(some 25), none, .mv (.t 0)⟩,
        ⟨(some 26), none, .bi .len [22] [.t 25]⟩,
        ⟨(some 27), none, .mv (.i .i64 0)⟩])
      (.block 2 (.loop (.seq (.reg [⟨(some 28), none, .bin .lss 3 (.t 27) (.t 26)⟩])
         (.seq (.cond (.t 28)
           (.skip)
           (.exit 2))
          (.seq (.block 3 (.seq (.reg [⟨(some 29), none, .ia 22 (.t 25) (.t 27)⟩,
               ⟨(some 30), none, .ld 23 (.t 29)⟩,
               ⟨(some 8), none, .mv (.t 30)⟩])
             (.reg [⟨(some 31), none, .mv (.t 6)⟩,
               ⟨(some 32), none, .mv (.t 8)⟩,
               ⟨(some 33), none, .bi .append [23, 23] [.t 31, .t 32]⟩,
               ⟨(some 6), none, .mv (.t 33)⟩])))
           (.reg [⟨(some 34), none, .bin .add 3 (.t 27) (.i .i64 1)⟩,
             ⟨(some 27), none, .mv (.t 34)⟩])))))))
     (.seq (.reg [⟨(some 35), none, .mv (.t 6)⟩,
        ⟨(some 2), none, .mv (.t 35)⟩])
      (.ret))))))
theorem b96 : Body Try.prog 96 36 [2] k96 := ⟨Enters.of Try.func96 (by kernel_rfl) (by kernel_rfl), _, _, Try.func96, rfl, by kernel_rfl, rfl, rfl⟩

/-- cartridge/gf.Mul -/
def k97 : KC :=
 .seq (.reg [⟨(some 4), none, .mv (.i .u8 0)⟩])
 (.seq (.reg [⟨(some 5), none, .mv (.i .u8 0)⟩])
  (.seq (.block 0 (.loop (.seq (.seq (.reg [⟨(some 7), none, .mv (.t 1)⟩,
         ⟨(some 8), none, .bin .neq 5 (.t 7) (.i .u8 0)⟩])
       (.cond (.t 8)
        (.skip)
        (.exit 0)))
      (.seq (.block 1 (.seq (.seq (.reg [⟨(some 11), none, .mv (.t 1)⟩,
            ⟨(some 12), none, .bin .and 5 (.t 11) (.i .u8 1)⟩,
            ⟨(some 13), none, .bin .eql 5 (.t 12) (.i .u8 1)⟩])
          (.cond (.t 13)
           (.reg [⟨(some 14), none, .mv (.t 5)⟩,
             ⟨(some 15), none, .mv (.t 0)⟩,
             ⟨(some 16), none, .bin .xor 5 (.t 14) (.t 15)⟩,
             ⟨(some 5), none, .mv (.t 16)⟩])
           (.skip)))
         (.seq (.reg [⟨(some 17), none, .mv (.t 0)⟩,
            ⟨(some 18), none, .bin .and 5 (.t 17) (.i .u8 128)⟩,
            ⟨(some 19), none, .bin .neq 5 (.t 18) (.i .u8 0)⟩,
            ⟨(some 6), none, .mv (.t 19)⟩])
          (.seq (.reg [⟨(some 20), none, .mv (.t 0)⟩,
             ⟨(some 21), none, .bin .shl 5 (.t 20) (.i .u64 1)⟩,
             ⟨(some 0), none, .mv (.t 21)⟩])
           (.seq (.reg [⟨(some 22), none, .mv (.t 6)⟩])
            (.cond (.t 22)
             (.reg [⟨(some 23), none, .mv (.t 0)⟩,
               ⟨(some 24), none, .bin .xor 5 (.t 23) (.i .u8 29)⟩,
               ⟨(some 0), none, .mv (.t 24)⟩])
             (.skip)))))))
       (.reg [⟨(some 9), none, .mv (.t 1)⟩,
         ⟨(some 10), none, .bin .shr 5 (.t 9) (.i .u64 1)⟩,
         ⟨(some 1), none, .mv (.t 10)⟩])))))
   (.seq (.reg [⟨(some 25), none, .mv (.t 5)⟩,
      ⟨(some 4), none, .mv (.t 25)⟩])
    (.ret))))
theorem b97 : Body Try.prog 97 26 [4] k97 := ⟨Enters.of Try.func97 (by kernel_rfl) (by kernel_rfl), _, _, Try.func97, rfl, by kernel_rfl, rfl, rfl⟩

/-- cartridge/gf.power -/
def k98 : KC :=
 .seq (.reg [⟨(some 4), none, .mv (.i .u8 0)⟩])
 (.seq (.reg [⟨(some 5), none, .mv (.i .u8 1)⟩])
  (.seq (.block 0 (.loop (.seq (.seq (.reg [⟨(some 6), none, .mv (.t 1)⟩,
         ⟨(some 7), none, .bin .gtr 3 (.t 6) (.i .i64 0)⟩])
       (.cond (.t 7)
        (.skip)
        (.exit 0)))
      (.seq (.block 1 (.seq (.seq (.reg [⟨(some 10), none, .mv (.t 1)⟩,
            ⟨(some 11), none, .bin .and 3 (.t 10) (.i .i64 1)⟩,
            ⟨(some 12), none, .bin .eql 3 (.t 11) (.i .i64 1)⟩])
          (.cond (.t 12)
           (.reg [⟨(some 13), none, .mv (.t 5)⟩,
             ⟨(some 14), none, .mv (.t 0)⟩,
             ⟨(some 15), none, .call (.fn 97) [.t 13, .t 14]⟩,
             ⟨(some 5), none, .mv (.t 15)⟩])
           (.skip)))
         (.reg [⟨(some 16), none, .mv (.t 0)⟩,
           ⟨(some 17), none, .mv (.t 0)⟩,
           ⟨(some 18), none, .call (.fn 97) [.t 16, .t 17]⟩,
           ⟨(some 0), none, .mv (.t 18)⟩])))
       (.reg [⟨(some 8), none, .mv (.t 1)⟩,
         ⟨(some 9), none, .bin .shr 3 (.t 8) (.i .u64 1)⟩,
         ⟨(some 1), none, .mv (.t 9)⟩])))))
   (.seq (.reg [⟨(some 19), none, .mv (.t 5)⟩,
      ⟨(some 4), none, .mv (.t 19)⟩])
    (.ret))))
theorem b98 : Body Try.prog 98 20 [4] k98 := ⟨Enters.of Try.func98 (by kernel_rfl) (by kernel_rfl), _, _, Try.func98, rfl, by kernel_rfl, rfl, rfl⟩

/-- slices.Contains[[]int,int] -/
def k99 : KC :=
 .seq (.reg [⟨(some 4), none, .mv (.b false)⟩])
 (.seq (.reg [⟨(some 5), none, .mv (.t 0)⟩,
    ⟨(some 6), none, .mv (.t 1)⟩,
    ⟨(some 7), none, .call (.fn 111) [.t 5, .t 6]⟩,
    ⟨(some 8), none, .bin .geq 3 (.t 7) (.i .i64 0)⟩,
    ⟨(some 4), none, .mv (.t 8)⟩])
  (.ret))
theorem b99 : Body Try.prog 99 9 [4] k99 := ⟨Enters.of Try.func99 (by kernel_rfl) (by kernel_rfl), _, _, Try.func99, rfl, by kernel_rfl, rfl, rfl⟩

/-- slices.IndexFunc[[]int,int] -/
def k100 : KC :=
 .seq (.reg [⟨(some 4), none, .mv (.i .i64 0)⟩])
 (.seq (.seq (.reg [⟨(some 6), none, .mv (.t 0)⟩,
     ⟨(some 7), none, .bi .len [46] [.t 6]⟩,
     ⟨(some 8), none, .mv (.i .i64 0)⟩])
   (.block 0 (.loop (.seq (.reg [⟨(some 9), none, .bin .lss 3 (.t 8) (.t 7)⟩])
      (.seq (.cond (.t 9)
        (.skip)
        (.exit 0))
       (.seq (.block 1 (.seq (.reg [⟨(some 10), none, .mv (.t 8)⟩,
            ⟨(some 5), none, .mv (.t 10)⟩])
          (.seq (.reg [⟨(some 11), none, .mv (.t 1)⟩,
             ⟨(some 12), none, .mv (.t 0)⟩,
             ⟨(some 13), none, .mv (.t 5)⟩,
             ⟨(some 14), none, .ia 46 (.t 12) (.t 13)⟩,
             ⟨(some 15), none, .ld 3 (.t 14)⟩,
             ⟨(some 16), none, .call (.t 11) [.t 15]⟩])
           (.cond (.t 16)
            (.seq (.reg [⟨(some 17), none, .mv (.t 5)⟩,
               ⟨(some 4), none, .mv (.t 17)⟩])
             (.ret))
            (.skip)))))
        (.reg [⟨(some 18), none, .bin .add 3 (.t 8) (.i .i64 1)⟩,
          ⟨(some 8), none, .mv (.t 18)⟩])))))))
  (.seq (.reg [⟨(some 4), none, .mv (.i .i64 (-1))⟩])
   (.ret)))
theorem b100 : Body Try.prog 100 19 [4] k100 := ⟨Enters.of Try.func100 (by kernel_rfl) (by kernel_rfl), _, _, Try.func100, rfl, by kernel_rfl, rfl, rfl⟩

/-- (*cartridge/mount.Line).Wants -/
def k101 : KC :=
 .seq (.reg [⟨(some 4), none, .mv (.b false)⟩])
 (.seq (.reg [⟨(some 5), none, .mv (.t 0)⟩,
    ⟨(some 6), none, .bin .neq 129 (.t 5) (.np)⟩,
    ⟨(some 7), none, .mv (.t 6)⟩,
    ⟨(some 8), (some (7, true)), .mv (.t 0)⟩,
    ⟨(some 9), (some (7, true)), .nc (.t 8)⟩,
    ⟨(some 10), (some (7, true)), .fa 107 (.t 9) 0⟩,
    ⟨(some 11), (some (7, true)), .ld 46 (.t 10)⟩,
    ⟨(some 12), (some (7, true)), .mv (.t 1)⟩,
    ⟨(some 13), (some (7, true)), .call (.fn 99) [.t 11, .t 12]⟩,
    ⟨(some 14), none, .pk (.t 7) (.t 13) (.b false)⟩,
    ⟨(some 4), none, .mv (.t 14)⟩])
  (.ret))
theorem b101 : Body Try.prog 101 15 [4] k101 := ⟨Enters.of Try.func101 (by kernel_rfl) (by kernel_rfl), _, _, Try.func101, rfl, by kernel_rfl, rfl, rfl⟩

/-- slices.DeleteFunc[[]int,int] -/
def k102 : KC :=
 .seq (.reg [⟨(some 4), none, .mv (.ns)⟩])
 (.seq (.reg [⟨(some 8), none, .mv (.t 0)⟩,
    ⟨(some 9), none, .mv (.t 1)⟩,
    ⟨(some 10), none, .call (.fn 100) [.t 8, .t 9]⟩,
    ⟨(some 5), none, .mv (.t 10)⟩])
  (.seq (.seq (.reg [⟨(some 11), none, .mv (.t 5)⟩,
      ⟨(some 12), none, .bin .eql 3 (.t 11) (.i .i64 (-1))⟩])
    (.cond (.t 12)
     (.seq (.reg [⟨(some 13), none, .mv (.t 0)⟩,
        ⟨(some 4), none, .mv (.t 13)⟩])
      (.ret))
     (.skip)))
   (.seq (.seq (.reg [⟨(some 14), none, .mv (.t 5)⟩,
       ⟨(some 15), none, .bin .add 3 (.t 14) (.i .i64 1)⟩,
       ⟨(some 6), none, .mv (.t 15)⟩])
     (.block 0 (.loop (.seq (.seq (.reg [⟨(some 16), none, .mv (.t 6)⟩,
           ⟨(some 17), none, .mv (.t 0)⟩,
           ⟨(some 18), none, .bi .len [46] [.t 17]⟩,
           ⟨(some 19), none, .bin .lss 3 (.t 16) (.t 18)⟩])
         (.cond (.t 19)
          (.skip)
          (.exit 0)))
        (.seq (.block 1 (.seq (.reg [⟨(some 22), none, .mv (.t 0)⟩,
             ⟨(some 23), none, .mv (.t 6)⟩,
             ⟨(some 24), none, .ia 46 (.t 22) (.t 23)⟩,
             ⟨(some 25), none, .ld 3 (.t 24)⟩,
             ⟨(some 7), none, .mv (.t 25)⟩])
           (.seq (.reg [⟨(some 26), none, .mv (.t 1)⟩,
              ⟨(some 27), none, .mv (.t 7)⟩,
              ⟨(some 28), none, .call (.t 26) [.t 27]⟩,
              ⟨(some 29), none, .un .not (.t 28)⟩])
            (.cond (.t 29)
             (.seq (.reg [⟨(some 30), none, .mv (.t 0)⟩,
                ⟨(some 31), none, .mv (.t 5)⟩,
                ⟨(some 32), none, .mv (.t 7)⟩,
                ⟨(some 33), none, .ia 46 (.t 30) (.t 31)⟩,
                ⟨none, none, .st 3 (.t 33) (.t 32)⟩])
              (.reg [⟨(some 34), none, .mv (.t 5)⟩,
                ⟨(some 35), none, .bin .add 3 (.t 34) (.i .i64 1)⟩,
                ⟨(some 5), none, .mv (.t 35)⟩]))
             (.skip)))))
         (.reg [⟨(some 20), none, .mv (.t 6)⟩,
           ⟨(some 21), none, .bin .add 3 (.t 20) (.i .i64 1)⟩,
           ⟨(some 6), none, .mv (.t 21)⟩]))))))
    (.seq (.reg [⟨(some 36), none, .mv (.t 0)⟩,
       ⟨(some 37), none, .mv (.t 5)⟩,
       ⟨(some 38), none, .sli 46 (.t 36) (some (.t 37)) none none⟩,
       ⟨none, none, .bi .clear [46] [.t 38]⟩])
     (.seq (.reg [⟨(some 39), none, .mv (.t 0)⟩,
        ⟨(some 40), none, .mv (.t 5)⟩,
        ⟨(some 41), none, .sli 46 (.t 39) none (some (.t 40)) none⟩,
        ⟨(some 4), none, .mv (.t 41)⟩])
      (.ret))))))
theorem b102 : Body Try.prog 102 42 [4] k102 := ⟨Enters.of Try.func102 (by kernel_rfl) (by kernel_rfl), _, _, Try.func102, rfl, by kernel_rfl, rfl, rfl⟩

/-- (*cartridge/mount.Line).Serve$1 -/
def k103 : KC :=
 .seq (.reg [⟨(some 3), none, .mv (.b false)⟩])
 (.seq (.reg [⟨(some 4), none, .mv (.t 0)⟩,
    ⟨(some 5), none, .ld 3 (.t 1)⟩,
    ⟨(some 6), none, .bin .eql 3 (.t 4) (.t 5)⟩,
    ⟨(some 3), none, .mv (.t 6)⟩])
  (.ret))
theorem b103 : Body Try.prog 103 7 [3] k103 := ⟨Enters.of Try.func103 (by kernel_rfl) (by kernel_rfl), _, _, Try.func103, rfl, by kernel_rfl, rfl, rfl⟩

/-- (*cartridge/mount.Line).First -/
def k104 : KC :=
 .seq (.reg [⟨(some 2), none, .mv (.i .i64 0)⟩,
   ⟨(some 3), none, .mv (.b false)⟩])
 (.seq (.seq (.reg [⟨(some 4), none, .mv (.t 0)⟩,
     ⟨(some 5), none, .call (.fn 82) [.t 4]⟩,
     ⟨(some 6), none, .bin .eql 3 (.t 5) (.i .i64 0)⟩])
   (.cond (.t 6)
    (.seq (.reg [⟨(some 2), none, .mv (.i .i64 0)⟩,
       ⟨(some 3), none, .mv (.b false)⟩])
     (.ret))
    (.skip)))
  (.seq (.reg [⟨(some 7), none, .mv (.t 0)⟩,
     ⟨(some 8), none, .nc (.t 7)⟩,
     ⟨(some 9), none, .fa 107 (.t 8) 0⟩,
     ⟨(some 10), none, .ld 46 (.t 9)⟩,
     ⟨(some 11), none, .ia 46 (.t 10) (.i .i64 0)⟩,
     ⟨(some 12), none, .ld 3 (.t 11)⟩,
     ⟨(some 2), none, .mv (.t 12)⟩,
     ⟨(some 3), none, .mv (.b true)⟩])
   (.ret)))
theorem b104 : Body Try.prog 104 13 [2, 3] k104 := ⟨Enters.of Try.func104 (by kernel_rfl) (by kernel_rfl), _, _, Try.func104, rfl, by kernel_rfl, rfl, rfl⟩

/-- (*cartridge/robot.Robot).empty -/
def k105 : KC :=
 .seq (.reg [⟨(some 2), none, .mv (.i .i64 0)⟩,
   ⟨(some 3), none, .mv (.b false)⟩])
 (.seq (.seq (.reg [⟨(some 5), none, .mv (.t 0)⟩,
     ⟨(some 6), none, .nc (.t 5)⟩,
     ⟨(some 7), none, .fa 109 (.t 6) 1⟩,
     ⟨(some 8), none, .ld 3 (.t 7)⟩,
     ⟨(some 9), none, .mv (.i .i64 0)⟩])
   (.block 0 (.loop (.seq (.reg [⟨(some 10), none, .bin .lss 3 (.t 9) (.t 8)⟩])
      (.seq (.cond (.t 10)
        (.skip)
        (.exit 0))
       (.seq (.block 1 (.seq (.reg [⟨(some 11), none, .mv (.t 9)⟩,
            ⟨(some 4), none, .mv (.t 11)⟩])
          (.seq (.reg [⟨(some 12), none, .mv (.t 0)⟩,
             ⟨(some 13), none, .nc (.t 12)⟩,
             ⟨(some 14), none, .fa 109 (.t 13) 0⟩,
             ⟨(some 15), none, .ld 102 (.t 14)⟩,
             ⟨(some 16), none, .mv (.t 4)⟩,
             ⟨(some 17), none, .call (.fn 92) [.t 15, .t 16]⟩,
             ⟨(some 18), none, .bin .eql 3 (.t 17) (.i .i64 0)⟩])
           (.cond (.t 18)
            (.seq (.reg [⟨(some 19), none, .mv (.t 4)⟩,
               ⟨(some 2), none, .mv (.t 19)⟩,
               ⟨(some 3), none, .mv (.b true)⟩])
             (.ret))
            (.skip)))))
        (.reg [⟨(some 20), none, .bin .add 3 (.t 9) (.i .i64 1)⟩,
          ⟨(some 9), none, .mv (.t 20)⟩])))))))
  (.seq (.reg [⟨(some 2), none, .mv (.i .i64 0)⟩,
     ⟨(some 3), none, .mv (.b false)⟩])
   (.ret)))
theorem b105 : Body Try.prog 105 21 [2, 3] k105 := ⟨Enters.of Try.func105 (by kernel_rfl) (by kernel_rfl), _, _, Try.func105, rfl, by kernel_rfl, rfl, rfl⟩

/-- (*cartridge/shelf.Shelf).Move -/
def k106 : KC :=
 .seq (.reg [⟨(some 6), none, .mv (.i .i64 0)⟩])
 (.seq (.block 0 (.seq (.reg [⟨(some 8), none, .mv (.t 0)⟩,
      ⟨(some 9), none, .mv (.t 1)⟩,
      ⟨(some 10), none, .call (.fn 112) [.t 8, .t 9]⟩,
      ⟨(some 11), none, .un .not (.t 10)⟩,
      ⟨(some 12), none, .mv (.t 11)⟩,
      ⟨(some 13), (some (12, false)), .mv (.t 0)⟩,
      ⟨(some 14), (some (12, false)), .mv (.t 2)⟩,
      ⟨(some 15), (some (12, false)), .call (.fn 108) [.t 13, .t 14]⟩,
      ⟨(some 16), (some (12, false)), .un .not (.t 15)⟩,
      ⟨(some 17), none, .pk (.t 12) (.b true) (.t 16)⟩,
      ⟨(some 7), none, .mv (.t 17)⟩])
    (.cond (.t 7)
     (.seq (.reg [⟨(some 6), none, .mv (.i .i64 1)⟩])
      (.ret))
     (.seq (.reg [⟨(some 19), none, .mv (.t 0)⟩,
        ⟨(some 20), none, .mv (.t 1)⟩,
        ⟨(some 21), none, .call (.fn 113) [.t 19, .t 20]⟩,
        ⟨(some 22), none, .bin .neq 3 (.t 21) (.i .i64 (-1))⟩,
        ⟨(some 23), none, .mv (.t 22)⟩,
        ⟨(some 24), (some (23, false)), .mv (.t 0)⟩,
        ⟨(some 25), (some (23, false)), .nc (.t 24)⟩,
        ⟨(some 26), (some (23, false)), .fa 127 (.t 25) 1⟩,
        ⟨(some 27), (some (23, false)), .ld 46 (.t 26)⟩,
        ⟨(some 28), (some (23, false)), .mv (.t 2)⟩,
        ⟨(some 29), (some (23, false)), .ia 46 (.t 27) (.t 28)⟩,
        ⟨(some 30), (some (23, false)), .ld 3 (.t 29)⟩,
        ⟨(some 31), (some (23, false)), .bin .neq 3 (.t 30) (.i .i64 0)⟩,
        ⟨(some 32), none, .pk (.t 23) (.b true) (.t 31)⟩,
        ⟨(some 18), none, .mv (.t 32)⟩])
      (.cond (.t 18)
       (.seq (.reg [⟨(some 6), none, .mv (.i .i64 11)⟩])
        (.ret))
       (.skip))))))
  (.seq (.reg [⟨(some 33), none, .mv (.t 0)⟩,
     ⟨(some 34), none, .nc (.t 33)⟩,
     ⟨(some 35), none, .fa 127 (.t 34) 1⟩,
     ⟨(some 36), none, .ld 46 (.t 35)⟩,
     ⟨(some 37), none, .mv (.t 2)⟩,
     ⟨(some 38), none, .mv (.t 1)⟩,
     ⟨(some 39), none, .ia 46 (.t 36) (.t 37)⟩,
     ⟨none, none, .st 3 (.t 39) (.t 38)⟩])
   (.seq (.reg [⟨(some 6), none, .mv (.i .i64 0)⟩])
    (.ret))))
theorem b106 : Body Try.prog 106 40 [6] k106 := ⟨Enters.of Try.func106 (by kernel_rfl) (by kernel_rfl), _, _, Try.func106, rfl, by kernel_rfl, rfl, rfl⟩

/-- (*cartridge/shelf.Shelf).Back -/
def k107 : KC :=
 .seq (.reg [⟨(some 4), none, .mv (.i .i64 0)⟩])
 (.seq (.block 0 (.seq (.reg [⟨(some 6), none, .mv (.t 0)⟩,
      ⟨(some 7), none, .mv (.t 1)⟩,
      ⟨(some 8), none, .call (.fn 108) [.t 6, .t 7]⟩,
      ⟨(some 9), none, .un .not (.t 8)⟩,
      ⟨(some 5), none, .mv (.t 9)⟩])
    (.cond (.t 5)
     (.seq (.reg [⟨(some 4), none, .mv (.i .i64 1)⟩])
      (.ret))
     (.seq (.reg [⟨(some 11), none, .mv (.t 0)⟩,
        ⟨(some 12), none, .nc (.t 11)⟩,
        ⟨(some 13), none, .fa 127 (.t 12) 1⟩,
        ⟨(some 14), none, .ld 46 (.t 13)⟩,
        ⟨(some 15), none, .mv (.t 1)⟩,
        ⟨(some 16), none, .ia 46 (.t 14) (.t 15)⟩,
        ⟨(some 17), none, .ld 3 (.t 16)⟩,
        ⟨(some 18), none, .bin .eql 3 (.t 17) (.i .i64 0)⟩,
        ⟨(some 10), none, .mv (.t 18)⟩])
      (.cond (.t 10)
       (.seq (.reg [⟨(some 4), none, .mv (.i .i64 11)⟩])
        (.ret))
       (.skip))))))
  (.seq (.reg [⟨(some 19), none, .mv (.t 0)⟩,
     ⟨(some 20), none, .nc (.t 19)⟩,
     ⟨(some 21), none, .fa 127 (.t 20) 1⟩,
     ⟨(some 22), none, .ld 46 (.t 21)⟩,
     ⟨(some 23), none, .mv (.t 1)⟩,
     ⟨(some 24), none, .ia 46 (.t 22) (.t 23)⟩,
     ⟨none, none, .st 3 (.t 24) (.i .i64 0)⟩])
   (.seq (.reg [⟨(some 4), none, .mv (.i .i64 0)⟩])
    (.ret))))
theorem b107 : Body Try.prog 107 25 [4] k107 := ⟨Enters.of Try.func107 (by kernel_rfl) (by kernel_rfl), _, _, Try.func107, rfl, by kernel_rfl, rfl, rfl⟩

/-- (*cartridge/shelf.Shelf).drive -/
def k108 : KC :=
 .seq (.reg [⟨(some 4), none, .mv (.b false)⟩])
 (.seq (.reg [⟨(some 5), none, .mv (.t 0)⟩,
    ⟨(some 6), none, .bin .neq 102 (.t 5) (.np)⟩,
    ⟨(some 7), none, .mv (.t 6)⟩,
    ⟨(some 8), (some (7, true)), .mv (.t 1)⟩,
    ⟨(some 9), (some (7, true)), .bin .geq 3 (.t 8) (.i .i64 0)⟩,
    ⟨(some 10), none, .pk (.t 7) (.t 9) (.b false)⟩,
    ⟨(some 11), none, .mv (.t 10)⟩,
    ⟨(some 12), (some (11, true)), .mv (.t 1)⟩,
    ⟨(some 13), (some (11, true)), .mv (.t 0)⟩,
    ⟨(some 14), (some (11, true)), .nc (.t 13)⟩,
    ⟨(some 15), (some (11, true)), .fa 127 (.t 14) 1⟩,
    ⟨(some 16), (some (11, true)), .ld 46 (.t 15)⟩,
    ⟨(some 17), (some (11, true)), .bi .len [46] [.t 16]⟩,
    ⟨(some 18), (some (11, true)), .bin .lss 3 (.t 12) (.t 17)⟩,
    ⟨(some 19), none, .pk (.t 11) (.t 18) (.b false)⟩,
    ⟨(some 4), none, .mv (.t 19)⟩])
  (.ret))
theorem b108 : Body Try.prog 108 20 [4] k108 := ⟨Enters.of Try.func108 (by kernel_rfl) (by kernel_rfl), _, _, Try.func108, rfl, by kernel_rfl, rfl, rfl⟩

/-- cartridge/erasure.alike$1 -/
def k109 : KC :=
 .seq (.reg [⟨(some 3), none, .mv (.b false)⟩])
 (.seq (.reg [⟨(some 4), none, .mv (.t 0)⟩,
    ⟨(some 5), none, .bi .len [23] [.t 4]⟩,
    ⟨(some 6), none, .ld 22 (.t 1)⟩,
    ⟨(some 7), none, .ia 22 (.t 6) (.i .i64 0)⟩,
    ⟨(some 8), none, .ld 23 (.t 7)⟩,
    ⟨(some 9), none, .bi .len [23] [.t 8]⟩,
    ⟨(some 10), none, .bin .neq 3 (.t 5) (.t 9)⟩,
    ⟨(some 3), none, .mv (.t 10)⟩])
  (.ret))
theorem b109 : Body Try.prog 109 11 [3] k109 := ⟨Enters.of Try.func109 (by kernel_rfl) (by kernel_rfl), _, _, Try.func109, rfl, by kernel_rfl, rfl, rfl⟩

/-- slices.Grow[[]byte,byte] -/
def k110 : KC :=
 .seq (.reg [⟨(some 4), none, .mv (.ns)⟩])
 (.seq (.seq (.reg [⟨(some 5), none, .mv (.t 1)⟩,
     ⟨(some 6), none, .bin .lss 3 (.t 5) (.i .i64 0)⟩])
   (.cond (.t 6)
    (.reg [⟨(some 7), none, .unk⟩,
      ⟨none, none, .unk⟩])
    (.skip)))
  (.seq (.seq (.reg [⟨(some 8), none, .mv (.t 1)⟩,
      ⟨(some 9), none, .mv (.t 0)⟩,
      ⟨(some 10), none, .bi .cap [23] [.t 9]⟩,
      ⟨(some 11), none, .mv (.t 0)⟩,
      ⟨(some 12), none, .bi .len [23] [.t 11]⟩,
      ⟨(some 13), none, .bin .sub 3 (.t 10) (.t 12)⟩,
      ⟨(some 14), none, .bin .sub 3 (.t 8) (.t 13)⟩,
      ⟨(some 1), none, .mv (.t 14)⟩])
    (.seq (.reg [⟨(some 15), none, .mv (.t 1)⟩,
       ⟨(some 16), none, .bin .gtr 3 (.t 15) (.i .i64 0)⟩])
     (.cond (.t 16)
      (.reg [⟨(some 17), none, .mv (.t 0)⟩,
        ⟨(some 18), none, .mv (.t 0)⟩,
        ⟨(some 19), none, .bi .cap [23] [.t 18]⟩,
        ⟨(some 20), none, .sli 23 (.t 17) none (some (.t 19)) none⟩,
        ⟨(some 21), none, .mv (.t 1)⟩,
        ⟨(some 22), none, .bi .append [23, 3] [.t 20, .t 21]⟩,
        ⟨(some 23), none, .mv (.t 0)⟩,
        ⟨(some 24), none, .bi .len [23] [.t 23]⟩,
        ⟨(some 25), none, .sli 23 (.t 22) none (some (.t 24)) none⟩,
        ⟨(some 0), none, .mv (.t 25)⟩])
      (.skip))))
   (.seq (.reg [⟨(some 26), none, .mv (.t 0)⟩,
      ⟨(some 4), none, .mv (.t 26)⟩])
    (.ret))))
theorem b110 : Body Try.prog 110 27 [4] k110 := ⟨Enters.of Try.func110 (by kernel_rfl) (by kernel_rfl), _, _, Try.func110, rfl, by kernel_rfl, rfl, rfl⟩

/-- slices.Index[[]int,int] -/
def k111 : KC :=
 .seq (.reg [⟨(some 4), none, .mv (.i .i64 0)⟩])
 (.seq (.seq (.reg [⟨(some 6), none, .mv (.t 0)⟩,
     ⟨(some 7), none, .bi .len [46] [.t 6]⟩,
     ⟨(some 8), none, .mv (.i .i64 0)⟩])
   (.block 0 (.loop (.seq (.reg [⟨(some 9), none, .bin .lss 3 (.t 8) (.t 7)⟩])
      (.seq (.cond (.t 9)
        (.skip)
        (.exit 0))
       (.seq (.block 1 (.seq (.reg [⟨(some 10), none, .mv (.t 8)⟩,
            ⟨(some 5), none, .mv (.t 10)⟩])
          (.seq (.reg [⟨(some 11), none, .mv (.t 1)⟩,
             ⟨(some 12), none, .mv (.t 0)⟩,
             ⟨(some 13), none, .mv (.t 5)⟩,
             ⟨(some 14), none, .ia 46 (.t 12) (.t 13)⟩,
             ⟨(some 15), none, .ld 3 (.t 14)⟩,
             ⟨(some 16), none, .bin .eql 3 (.t 11) (.t 15)⟩])
           (.cond (.t 16)
            (.seq (.reg [⟨(some 17), none, .mv (.t 5)⟩,
               ⟨(some 4), none, .mv (.t 17)⟩])
             (.ret))
            (.skip)))))
        (.reg [⟨(some 18), none, .bin .add 3 (.t 8) (.i .i64 1)⟩,
          ⟨(some 8), none, .mv (.t 18)⟩])))))))
  (.seq (.reg [⟨(some 4), none, .mv (.i .i64 (-1))⟩])
   (.ret)))
theorem b111 : Body Try.prog 111 19 [4] k111 := ⟨Enters.of Try.func111 (by kernel_rfl) (by kernel_rfl), _, _, Try.func111, rfl, by kernel_rfl, rfl, rfl⟩

/-- (*cartridge/shelf.Shelf).is -/
def k112 : KC :=
 .seq (.reg [⟨(some 4), none, .mv (.b false)⟩])
 (.seq (.reg [⟨(some 5), none, .mv (.t 0)⟩,
    ⟨(some 6), none, .bin .neq 102 (.t 5) (.np)⟩,
    ⟨(some 7), none, .mv (.t 6)⟩,
    ⟨(some 8), (some (7, true)), .mv (.t 0)⟩,
    ⟨(some 9), (some (7, true)), .nc (.t 8)⟩,
    ⟨(some 10), (some (7, true)), .fa 127 (.t 9) 0⟩,
    ⟨(some 11), (some (7, true)), .ld 46 (.t 10)⟩,
    ⟨(some 12), (some (7, true)), .mv (.t 1)⟩,
    ⟨(some 13), (some (7, true)), .call (.fn 99) [.t 11, .t 12]⟩,
    ⟨(some 14), none, .pk (.t 7) (.t 13) (.b false)⟩,
    ⟨(some 4), none, .mv (.t 14)⟩])
  (.ret))
theorem b112 : Body Try.prog 112 15 [4] k112 := ⟨Enters.of Try.func112 (by kernel_rfl) (by kernel_rfl), _, _, Try.func112, rfl, by kernel_rfl, rfl, rfl⟩

/-- (*cartridge/shelf.Shelf).Drive -/
def k113 : KC :=
 .seq (.reg [⟨(some 4), none, .mv (.i .i64 0)⟩])
 (.seq (.seq (.reg [⟨(some 5), none, .mv (.t 0)⟩,
     ⟨(some 6), none, .mv (.t 1)⟩,
     ⟨(some 7), none, .call (.fn 112) [.t 5, .t 6]⟩,
     ⟨(some 8), none, .un .not (.t 7)⟩])
   (.cond (.t 8)
    (.seq (.reg [⟨(some 4), none, .mv (.i .i64 (-1))⟩])
     (.ret))
    (.skip)))
  (.seq (.reg [⟨(some 9), none, .mv (.t 0)⟩,
     ⟨(some 10), none, .nc (.t 9)⟩,
     ⟨(some 11), none, .fa 127 (.t 10) 1⟩,
     ⟨(some 12), none, .ld 46 (.t 11)⟩,
     ⟨(some 13), none, .mv (.t 1)⟩,
     ⟨(some 14), none, .call (.fn 111) [.t 12, .t 13]⟩,
     ⟨(some 4), none, .mv (.t 14)⟩])
   (.ret)))
theorem b113 : Body Try.prog 113 15 [4] k113 := ⟨Enters.of Try.func113 (by kernel_rfl) (by kernel_rfl), _, _, Try.func113, rfl, by kernel_rfl, rfl, rfl⟩

end Go.Proofs.Ytgkbjnhpmlfgdaa
