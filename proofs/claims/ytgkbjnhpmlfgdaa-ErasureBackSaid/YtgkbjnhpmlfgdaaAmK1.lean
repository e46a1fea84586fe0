import Derived.Test.YtgkbjnhpmlfgdaaAmT
/- The code, cooked, and tied to the program's; written by gen.py. -/
namespace Go.Proofs.Ytgkbjnhpmlfgdaa
open Go.AM

/-- cartridge/cartridgelaw13.Few -/
def k22 : KC :=
 .seq (.reg [⟨(some 2), none, .mv (.b false)⟩])
 (.seq (.reg [⟨(some 3), none, .mv (.i .i64 0)⟩])
  (.seq (.seq (.reg [⟨(some 4), none, .mv (.i .i64 0)⟩])
    (.block 0 (.loop (.seq (.seq (.reg [⟨(some 5), none, .mv (.t 4)⟩,
          ⟨(some 6), none, .mv (.t 0)⟩,
          ⟨(some 7), none, .bi .len [35] [.t 6]⟩,
          ⟨(some 8), none, .bin .lss 3 (.t 5) (.t 7)⟩,
          ⟨(some 9), none, .mv (.t 8)⟩,
          ⟨(some 10), (some (9, true)), .mv (.t 4)⟩,
          ⟨(some 11), (some (9, true)), .bin .lss 3 (.t 10) (.i .i64 20)⟩,
          ⟨(some 12), none, .pk (.t 9) (.t 11) (.b false)⟩])
        (.cond (.t 12)
         (.skip)
         (.exit 0)))
       (.seq (.block 1 (.seq (.seq (.reg [⟨(some 15), none, .mv (.t 0)⟩,
             ⟨(some 16), none, .mv (.t 4)⟩,
             ⟨(some 17), none, .ia 35 (.t 15) (.t 16)⟩,
             ⟨(some 18), none, .ld 48 (.t 17)⟩,
             ⟨(some 19), none, .call (.fn 67) [.t 18]⟩,
             ⟨(some 20), none, .un .not (.t 19)⟩])
           (.cond (.t 20)
            (.seq (.reg [⟨(some 2), none, .mv (.b false)⟩])
             (.ret))
            (.skip)))
          (.reg [⟨(some 21), none, .mv (.t 3)⟩,
            ⟨(some 22), none, .mv (.t 0)⟩,
            ⟨(some 23), none, .mv (.t 4)⟩,
            ⟨(some 24), none, .ia 35 (.t 22) (.t 23)⟩,
            ⟨(some 25), none, .fa 48 (.t 24) 2⟩,
            ⟨(some 26), none, .ld 22 (.t 25)⟩,
            ⟨(some 27), none, .bi .len [22] [.t 26]⟩,
            ⟨(some 28), none, .bin .add 3 (.t 21) (.t 27)⟩,
            ⟨(some 3), none, .mv (.t 28)⟩])))
        (.reg [⟨(some 13), none, .mv (.t 4)⟩,
          ⟨(some 14), none, .bin .add 3 (.t 13) (.i .i64 1)⟩,
          ⟨(some 4), none, .mv (.t 14)⟩]))))))
   (.seq (.reg [⟨(some 29), none, .mv (.t 0)⟩,
      ⟨(some 30), none, .bi .len [35] [.t 29]⟩,
      ⟨(some 31), none, .bin .leq 3 (.t 30) (.i .i64 14)⟩,
      ⟨(some 32), none, .mv (.t 31)⟩,
      ⟨(some 33), (some (32, true)), .mv (.t 3)⟩,
      ⟨(some 34), (some (32, true)), .bin .leq 3 (.t 33) (.i .i64 300)⟩,
      ⟨(some 35), none, .pk (.t 32) (.t 34) (.b false)⟩,
      ⟨(some 2), none, .mv (.t 35)⟩])
    (.ret))))
theorem b22 : Body Try.prog 22 36 [2] k22 := ⟨Enters.of Try.func22 (by kernel_rfl) (by kernel_rfl), _, _, Try.func22, rfl, by kernel_rfl, rfl, rfl⟩

/-- cartridge/stripe.Parity -/
def k23 : KC :=
 .seq (.reg [⟨(some 4), none, .mv (.ns)⟩,
   ⟨(some 5), none, .mv (.i .i64 0)⟩])
 (.seq (.seq (.reg [⟨(some 16), none, .mv (.t 0)⟩,
     ⟨(some 17), none, .call (.fn 29) [.t 16, .i .i64 (-1)]⟩,
     ⟨(some 18), none, .mv (.t 1)⟩,
     ⟨(some 19), none, .call (.fn 55) [.t 17, .t 18]⟩,
     ⟨(some 15), none, .mv (.t 19)⟩,
     ⟨(some 20), none, .ex (.t 15) 0⟩,
     ⟨(some 21), none, .ex (.t 15) 1⟩,
     ⟨(some 6), none, .mv (.t 20)⟩,
     ⟨(some 7), none, .mv (.t 21)⟩])
   (.seq (.reg [⟨(some 22), none, .mv (.t 7)⟩,
      ⟨(some 23), none, .bin .neq 26 (.t 22) (.i .i64 0)⟩])
    (.cond (.t 23)
     (.seq (.reg [⟨(some 24), none, .mv (.t 7)⟩,
        ⟨(some 4), none, .mv (.ns)⟩,
        ⟨(some 5), none, .mv (.t 24)⟩])
      (.ret))
     (.skip))))
  (.seq (.reg [⟨(some 25), none, .mv (.t 1)⟩,
     ⟨(some 26), none, .mk 37 (.t 25) (.t 25)⟩,
     ⟨(some 8), none, .mv (.t 26)⟩])
   (.seq (.seq (.reg [⟨(some 27), none, .mv (.t 0)⟩,
       ⟨(some 28), none, .call (.fn 26) [.t 27]⟩,
       ⟨(some 29), none, .mv (.i .i64 0)⟩])
     (.block 0 (.loop (.seq (.reg [⟨(some 30), none, .bin .lss 3 (.t 29) (.t 28)⟩])
        (.seq (.cond (.t 30)
          (.skip)
          (.exit 0))
         (.seq (.block 1 (.seq (.reg [⟨(some 31), none, .mv (.t 29)⟩,
              ⟨(some 9), none, .mv (.t 31)⟩])
            (.seq (.reg [⟨(some 32), none, .mv (.t 0)⟩,
               ⟨(some 33), none, .mv (.t 9)⟩,
               ⟨(some 34), none, .call (.fn 29) [.t 32, .t 33]⟩,
               ⟨(some 10), none, .mv (.t 34)⟩])
             (.seq (.seq (.reg [⟨(some 35), none, .mv (.t 10)⟩,
                 ⟨(some 36), none, .call (.fn 68) [.t 35, .fn 69]⟩])
               (.cond (.t 36)
                (.seq (.reg [⟨(some 4), none, .mv (.ns)⟩,
                   ⟨(some 5), none, .mv (.i .i64 1)⟩])
                 (.ret))
                (.skip)))
              (.seq (.reg [⟨(some 38), none, .mv (.t 10)⟩,
                 ⟨(some 39), none, .mv (.t 1)⟩,
                 ⟨(some 40), none, .call (.fn 55) [.t 38, .t 39]⟩,
                 ⟨(some 37), none, .mv (.t 40)⟩,
                 ⟨(some 41), none, .ex (.t 37) 0⟩,
                 ⟨(some 42), none, .ex (.t 37) 1⟩,
                 ⟨(some 11), none, .mv (.t 41)⟩,
                 ⟨(some 12), none, .mv (.t 42)⟩])
               (.seq (.seq (.reg [⟨(some 43), none, .mv (.t 12)⟩,
                   ⟨(some 44), none, .bin .neq 26 (.t 43) (.i .i64 0)⟩])
                 (.cond (.t 44)
                  (.seq (.reg [⟨(some 45), none, .mv (.t 12)⟩,
                     ⟨(some 4), none, .mv (.ns)⟩,
                     ⟨(some 5), none, .mv (.t 45)⟩])
                   (.ret))
                  (.skip)))
                (.seq (.reg [⟨(some 46), none, .mv (.t 11)⟩,
                   ⟨(some 47), none, .bi .len [22] [.t 46]⟩,
                   ⟨(some 48), none, .mv (.i .i64 0)⟩])
                 (.block 2 (.loop (.seq (.reg [⟨(some 49), none, .bin .lss 3 (.t 48) (.t 47)⟩])
                    (.seq (.cond (.t 49)
                      (.skip)
                      (.exit 2))
                     (.seq (.block 3 (.seq (.reg [⟨(some 50), none, .mv (.t 48)⟩,
                          ⟨(some 51), none, .ia 22 (.t 46) (.t 48)⟩,
                          ⟨(some 52), none, .ld 23 (.t 51)⟩,
                          ⟨(some 13), none, .mv (.t 50)⟩,
                          ⟨(some 14), none, .mv (.t 52)⟩])
                        (.reg [⟨(some 53), none, .mv (.t 8)⟩,
                          ⟨(some 54), none, .mv (.t 13)⟩,
                          ⟨(some 55), none, .mv (.t 8)⟩,
                          ⟨(some 56), none, .mv (.t 13)⟩,
                          ⟨(some 57), none, .ia 37 (.t 55) (.t 56)⟩,
                          ⟨(some 58), none, .ld 22 (.t 57)⟩,
                          ⟨(some 59), none, .mv (.t 14)⟩,
                          ⟨(some 60), none, .bsl 22 1 [(0, .t 59)]⟩,
                          ⟨(some 61), none, .bi .append [22, 22] [.t 58, .t 60]⟩,
                          ⟨(some 62), none, .ia 37 (.t 53) (.t 54)⟩,
                          ⟨none, none, .st 22 (.t 62) (.t 61)⟩])))
                      (.reg [⟨(some 63), none, .bin .add 3 (.t 48) (.i .i64 1)⟩,
                        ⟨(some 48), none, .mv (.t 63)⟩])))))))))))))
          (.reg [⟨(some 64), none, .bin .add 3 (.t 29) (.i .i64 1)⟩,
            ⟨(some 29), none, .mv (.t 64)⟩])))))))
    (.seq (.reg [⟨(some 65), none, .mv (.t 8)⟩,
       ⟨(some 4), none, .mv (.t 65)⟩,
       ⟨(some 5), none, .mv (.i .i64 0)⟩])
     (.ret)))))
theorem b23 : Body Try.prog 23 66 [4, 5] k23 := ⟨Enters.of Try.func23 (by kernel_rfl) (by kernel_rfl), _, _, Try.func23, rfl, by kernel_rfl, rfl, rfl⟩

/-- cartridge/cartridgeref10.Parity -/
noncomputable def drw24_0 : Array Oper := ((Try.f24.body.map regs).getD []).getD 0 #[]
noncomputable def k24 : KC :=
 .seq (.reg [⟨(some 4), none, .mv (.ns)⟩,
   ⟨(some 5), none, .mv (.i .i64 0)⟩])
 (.seq (.seq (.reg [⟨(some 14), none, .mv (.t 0)⟩,
     ⟨(some 15), none, .bi .len [35] [.t 14]⟩,
     ⟨(some 16), none, .bin .lss 3 (.t 15) (.i .i64 1)⟩,
     ⟨(some 17), none, .mv (.t 16)⟩,
     ⟨(some 18), (some (17, false)), .mv (.t 1)⟩,
     ⟨(some 19), (some (17, false)), .bin .lss 3 (.t 18) (.i .i64 0)⟩,
     ⟨(some 20), none, .pk (.t 17) (.b true) (.t 19)⟩,
     ⟨(some 21), none, .mv (.t 20)⟩,
     ⟨(some 22), (some (21, false)), .mv (.t 1)⟩,
     ⟨(some 23), (some (21, false)), .bin .gtr 3 (.t 22) (.i .i64 255)⟩,
     ⟨(some 24), none, .pk (.t 21) (.b true) (.t 23)⟩,
     ⟨(some 25), none, .mv (.t 24)⟩,
     ⟨(some 26), (some (25, false)), .mv (.t 0)⟩,
     ⟨(some 27), (some (25, false)), .bi .len [35] [.t 26]⟩,
     ⟨(some 28), (some (25, false)), .mv (.t 1)⟩,
     ⟨(some 29), (some (25, false)), .bin .add 3 (.t 27) (.t 28)⟩,
     ⟨(some 30), (some (25, false)), .bin .gtr 3 (.t 29) (.i .i64 255)⟩,
     ⟨(some 31), none, .pk (.t 25) (.b true) (.t 30)⟩])
   (.cond (.t 31)
    (.seq (.reg [⟨(some 4), none, .mv (.ns)⟩,
       ⟨(some 5), none, .mv (.i .i64 1)⟩])
     (.ret))
    (.skip)))
  (.seq (.reg [⟨(some 6), none, .mv (.ns)⟩])
   (.seq (.seq (.reg [⟨(some 7), none, .mv (.i .i64 0)⟩])
     (.block 0 (.loop (.seq (.seq (.reg [⟨(some 32), none, .mv (.t 7)⟩,
           ⟨(some 33), none, .mv (.t 1)⟩,
           ⟨(some 34), none, .bin .lss 3 (.t 32) (.t 33)⟩])
         (.cond (.t 34)
          (.skip)
          (.exit 0)))
        (.seq (.block 1 (.reg [⟨(some 37), none, .mv (.t 6)⟩,
            ⟨(some 38), none, .bsl 37 1 [(0, .ns)]⟩,
            ⟨(some 39), none, .bi .append [37, 37] [.t 37, .t 38]⟩,
            ⟨(some 6), none, .mv (.t 39)⟩]))
         (.reg [⟨(some 35), none, .mv (.t 7)⟩,
           ⟨(some 36), none, .bin .add 3 (.t 35) (.i .i64 1)⟩,
           ⟨(some 7), none, .mv (.t 36)⟩]))))))
    (.seq (.seq (.reg [⟨(some 8), none, .mv (.i .i64 0)⟩])
      (.block 2 (.loop (.seq (.seq (.reg [⟨(some 40), none, .mv (.t 8)⟩,
            ⟨(some 41), none, .mv (.t 0)⟩,
            ⟨(some 42), none, .call (.fn 27) [.t 41]⟩,
            ⟨(some 43), none, .bin .lss 3 (.t 40) (.t 42)⟩])
          (.cond (.t 43)
           (.skip)
           (.exit 2)))
         (.seq (.block 3 (.seq (.reg [⟨(some 46), none, .mv (.t 0)⟩,
              ⟨(some 47), none, .mv (.t 8)⟩,
              ⟨(some 48), none, .call (.fn 30) [.t 46, .t 47]⟩,
              ⟨(some 9), none, .mv (.t 48)⟩])
            (.seq (.seq (.reg [⟨(some 10), none, .mv (.i .i64 0)⟩])
              (.block 4 (.loop (.seq (.seq (.reg [⟨(some 49), none, .mv (.t 10)⟩,
                    ⟨(some 50), none, .mv (.t 9)⟩,
                    ⟨(some 51), none, .bi .len [22] [.t 50]⟩,
                    ⟨(some 52), none, .bin .lss 3 (.t 49) (.t 51)⟩])
                  (.cond (.t 52)
                   (.skip)
                   (.exit 4)))
                 (.seq (.block 5 (.seq (.reg [⟨(some 55), none, .mv (.t 9)⟩,
                      ⟨(some 56), none, .mv (.t 10)⟩,
                      ⟨(some 57), none, .ia 22 (.t 55) (.t 56)⟩,
                      ⟨(some 58), none, .ld 23 (.t 57)⟩,
                      ⟨(some 59), none, .bi .len [23] [.t 58]⟩,
                      ⟨(some 60), none, .bin .eql 3 (.t 59) (.i .i64 0)⟩])
                    (.cond (.t 60)
                     (.seq (.reg [⟨(some 4), none, .mv (.ns)⟩,
                        ⟨(some 5), none, .mv (.i .i64 1)⟩])
                      (.ret))
                     (.skip))))
                  (.reg [⟨(some 53), none, .mv (.t 10)⟩,
                    ⟨(some 54), none, .bin .add 3 (.t 53) (.i .i64 1)⟩,
                    ⟨(some 10), none, .mv (.t 54)⟩]))))))
             (.seq (.reg [⟨(some 62), none, .mv (.t 9)⟩,
                ⟨(some 63), none, .mv (.t 1)⟩,
                ⟨(some 64), none, .call (.fn 56) [.t 62, .t 63]⟩,
                ⟨(some 61), none, .mv (.t 64)⟩,
                ⟨(some 65), none, .ex (.t 61) 0⟩,
                ⟨(some 66), none, .ex (.t 61) 1⟩,
                ⟨(some 11), none, .mv (.t 65)⟩,
                ⟨(some 12), none, .mv (.t 66)⟩])
              (.seq (.seq (.reg [⟨(some 67), none, .mv (.t 12)⟩,
                  ⟨(some 68), none, .bin .neq 3 (.t 67) (.i .i64 0)⟩])
                (.cond (.t 68)
                 (.seq (.reg [⟨(some 69), none, .mv (.t 12)⟩,
                    ⟨(some 4), none, .mv (.ns)⟩,
                    ⟨(some 5), none, .mv (.t 69)⟩])
                  (.ret))
                 (.skip)))
               (.seq (.reg [⟨(some 13), none, .mv (.i .i64 0)⟩])
                (.block 6 (.loop (.seq (.seq (.reg [⟨(some 70), none, .mv (.t 13)⟩,
                      ⟨(some 71), none, .mv (.t 1)⟩,
                      ⟨(some 72), none, .bin .lss 3 (.t 70) (.t 71)⟩])
                    (.cond (.t 72)
                     (.skip)
                     (.exit 6)))
                   (.seq (.block 7 (.drw drw24_0 [⟨(some 75), none, .mv (.t 6)⟩,
                       ⟨(some 76), none, .mv (.t 13)⟩,
                       ⟨(some 77), none, .mv (.t 6)⟩,
                       ⟨(some 78), none, .mv (.t 13)⟩,
                       ⟨(some 79), none, .ia 37 (.t 77) (.t 78)⟩,
                       ⟨(some 80), none, .ld 22 (.t 79)⟩,
                       ⟨(some 81), none, .mv (.t 11)⟩,
                       ⟨(some 82), none, .mv (.t 13)⟩,
                       ⟨(some 83), none, .ia 22 (.t 81) (.t 82)⟩,
                       ⟨(some 84), none, .ld 23 (.t 83)⟩,
                       ⟨(some 85), none, .bsl 22 1 [(0, .t 84)]⟩,
                       ⟨(some 86), none, .bi .append [22, 22] [.t 80, .t 85]⟩,
                       ⟨(some 87), none, .ia 37 (.t 75) (.t 76)⟩,
                       ⟨none, none, .st 22 (.t 87) (.t 86)⟩]))
                    (.reg [⟨(some 73), none, .mv (.t 13)⟩,
                      ⟨(some 74), none, .bin .add 3 (.t 73) (.i .i64 1)⟩,
                      ⟨(some 13), none, .mv (.t 74)⟩])))))))))))
          (.reg [⟨(some 44), none, .mv (.t 8)⟩,
            ⟨(some 45), none, .bin .add 3 (.t 44) (.i .i64 1)⟩,
            ⟨(some 8), none, .mv (.t 45)⟩]))))))
     (.seq (.reg [⟨(some 88), none, .mv (.t 6)⟩,
        ⟨(some 4), none, .mv (.t 88)⟩,
        ⟨(some 5), none, .mv (.i .i64 0)⟩])
      (.ret))))))
theorem b24 : Body Try.prog 24 89 [4, 5] k24 := ⟨Enters.of Try.func24 (by kernel_rfl) (by kernel_rfl), _, _, Try.func24, rfl, by kernel_rfl, rfl, rfl⟩

/-- cartridge/cartridgelaw13.num -/
def k25 : KC :=
 .seq (.reg [⟨(some 2), none, .mv (.i .i64 0)⟩])
 (.seq (.reg [⟨(some 3), none, .mv (.t 0)⟩,
    ⟨(some 2), none, .mv (.t 3)⟩])
  (.ret))
theorem b25 : Body Try.prog 25 4 [2] k25 := ⟨Enters.of Try.func25 (by kernel_rfl) (by kernel_rfl), _, _, Try.func25, rfl, by kernel_rfl, rfl, rfl⟩

/-- cartridge/stripe.Len -/
def k26 : KC :=
 .seq (.reg [⟨(some 2), none, .mv (.i .i64 0)⟩])
 (.seq (.reg [⟨(some 3), none, .mv (.i .i64 0)⟩])
  (.seq (.seq (.reg [⟨(some 6), none, .mv (.t 0)⟩,
      ⟨(some 7), none, .bi .len [35] [.t 6]⟩,
      ⟨(some 8), none, .mv (.i .i64 0)⟩])
    (.block 0 (.loop (.seq (.reg [⟨(some 9), none, .bin .lss 3 (.t 8) (.t 7)⟩])
       (.seq (.cond (.t 9)
         (.skip)
         (.exit 0))
        (.seq (.block 1 (.seq (.reg [⟨(some 10), none, .ia 35 (.t 6) (.t 8)⟩,
             ⟨(some 11), none, .ld 48 (.t 10)⟩,
             ⟨(some 5), none, .al 48⟩,
             ⟨none, none, .st 48 (.t 5) (.t 11)⟩])
           (.seq (.reg [⟨(some 12), none, .fa 48 (.t 5) 3⟩,
              ⟨(some 13), none, .ld 4 (.t 12)⟩,
              ⟨(some 14), none, .un .not (.t 13)⟩])
            (.cond (.t 14)
             (.reg [⟨(some 15), none, .mv (.t 3)⟩,
               ⟨(some 16), none, .fa 48 (.t 5) 2⟩,
               ⟨(some 17), none, .ld 22 (.t 16)⟩,
               ⟨(some 18), none, .bi .len [22] [.t 17]⟩,
               ⟨(some 19), none, .bi .max [3, 3] [.t 15, .t 18]⟩,
               ⟨(some 3), none, .mv (.t 19)⟩])
             (.skip)))))
         (.reg [⟨(some 20), none, .bin .add 3 (.t 8) (.i .i64 1)⟩,
           ⟨(some 8), none, .mv (.t 20)⟩])))))))
   (.seq (.reg [⟨(some 21), none, .mv (.t 3)⟩,
      ⟨(some 2), none, .mv (.t 21)⟩])
    (.ret))))
theorem b26 : Body Try.prog 26 22 [2] k26 := ⟨Enters.of Try.func26 (by kernel_rfl) (by kernel_rfl), _, _, Try.func26, rfl, by kernel_rfl, rfl, rfl⟩

/-- cartridge/cartridgeref10.StripeLen -/
def k27 : KC :=
 .seq (.reg [⟨(some 2), none, .mv (.i .i64 0)⟩])
 (.seq (.reg [⟨(some 3), none, .mv (.i .i64 0)⟩])
  (.seq (.seq (.reg [⟨(some 4), none, .mv (.i .i64 0)⟩])
    (.block 0 (.loop (.seq (.seq (.reg [⟨(some 5), none, .mv (.t 4)⟩,
          ⟨(some 6), none, .mv (.t 0)⟩,
          ⟨(some 7), none, .bi .len [35] [.t 6]⟩,
          ⟨(some 8), none, .bin .lss 3 (.t 5) (.t 7)⟩])
        (.cond (.t 8)
         (.skip)
         (.exit 0)))
       (.seq (.block 1 (.seq (.reg [⟨(some 11), none, .mv (.t 0)⟩,
            ⟨(some 12), none, .mv (.t 4)⟩,
            ⟨(some 13), none, .ia 35 (.t 11) (.t 12)⟩,
            ⟨(some 14), none, .fa 48 (.t 13) 3⟩,
            ⟨(some 15), none, .ld 4 (.t 14)⟩,
            ⟨(some 16), none, .un .not (.t 15)⟩,
            ⟨(some 17), none, .mv (.t 16)⟩,
            ⟨(some 18), (some (17, true)), .mv (.t 0)⟩,
            ⟨(some 19), (some (17, true)), .mv (.t 4)⟩,
            ⟨(some 20), (some (17, true)), .ia 35 (.t 18) (.t 19)⟩,
            ⟨(some 21), (some (17, true)), .fa 48 (.t 20) 2⟩,
            ⟨(some 22), (some (17, true)), .ld 22 (.t 21)⟩,
            ⟨(some 23), (some (17, true)), .bi .len [22] [.t 22]⟩,
            ⟨(some 24), (some (17, true)), .mv (.t 3)⟩,
            ⟨(some 25), (some (17, true)), .bin .gtr 3 (.t 23) (.t 24)⟩,
            ⟨(some 26), none, .pk (.t 17) (.t 25) (.b false)⟩])
          (.cond (.t 26)
           (.reg [⟨(some 27), none, .mv (.t 0)⟩,
             ⟨(some 28), none, .mv (.t 4)⟩,
             ⟨(some 29), none, .ia 35 (.t 27) (.t 28)⟩,
             ⟨(some 30), none, .fa 48 (.t 29) 2⟩,
             ⟨(some 31), none, .ld 22 (.t 30)⟩,
             ⟨(some 32), none, .bi .len [22] [.t 31]⟩,
             ⟨(some 3), none, .mv (.t 32)⟩])
           (.skip))))
        (.reg [⟨(some 9), none, .mv (.t 4)⟩,
          ⟨(some 10), none, .bin .add 3 (.t 9) (.i .i64 1)⟩,
          ⟨(some 4), none, .mv (.t 10)⟩]))))))
   (.seq (.reg [⟨(some 33), none, .mv (.t 3)⟩,
      ⟨(some 2), none, .mv (.t 33)⟩])
    (.ret))))
theorem b27 : Body Try.prog 27 34 [2] k27 := ⟨Enters.of Try.func27 (by kernel_rfl) (by kernel_rfl), _, _, Try.func27, rfl, by kernel_rfl, rfl, rfl⟩

/-- cartridge/cartridgeref1.SameRows -/
noncomputable def drw28_0 : Array Oper := ((Try.f28.body.map regs).getD []).getD 0 #[]
noncomputable def k28 : KC :=
 .seq (.reg [⟨(some 4), none, .mv (.b false)⟩])
 (.seq (.seq (.reg [⟨(some 6), none, .mv (.t 0)⟩,
     ⟨(some 7), none, .bi .len [22] [.t 6]⟩,
     ⟨(some 8), none, .mv (.t 1)⟩,
     ⟨(some 9), none, .bi .len [22] [.t 8]⟩,
     ⟨(some 10), none, .bin .neq 3 (.t 7) (.t 9)⟩])
   (.cond (.t 10)
    (.seq (.reg [⟨(some 4), none, .mv (.b false)⟩])
     (.ret))
    (.skip)))
  (.seq (.seq (.reg [⟨(some 5), none, .mv (.i .i64 0)⟩])
    (.block 0 (.loop (.seq (.seq (.reg [⟨(some 11), none, .mv (.t 5)⟩,
          ⟨(some 12), none, .mv (.t 0)⟩,
          ⟨(some 13), none, .bi .len [22] [.t 12]⟩,
          ⟨(some 14), none, .bin .lss 3 (.t 11) (.t 13)⟩])
        (.cond (.t 14)
         (.skip)
         (.exit 0)))
       (.seq (.block 1 (.seq (.drw drw28_0 [⟨(some 17), none, .mv (.t 0)⟩,
            ⟨(some 18), none, .mv (.t 5)⟩,
            ⟨(some 19), none, .ia 22 (.t 17) (.t 18)⟩,
            ⟨(some 20), none, .ld 23 (.t 19)⟩,
            ⟨(some 21), none, .cvt 23 9 (.t 20)⟩,
            ⟨(some 22), none, .mv (.t 1)⟩,
            ⟨(some 23), none, .mv (.t 5)⟩,
            ⟨(some 24), none, .ia 22 (.t 22) (.t 23)⟩,
            ⟨(some 25), none, .ld 23 (.t 24)⟩,
            ⟨(some 26), none, .cvt 23 9 (.t 25)⟩,
            ⟨(some 27), none, .bin .neq 9 (.t 21) (.t 26)⟩])
          (.cond (.t 27)
           (.seq (.reg [⟨(some 4), none, .mv (.b false)⟩])
            (.ret))
           (.skip))))
        (.reg [⟨(some 15), none, .mv (.t 5)⟩,
          ⟨(some 16), none, .bin .add 3 (.t 15) (.i .i64 1)⟩,
          ⟨(some 5), none, .mv (.t 16)⟩]))))))
   (.seq (.reg [⟨(some 4), none, .mv (.b true)⟩])
    (.ret))))
theorem b28 : Body Try.prog 28 28 [4] k28 := ⟨Enters.of Try.func28 (by kernel_rfl) (by kernel_rfl), _, _, Try.func28, rfl, by kernel_rfl, rfl, rfl⟩

/-- cartridge/stripe.Row -/
def k29 : KC :=
 .seq (.reg [⟨(some 4), none, .mv (.ns)⟩])
 (.seq (.reg [⟨(some 5), none, .mv (.ns)⟩])
  (.seq (.seq (.reg [⟨(some 8), none, .mv (.t 0)⟩,
      ⟨(some 9), none, .bi .len [35] [.t 8]⟩,
      ⟨(some 10), none, .mv (.i .i64 0)⟩])
    (.block 0 (.loop (.seq (.reg [⟨(some 11), none, .bin .lss 3 (.t 10) (.t 9)⟩])
       (.seq (.cond (.t 11)
         (.skip)
         (.exit 0))
        (.seq (.block 1 (.seq (.reg [⟨(some 12), none, .ia 35 (.t 8) (.t 10)⟩,
             ⟨(some 13), none, .ld 48 (.t 12)⟩,
             ⟨(some 7), none, .al 48⟩,
             ⟨none, none, .st 48 (.t 7) (.t 13)⟩])
           (.reg [⟨(some 14), none, .mv (.t 5)⟩,
             ⟨(some 15), none, .ld 48 (.t 7)⟩,
             ⟨(some 16), none, .mv (.t 1)⟩,
             ⟨(some 17), none, .call (.fn 70) [.t 15, .t 16]⟩,
             ⟨(some 18), none, .bsl 22 1 [(0, .t 17)]⟩,
             ⟨(some 19), none, .bi .append [22, 22] [.t 14, .t 18]⟩,
             ⟨(some 5), none, .mv (.t 19)⟩])))
         (.reg [⟨(some 20), none, .bin .add 3 (.t 10) (.i .i64 1)⟩,
           ⟨(some 10), none, .mv (.t 20)⟩])))))))
   (.seq (.reg [⟨(some 21), none, .mv (.t 5)⟩,
      ⟨(some 4), none, .mv (.t 21)⟩])
    (.ret))))
theorem b29 : Body Try.prog 29 22 [4] k29 := ⟨Enters.of Try.func29 (by kernel_rfl) (by kernel_rfl), _, _, Try.func29, rfl, by kernel_rfl, rfl, rfl⟩

/-- cartridge/cartridgeref10.Row -/
def k30 : KC :=
 .seq (.reg [⟨(some 4), none, .mv (.ns)⟩])
 (.seq (.reg [⟨(some 5), none, .mv (.ns)⟩])
  (.seq (.seq (.reg [⟨(some 6), none, .mv (.i .i64 0)⟩])
    (.block 0 (.loop (.seq (.seq (.reg [⟨(some 7), none, .mv (.t 6)⟩,
          ⟨(some 8), none, .mv (.t 0)⟩,
          ⟨(some 9), none, .bi .len [35] [.t 8]⟩,
          ⟨(some 10), none, .bin .lss 3 (.t 7) (.t 9)⟩])
        (.cond (.t 10)
         (.skip)
         (.exit 0)))
       (.seq (.block 1 (.block 2 (.seq (.reg [⟨(some 17), none, .mv (.t 0)⟩,
             ⟨(some 18), none, .mv (.t 6)⟩,
             ⟨(some 19), none, .ia 35 (.t 17) (.t 18)⟩,
             ⟨(some 20), none, .fa 48 (.t 19) 3⟩,
             ⟨(some 21), none, .ld 4 (.t 20)⟩,
             ⟨(some 22), none, .mv (.t 21)⟩,
             ⟨(some 23), (some (22, false)), .mv (.t 1)⟩,
             ⟨(some 24), (some (22, false)), .bin .lss 3 (.t 23) (.i .i64 0)⟩,
             ⟨(some 25), none, .pk (.t 22) (.b true) (.t 24)⟩,
             ⟨(some 26), none, .mv (.t 25)⟩,
             ⟨(some 27), (some (26, false)), .mv (.t 1)⟩,
             ⟨(some 28), (some (26, false)), .mv (.t 0)⟩,
             ⟨(some 29), (some (26, false)), .mv (.t 6)⟩,
             ⟨(some 30), (some (26, false)), .ia 35 (.t 28) (.t 29)⟩,
             ⟨(some 31), (some (26, false)), .fa 48 (.t 30) 2⟩,
             ⟨(some 32), (some (26, false)), .ld 22 (.t 31)⟩,
             ⟨(some 33), (some (26, false)), .bi .len [22] [.t 32]⟩,
             ⟨(some 34), (some (26, false)), .bin .geq 3 (.t 27) (.t 33)⟩,
             ⟨(some 35), none, .pk (.t 26) (.b true) (.t 34)⟩,
             ⟨(some 16), none, .mv (.t 35)⟩])
           (.cond (.t 16)
            (.reg [⟨(some 36), none, .mv (.t 5)⟩,
              ⟨(some 37), none, .mk 23 (.i .i64 79) (.i .i64 79)⟩,
              ⟨(some 38), none, .bsl 22 1 [(0, .t 37)]⟩,
              ⟨(some 39), none, .bi .append [22, 22] [.t 36, .t 38]⟩,
              ⟨(some 5), none, .mv (.t 39)⟩])
            (.seq (.reg [⟨(some 41), none, .mv (.t 0)⟩,
               ⟨(some 42), none, .mv (.t 6)⟩,
               ⟨(some 43), none, .ia 35 (.t 41) (.t 42)⟩,
               ⟨(some 44), none, .fa 48 (.t 43) 2⟩,
               ⟨(some 45), none, .ld 22 (.t 44)⟩,
               ⟨(some 46), none, .mv (.t 1)⟩,
               ⟨(some 47), none, .ia 22 (.t 45) (.t 46)⟩,
               ⟨(some 48), none, .ld 23 (.t 47)⟩,
               ⟨(some 49), none, .bi .len [23] [.t 48]⟩,
               ⟨(some 50), none, .bin .eql 3 (.t 49) (.i .i64 79)⟩,
               ⟨(some 40), none, .mv (.t 50)⟩])
             (.cond (.t 40)
              (.reg [⟨(some 51), none, .mv (.t 5)⟩,
                ⟨(some 52), none, .mv (.t 0)⟩,
                ⟨(some 53), none, .mv (.t 6)⟩,
                ⟨(some 54), none, .ia 35 (.t 52) (.t 53)⟩,
                ⟨(some 55), none, .fa 48 (.t 54) 2⟩,
                ⟨(some 56), none, .ld 22 (.t 55)⟩,
                ⟨(some 57), none, .mv (.t 1)⟩,
                ⟨(some 58), none, .ia 22 (.t 56) (.t 57)⟩,
                ⟨(some 59), none, .ld 23 (.t 58)⟩,
                ⟨(some 60), none, .bi .append [23, 23] [.ns, .t 59]⟩,
                ⟨(some 61), none, .bsl 22 1 [(0, .t 60)]⟩,
                ⟨(some 62), none, .bi .append [22, 22] [.t 51, .t 61]⟩,
                ⟨(some 5), none, .mv (.t 62)⟩])
              (.reg [⟨(some 13), none, .mv (.t 5)⟩,
                ⟨(some 14), none, .bsl 22 1 [(0, .ns)]⟩,
                ⟨(some 15), none, .bi .append [22, 22] [.t 13, .t 14]⟩,
                ⟨(some 5), none, .mv (.t 15)⟩])))))))
        (.reg [⟨(some 11), none, .mv (.t 6)⟩,
          ⟨(some 12), none, .bin .add 3 (.t 11) (.i .i64 1)⟩,
          ⟨(some 6), none, .mv (.t 12)⟩]))))))
   (.seq (.reg [⟨(some 63), none, .mv (.t 5)⟩,
      ⟨(some 4), none, .mv (.t 63)⟩])
    (.ret))))
theorem b30 : Body Try.prog 30 64 [4] k30 := ⟨Enters.of Try.func30 (by kernel_rfl) (by kernel_rfl), _, _, Try.func30, rfl, by kernel_rfl, rfl, rfl⟩

/-- cartridge/cartridgeref1.Decode -/
noncomputable def drw31_0 : Array Oper := ((Try.f31.body.map regs).getD []).getD 0 #[]
noncomputable def k31 : KC :=
 .seq (.reg [⟨(some 4), none, .mv (.ns)⟩,
   ⟨(some 5), none, .mv (.i .i64 0)⟩])
 (.seq (.seq (.reg [⟨(some 21), none, .mv (.t 1)⟩,
     ⟨(some 22), none, .bin .lss 3 (.t 21) (.i .i64 1)⟩,
     ⟨(some 23), none, .mv (.t 22)⟩,
     ⟨(some 24), (some (23, false)), .mv (.t 1)⟩,
     ⟨(some 25), (some (23, false)), .mv (.t 0)⟩,
     ⟨(some 26), (some (23, false)), .bi .len [22] [.t 25]⟩,
     ⟨(some 27), (some (23, false)), .bin .gtr 3 (.t 24) (.t 26)⟩,
     ⟨(some 28), none, .pk (.t 23) (.b true) (.t 27)⟩,
     ⟨(some 29), none, .mv (.t 28)⟩,
     ⟨(some 30), (some (29, false)), .mv (.t 0)⟩,
     ⟨(some 31), (some (29, false)), .bi .len [22] [.t 30]⟩,
     ⟨(some 32), (some (29, false)), .bin .gtr 3 (.t 31) (.i .i64 255)⟩,
     ⟨(some 33), none, .pk (.t 29) (.b true) (.t 32)⟩])
   (.cond (.t 33)
    (.seq (.reg [⟨(some 4), none, .mv (.ns)⟩,
       ⟨(some 5), none, .mv (.i .i64 1)⟩])
     (.ret))
    (.skip)))
  (.seq (.reg [⟨(some 6), none, .mv (.ns)⟩])
   (.seq (.reg [⟨(some 7), none, .mv (.i .i64 0)⟩])
    (.seq (.seq (.reg [⟨(some 8), none, .mv (.i .i64 0)⟩])
      (.block 0 (.loop (.seq (.seq (.reg [⟨(some 34), none, .mv (.t 8)⟩,
            ⟨(some 35), none, .mv (.t 0)⟩,
            ⟨(some 36), none, .bi .len [22] [.t 35]⟩,
            ⟨(some 37), none, .bin .lss 3 (.t 34) (.t 36)⟩])
          (.cond (.t 37)
           (.skip)
           (.exit 0)))
         (.seq (.block 1 (.seq (.seq (.reg [⟨(some 40), none, .mv (.t 0)⟩,
               ⟨(some 41), none, .mv (.t 8)⟩,
               ⟨(some 42), none, .ia 22 (.t 40) (.t 41)⟩,
               ⟨(some 43), none, .ld 23 (.t 42)⟩,
               ⟨(some 44), none, .bi .len [23] [.t 43]⟩,
               ⟨(some 45), none, .bin .eql 3 (.t 44) (.i .i64 0)⟩])
             (.cond (.t 45)
              (.exit 1)
              (.skip)))
            (.seq (.seq (.reg [⟨(some 46), none, .mv (.t 7)⟩,
                ⟨(some 47), none, .bin .gtr 3 (.t 46) (.i .i64 0)⟩,
                ⟨(some 48), none, .mv (.t 47)⟩,
                ⟨(some 49), (some (48, true)), .mv (.t 0)⟩,
                ⟨(some 50), (some (48, true)), .mv (.t 8)⟩,
                ⟨(some 51), (some (48, true)), .ia 22 (.t 49) (.t 50)⟩,
                ⟨(some 52), (some (48, true)), .ld 23 (.t 51)⟩,
                ⟨(some 53), (some (48, true)), .bi .len [23] [.t 52]⟩,
                ⟨(some 54), (some (48, true)), .mv (.t 7)⟩,
                ⟨(some 55), (some (48, true)), .bin .neq 3 (.t 53) (.t 54)⟩,
                ⟨(some 56), none, .pk (.t 48) (.t 55) (.b false)⟩])
              (.cond (.t 56)
               (.seq (.reg [⟨(some 4), none, .mv (.ns)⟩,
                  ⟨(some 5), none, .mv (.i .i64 1)⟩])
                (.ret))
               (.skip)))
             (.seq (.reg [⟨(some 57), none, .mv (.t 0)⟩,
                ⟨(some 58), none, .mv (.t 8)⟩,
                ⟨(some 59), none, .ia 22 (.t 57) (.t 58)⟩,
                ⟨(some 60), none, .ld 23 (.t 59)⟩,
                ⟨(some 61), none, .bi .len [23] [.t 60]⟩,
                ⟨(some 7), none, .mv (.t 61)⟩])
              (.reg [⟨(some 62), none, .mv (.t 6)⟩,
                ⟨(some 63), none, .mv (.t 8)⟩,
                ⟨(some 64), none, .bsl 46 1 [(0, .t 63)]⟩,
                ⟨(some 65), none, .bi .append [46, 46] [.t 62, .t 64]⟩,
                ⟨(some 6), none, .mv (.t 65)⟩])))))
          (.reg [⟨(some 38), none, .mv (.t 8)⟩,
            ⟨(some 39), none, .bin .add 3 (.t 38) (.i .i64 1)⟩,
            ⟨(some 8), none, .mv (.t 39)⟩]))))))
     (.seq (.seq (.reg [⟨(some 66), none, .mv (.t 6)⟩,
         ⟨(some 67), none, .bi .len [46] [.t 66]⟩,
         ⟨(some 68), none, .bin .eql 3 (.t 67) (.i .i64 0)⟩])
       (.cond (.t 68)
        (.seq (.reg [⟨(some 4), none, .mv (.ns)⟩,
           ⟨(some 5), none, .mv (.i .i64 1)⟩])
         (.ret))
        (.skip)))
      (.seq (.seq (.reg [⟨(some 69), none, .mv (.t 6)⟩,
          ⟨(some 70), none, .bi .len [46] [.t 69]⟩,
          ⟨(some 71), none, .mv (.t 1)⟩,
          ⟨(some 72), none, .bin .lss 3 (.t 70) (.t 71)⟩])
        (.cond (.t 72)
         (.seq (.reg [⟨(some 4), none, .mv (.ns)⟩,
            ⟨(some 5), none, .mv (.i .i64 10)⟩])
          (.ret))
         (.skip)))
       (.seq (.reg [⟨(some 9), none, .mv (.ns)⟩])
        (.seq (.reg [⟨(some 74), none, .mv (.t 1)⟩,
           ⟨(some 75), none, .mv (.t 0)⟩,
           ⟨(some 76), none, .bi .len [22] [.t 75]⟩,
           ⟨(some 77), none, .mv (.t 1)⟩,
           ⟨(some 78), none, .bin .sub 3 (.t 76) (.t 77)⟩,
           ⟨(some 79), none, .call (.fn 38) [.t 74, .t 78]⟩,
           ⟨(some 73), none, .mv (.t 79)⟩,
           ⟨(some 80), none, .ex (.t 73) 0⟩,
           ⟨(some 81), none, .ex (.t 73) 1⟩,
           ⟨(some 10), none, .mv (.t 80)⟩,
           ⟨(some 11), none, .mv (.t 81)⟩])
         (.seq (.seq (.reg [⟨(some 12), none, .mv (.i .i64 0)⟩])
           (.block 2 (.loop (.seq (.seq (.reg [⟨(some 82), none, .mv (.t 12)⟩,
                 ⟨(some 83), none, .mv (.t 1)⟩,
                 ⟨(some 84), none, .bin .lss 3 (.t 82) (.t 83)⟩])
               (.cond (.t 84)
                (.skip)
                (.exit 2)))
              (.seq (.block 3 (.seq (.reg [⟨(some 87), none, .mv (.t 6)⟩,
                   ⟨(some 88), none, .mv (.t 12)⟩,
                   ⟨(some 89), none, .ia 46 (.t 87) (.t 88)⟩,
                   ⟨(some 90), none, .ld 3 (.t 89)⟩,
                   ⟨(some 91), none, .mv (.t 1)⟩,
                   ⟨(some 92), none, .bin .lss 3 (.t 90) (.t 91)⟩])
                 (.cond (.t 92)
                  (.seq (.reg [⟨(some 93), none, .mv (.t 1)⟩,
                     ⟨(some 94), none, .mk 23 (.t 93) (.t 93)⟩,
                     ⟨(some 13), none, .mv (.t 94)⟩])
                   (.seq (.reg [⟨(some 95), none, .mv (.t 13)⟩,
                      ⟨(some 96), none, .mv (.t 6)⟩,
                      ⟨(some 97), none, .mv (.t 12)⟩,
                      ⟨(some 98), none, .ia 46 (.t 96) (.t 97)⟩,
                      ⟨(some 99), none, .ld 3 (.t 98)⟩,
                      ⟨(some 100), none, .ia 23 (.t 95) (.t 99)⟩,
                      ⟨none, none, .st 5 (.t 100) (.i .u8 1)⟩])
                    (.reg [⟨(some 101), none, .mv (.t 9)⟩,
                      ⟨(some 102), none, .mv (.t 13)⟩,
                      ⟨(some 103), none, .bsl 22 1 [(0, .t 102)]⟩,
                      ⟨(some 104), none, .bi .append [22, 22] [.t 101, .t 103]⟩,
                      ⟨(some 9), none, .mv (.t 104)⟩])))
                  (.reg [⟨(some 105), none, .mv (.t 9)⟩,
                    ⟨(some 106), none, .mv (.t 10)⟩,
                    ⟨(some 107), none, .mv (.t 6)⟩,
                    ⟨(some 108), none, .mv (.t 12)⟩,
                    ⟨(some 109), none, .ia 46 (.t 107) (.t 108)⟩,
                    ⟨(some 110), none, .ld 3 (.t 109)⟩,
                    ⟨(some 111), none, .mv (.t 1)⟩,
                    ⟨(some 112), none, .bin .sub 3 (.t 110) (.t 111)⟩,
                    ⟨(some 113), none, .ia 22 (.t 106) (.t 112)⟩,
                    ⟨(some 114), none, .ld 23 (.t 113)⟩,
                    ⟨(some 115), none, .bsl 22 1 [(0, .t 114)]⟩,
                    ⟨(some 116), none, .bi .append [22, 22] [.t 105, .t 115]⟩,
                    ⟨(some 9), none, .mv (.t 116)⟩]))))
               (.reg [⟨(some 85), none, .mv (.t 12)⟩,
                 ⟨(some 86), none, .bin .add 3 (.t 85) (.i .i64 1)⟩,
                 ⟨(some 12), none, .mv (.t 86)⟩]))))))
          (.seq (.reg [⟨(some 118), none, .mv (.t 9)⟩,
             ⟨(some 119), none, .call (.fn 35) [.t 118]⟩,
             ⟨(some 117), none, .mv (.t 119)⟩,
             ⟨(some 120), none, .ex (.t 117) 0⟩,
             ⟨(some 121), none, .ex (.t 117) 1⟩,
             ⟨(some 14), none, .mv (.t 120)⟩,
             ⟨(some 15), none, .mv (.t 121)⟩])
           (.seq (.seq (.reg [⟨(some 122), none, .mv (.t 15)⟩,
               ⟨(some 123), none, .bin .neq 3 (.t 122) (.i .i64 0)⟩])
             (.cond (.t 123)
              (.seq (.reg [⟨(some 124), none, .mv (.t 15)⟩,
                 ⟨(some 4), none, .mv (.ns)⟩,
                 ⟨(some 5), none, .mv (.t 124)⟩])
               (.ret))
              (.skip)))
            (.seq (.reg [⟨(some 16), none, .mv (.ns)⟩])
             (.seq (.seq (.reg [⟨(some 17), none, .mv (.i .i64 0)⟩])
               (.block 4 (.loop (.seq (.seq (.reg [⟨(some 125), none, .mv (.t 17)⟩,
                     ⟨(some 126), none, .mv (.t 1)⟩,
                     ⟨(some 127), none, .bin .lss 3 (.t 125) (.t 126)⟩])
                   (.cond (.t 127)
                    (.skip)
                    (.exit 4)))
                  (.seq (.block 5 (.seq (.reg [⟨(some 130), none, .mv (.t 7)⟩,
                       ⟨(some 131), none, .mk 23 (.t 130) (.t 130)⟩,
                       ⟨(some 18), none, .mv (.t 131)⟩])
                     (.seq (.seq (.reg [⟨(some 19), none, .mv (.i .i64 0)⟩])
                       (.block 6 (.loop (.seq (.seq (.reg [⟨(some 132), none, .mv (.t 19)⟩,
                             ⟨(some 133), none, .mv (.t 7)⟩,
                             ⟨(some 134), none, .bin .lss 3 (.t 132) (.t 133)⟩])
                           (.cond (.t 134)
                            (.skip)
                            (.exit 6)))
                          (.seq (.block 7 (.seq (.reg [⟨(some 20), none, .mv (.i .i64 0)⟩])
                             (.block 8 (.loop (.seq (.seq (.reg [⟨(some 137), none, .mv (.t 20)⟩,
                                   ⟨(some 138), none, .mv (.t 1)⟩,
                                   ⟨(some 139), none, .bin .lss 3 (.t 137) (.t 138)⟩])
                                 (.cond (.t 139)
                                  (.skip)
                                  (.exit 8)))
                                (.seq (.block 9 (.drw drw31_0 [⟨(some 142), none, .mv (.t 18)⟩,
                                    ⟨(some 143), none, .mv (.t 19)⟩,
                                    ⟨(some 144), none, .mv (.t 18)⟩,
                                    ⟨(some 145), none, .mv (.t 19)⟩,
                                    ⟨(some 146), none, .ia 23 (.t 144) (.t 145)⟩,
                                    ⟨(some 147), none, .ld 5 (.t 146)⟩,
                                    ⟨(some 148), none, .mv (.t 14)⟩,
                                    ⟨(some 149), none, .mv (.t 17)⟩,
                                    ⟨(some 150), none, .ia 22 (.t 148) (.t 149)⟩,
                                    ⟨(some 151), none, .ld 23 (.t 150)⟩,
                                    ⟨(some 152), none, .mv (.t 20)⟩,
                                    ⟨(some 153), none, .ia 23 (.t 151) (.t 152)⟩,
                                    ⟨(some 154), none, .ld 5 (.t 153)⟩,
                                    ⟨(some 155), none, .mv (.t 0)⟩,
                                    ⟨(some 156), none, .mv (.t 6)⟩,
                                    ⟨(some 157), none, .mv (.t 20)⟩,
                                    ⟨(some 158), none, .ia 46 (.t 156) (.t 157)⟩,
                                    ⟨(some 159), none, .ld 3 (.t 158)⟩,
                                    ⟨(some 160), none, .ia 22 (.t 155) (.t 159)⟩,
                                    ⟨(some 161), none, .ld 23 (.t 160)⟩,
                                    ⟨(some 162), none, .mv (.t 19)⟩,
                                    ⟨(some 163), none, .ia 23 (.t 161) (.t 162)⟩,
                                    ⟨(some 164), none, .ld 5 (.t 163)⟩,
                                    ⟨(some 165), none, .call (.fn 20) [.t 154, .t 164]⟩,
                                    ⟨(some 166), none, .bin .xor 5 (.t 147) (.t 165)⟩,
                                    ⟨(some 167), none, .ia 23 (.t 142) (.t 143)⟩,
                                    ⟨none, none, .st 5 (.t 167) (.t 166)⟩]))
                                 (.reg [⟨(some 140), none, .mv (.t 20)⟩,
                                   ⟨(some 141), none, .bin .add 3 (.t 140) (.i .i64 1)⟩,
                                   ⟨(some 20), none, .mv (.t 141)⟩])))))))
                           (.reg [⟨(some 135), none, .mv (.t 19)⟩,
                             ⟨(some 136), none, .bin .add 3 (.t 135) (.i .i64 1)⟩,
                             ⟨(some 19), none, .mv (.t 136)⟩]))))))
                      (.reg [⟨(some 168), none, .mv (.t 16)⟩,
                        ⟨(some 169), none, .mv (.t 18)⟩,
                        ⟨(some 170), none, .bsl 22 1 [(0, .t 169)]⟩,
                        ⟨(some 171), none, .bi .append [22, 22] [.t 168, .t 170]⟩,
                        ⟨(some 16), none, .mv (.t 171)⟩]))))
                   (.reg [⟨(some 128), none, .mv (.t 17)⟩,
                     ⟨(some 129), none, .bin .add 3 (.t 128) (.i .i64 1)⟩,
                     ⟨(some 17), none, .mv (.t 129)⟩]))))))
              (.seq (.reg [⟨(some 172), none, .mv (.t 16)⟩,
                 ⟨(some 4), none, .mv (.t 172)⟩,
                 ⟨(some 5), none, .mv (.i .i64 0)⟩])
               (.ret)))))))))))))))
theorem b31 : Body Try.prog 31 173 [4, 5] k31 := ⟨Enters.of Try.func31 (by kernel_rfl) (by kernel_rfl), _, _, Try.func31, rfl, by kernel_rfl, rfl, rfl⟩

/-- cartridge/matrix.Mul -/
def k32 : KC :=
 .seq (.reg [⟨(some 4), none, .mv (.ns)⟩,
   ⟨(some 5), none, .mv (.i .i64 0)⟩])
 (.seq (.seq (.reg [⟨(some 9), none, .mv (.t 0)⟩,
     ⟨(some 10), none, .call (.fn 36) [.t 9]⟩,
     ⟨(some 11), none, .un .not (.t 10)⟩,
     ⟨(some 12), none, .mv (.t 11)⟩,
     ⟨(some 13), (some (12, false)), .mv (.t 1)⟩,
     ⟨(some 14), (some (12, false)), .call (.fn 36) [.t 13]⟩,
     ⟨(some 15), (some (12, false)), .un .not (.t 14)⟩,
     ⟨(some 16), none, .pk (.t 12) (.b true) (.t 15)⟩,
     ⟨(some 17), none, .mv (.t 16)⟩,
     ⟨(some 18), (some (17, false)), .mv (.t 0)⟩,
     ⟨(some 19), (some (17, false)), .ia 22 (.t 18) (.i .i64 0)⟩,
     ⟨(some 20), (some (17, false)), .ld 23 (.t 19)⟩,
     ⟨(some 21), (some (17, false)), .bi .len [23] [.t 20]⟩,
     ⟨(some 22), (some (17, false)), .mv (.t 1)⟩,
     ⟨(some 23), (some (17, false)), .bi .len [22] [.t 22]⟩,
     ⟨(some 24), (some (17, false)), .bin .neq 3 (.t 21) (.t 23)⟩,
     ⟨(some 25), none, .pk (.t 17) (.b true) (.t 24)⟩])
   (.cond (.t 25)
    (.seq (.reg [⟨(some 4), none, .mv (.ns)⟩,
       ⟨(some 5), none, .mv (.i .i64 1)⟩])
     (.ret))
    (.skip)))
  (.seq (.reg [⟨(some 6), none, .mv (.ns)⟩])
   (.seq (.seq (.reg [⟨(some 26), none, .mv (.t 1)⟩,
       ⟨(some 27), none, .call (.fn 71) [.t 26]⟩,
       ⟨(some 28), none, .bi .len [22] [.t 27]⟩,
       ⟨(some 29), none, .mv (.i .i64 0)⟩])
     (.block 0 (.loop (.seq (.reg [⟨(some 30), none, .bin .lss 3 (.t 29) (.t 28)⟩])
        (.seq (.cond (.t 30)
          (.skip)
          (.exit 0))
         (.seq (.block 1 (.seq (.reg [⟨(some 31), none, .ia 22 (.t 27) (.t 29)⟩,
              ⟨(some 32), none, .ld 23 (.t 31)⟩,
              ⟨(some 8), none, .mv (.t 32)⟩])
            (.reg [⟨(some 33), none, .mv (.t 6)⟩,
              ⟨(some 34), none, .mv (.t 0)⟩,
              ⟨(some 35), none, .mv (.t 8)⟩,
              ⟨(some 36), none, .call (.fn 66) [.t 34, .t 35]⟩,
              ⟨(some 37), none, .bsl 22 1 [(0, .t 36)]⟩,
              ⟨(some 38), none, .bi .append [22, 22] [.t 33, .t 37]⟩,
              ⟨(some 6), none, .mv (.t 38)⟩])))
          (.reg [⟨(some 39), none, .bin .add 3 (.t 29) (.i .i64 1)⟩,
            ⟨(some 29), none, .mv (.t 39)⟩])))))))
    (.seq (.reg [⟨(some 40), none, .mv (.t 6)⟩,
       ⟨(some 41), none, .call (.fn 71) [.t 40]⟩,
       ⟨(some 4), none, .mv (.t 41)⟩,
       ⟨(some 5), none, .mv (.i .i64 0)⟩])
     (.ret)))))
theorem b32 : Body Try.prog 32 42 [4, 5] k32 := ⟨Enters.of Try.func32 (by kernel_rfl) (by kernel_rfl), _, _, Try.func32, rfl, by kernel_rfl, rfl, rfl⟩

/-- cartridge/cartridgeref1.MulMatrix -/
noncomputable def drw33_0 : Array Oper := ((Try.f33.body.map regs).getD []).getD 0 #[]
noncomputable def k33 : KC :=
 .seq (.reg [⟨(some 4), none, .mv (.ns)⟩,
   ⟨(some 5), none, .mv (.i .i64 0)⟩])
 (.seq (.seq (.reg [⟨(some 11), none, .mv (.t 0)⟩,
     ⟨(some 12), none, .call (.fn 16) [.t 11]⟩,
     ⟨(some 13), none, .un .not (.t 12)⟩,
     ⟨(some 14), none, .mv (.t 13)⟩,
     ⟨(some 15), (some (14, false)), .mv (.t 1)⟩,
     ⟨(some 16), (some (14, false)), .call (.fn 16) [.t 15]⟩,
     ⟨(some 17), (some (14, false)), .un .not (.t 16)⟩,
     ⟨(some 18), none, .pk (.t 14) (.b true) (.t 17)⟩,
     ⟨(some 19), none, .mv (.t 18)⟩,
     ⟨(some 20), (some (19, false)), .mv (.t 0)⟩,
     ⟨(some 21), (some (19, false)), .ia 22 (.t 20) (.i .i64 0)⟩,
     ⟨(some 22), (some (19, false)), .ld 23 (.t 21)⟩,
     ⟨(some 23), (some (19, false)), .bi .len [23] [.t 22]⟩,
     ⟨(some 24), (some (19, false)), .mv (.t 1)⟩,
     ⟨(some 25), (some (19, false)), .bi .len [22] [.t 24]⟩,
     ⟨(some 26), (some (19, false)), .bin .neq 3 (.t 23) (.t 25)⟩,
     ⟨(some 27), none, .pk (.t 19) (.b true) (.t 26)⟩])
   (.cond (.t 27)
    (.seq (.reg [⟨(some 4), none, .mv (.ns)⟩,
       ⟨(some 5), none, .mv (.i .i64 1)⟩])
     (.ret))
    (.skip)))
  (.seq (.reg [⟨(some 6), none, .mv (.ns)⟩])
   (.seq (.seq (.reg [⟨(some 7), none, .mv (.i .i64 0)⟩])
     (.block 0 (.loop (.seq (.seq (.reg [⟨(some 28), none, .mv (.t 7)⟩,
           ⟨(some 29), none, .mv (.t 0)⟩,
           ⟨(some 30), none, .bi .len [22] [.t 29]⟩,
           ⟨(some 31), none, .bin .lss 3 (.t 28) (.t 30)⟩])
         (.cond (.t 31)
          (.skip)
          (.exit 0)))
        (.seq (.block 1 (.seq (.reg [⟨(some 34), none, .mv (.t 1)⟩,
             ⟨(some 35), none, .ia 22 (.t 34) (.i .i64 0)⟩,
             ⟨(some 36), none, .ld 23 (.t 35)⟩,
             ⟨(some 37), none, .bi .len [23] [.t 36]⟩,
             ⟨(some 38), none, .mk 23 (.t 37) (.t 37)⟩,
             ⟨(some 8), none, .mv (.t 38)⟩])
           (.seq (.seq (.reg [⟨(some 9), none, .mv (.i .i64 0)⟩])
             (.block 2 (.loop (.seq (.seq (.reg [⟨(some 39), none, .mv (.t 9)⟩,
                   ⟨(some 40), none, .mv (.t 8)⟩,
                   ⟨(some 41), none, .bi .len [23] [.t 40]⟩,
                   ⟨(some 42), none, .bin .lss 3 (.t 39) (.t 41)⟩])
                 (.cond (.t 42)
                  (.skip)
                  (.exit 2)))
                (.seq (.block 3 (.seq (.reg [⟨(some 10), none, .mv (.i .i64 0)⟩])
                   (.block 4 (.loop (.seq (.seq (.reg [⟨(some 45), none, .mv (.t 10)⟩,
                         ⟨(some 46), none, .mv (.t 1)⟩,
                         ⟨(some 47), none, .bi .len [22] [.t 46]⟩,
                         ⟨(some 48), none, .bin .lss 3 (.t 45) (.t 47)⟩])
                       (.cond (.t 48)
                        (.skip)
                        (.exit 4)))
                      (.seq (.block 5 (.drw drw33_0 [⟨(some 51), none, .mv (.t 8)⟩,
                          ⟨(some 52), none, .mv (.t 9)⟩,
                          ⟨(some 53), none, .mv (.t 8)⟩,
                          ⟨(some 54), none, .mv (.t 9)⟩,
                          ⟨(some 55), none, .ia 23 (.t 53) (.t 54)⟩,
                          ⟨(some 56), none, .ld 5 (.t 55)⟩,
                          ⟨(some 57), none, .mv (.t 0)⟩,
                          ⟨(some 58), none, .mv (.t 7)⟩,
                          ⟨(some 59), none, .ia 22 (.t 57) (.t 58)⟩,
                          ⟨(some 60), none, .ld 23 (.t 59)⟩,
                          ⟨(some 61), none, .mv (.t 10)⟩,
                          ⟨(some 62), none, .ia 23 (.t 60) (.t 61)⟩,
                          ⟨(some 63), none, .ld 5 (.t 62)⟩,
                          ⟨(some 64), none, .mv (.t 1)⟩,
                          ⟨(some 65), none, .mv (.t 10)⟩,
                          ⟨(some 66), none, .ia 22 (.t 64) (.t 65)⟩,
                          ⟨(some 67), none, .ld 23 (.t 66)⟩,
                          ⟨(some 68), none, .mv (.t 9)⟩,
                          ⟨(some 69), none, .ia 23 (.t 67) (.t 68)⟩,
                          ⟨(some 70), none, .ld 5 (.t 69)⟩,
                          ⟨(some 71), none, .call (.fn 20) [.t 63, .t 70]⟩,
                          ⟨(some 72), none, .bin .xor 5 (.t 56) (.t 71)⟩,
                          ⟨(some 73), none, .ia 23 (.t 51) (.t 52)⟩,
                          ⟨none, none, .st 5 (.t 73) (.t 72)⟩]))
                       (.reg [⟨(some 49), none, .mv (.t 10)⟩,
                         ⟨(some 50), none, .bin .add 3 (.t 49) (.i .i64 1)⟩,
                         ⟨(some 10), none, .mv (.t 50)⟩])))))))
                 (.reg [⟨(some 43), none, .mv (.t 9)⟩,
                   ⟨(some 44), none, .bin .add 3 (.t 43) (.i .i64 1)⟩,
                   ⟨(some 9), none, .mv (.t 44)⟩]))))))
            (.reg [⟨(some 74), none, .mv (.t 6)⟩,
              ⟨(some 75), none, .mv (.t 8)⟩,
              ⟨(some 76), none, .bsl 22 1 [(0, .t 75)]⟩,
              ⟨(some 77), none, .bi .append [22, 22] [.t 74, .t 76]⟩,
              ⟨(some 6), none, .mv (.t 77)⟩]))))
         (.reg [⟨(some 32), none, .mv (.t 7)⟩,
           ⟨(some 33), none, .bin .add 3 (.t 32) (.i .i64 1)⟩,
           ⟨(some 7), none, .mv (.t 33)⟩]))))))
    (.seq (.reg [⟨(some 78), none, .mv (.t 6)⟩,
       ⟨(some 4), none, .mv (.t 78)⟩,
       ⟨(some 5), none, .mv (.i .i64 0)⟩])
     (.ret)))))
theorem b33 : Body Try.prog 33 79 [4, 5] k33 := ⟨Enters.of Try.func33 (by kernel_rfl) (by kernel_rfl), _, _, Try.func33, rfl, by kernel_rfl, rfl, rfl⟩

/-- cartridge/cartridgeref1.Apply -/
noncomputable def drw34_0 : Array Oper := ((Try.f34.body.map regs).getD []).getD 0 #[]
noncomputable def k34 : KC :=
 .seq (.reg [⟨(some 4), none, .mv (.ns)⟩,
   ⟨(some 5), none, .mv (.i .i64 0)⟩])
 (.seq (.seq (.reg [⟨(some 9), none, .mv (.t 0)⟩,
     ⟨(some 10), none, .call (.fn 16) [.t 9]⟩,
     ⟨(some 11), none, .un .not (.t 10)⟩,
     ⟨(some 12), none, .mv (.t 11)⟩,
     ⟨(some 13), (some (12, false)), .mv (.t 1)⟩,
     ⟨(some 14), (some (12, false)), .bi .len [23] [.t 13]⟩,
     ⟨(some 15), (some (12, false)), .mv (.t 0)⟩,
     ⟨(some 16), (some (12, false)), .ia 22 (.t 15) (.i .i64 0)⟩,
     ⟨(some 17), (some (12, false)), .ld 23 (.t 16)⟩,
     ⟨(some 18), (some (12, false)), .bi .len [23] [.t 17]⟩,
     ⟨(some 19), (some (12, false)), .bin .neq 3 (.t 14) (.t 18)⟩,
     ⟨(some 20), none, .pk (.t 12) (.b true) (.t 19)⟩])
   (.cond (.t 20)
    (.seq (.reg [⟨(some 4), none, .mv (.ns)⟩,
       ⟨(some 5), none, .mv (.i .i64 1)⟩])
     (.ret))
    (.skip)))
  (.seq (.reg [⟨(some 21), none, .mv (.t 0)⟩,
     ⟨(some 22), none, .bi .len [22] [.t 21]⟩,
     ⟨(some 23), none, .mk 23 (.t 22) (.t 22)⟩,
     ⟨(some 6), none, .mv (.t 23)⟩])
   (.seq (.seq (.reg [⟨(some 7), none, .mv (.i .i64 0)⟩])
     (.block 0 (.loop (.seq (.seq (.reg [⟨(some 24), none, .mv (.t 7)⟩,
           ⟨(some 25), none, .mv (.t 0)⟩,
           ⟨(some 26), none, .bi .len [22] [.t 25]⟩,
           ⟨(some 27), none, .bin .lss 3 (.t 24) (.t 26)⟩])
         (.cond (.t 27)
          (.skip)
          (.exit 0)))
        (.seq (.block 1 (.seq (.reg [⟨(some 8), none, .mv (.i .i64 0)⟩])
           (.block 2 (.loop (.seq (.seq (.reg [⟨(some 30), none, .mv (.t 8)⟩,
                 ⟨(some 31), none, .mv (.t 1)⟩,
                 ⟨(some 32), none, .bi .len [23] [.t 31]⟩,
                 ⟨(some 33), none, .bin .lss 3 (.t 30) (.t 32)⟩])
               (.cond (.t 33)
                (.skip)
                (.exit 2)))
              (.seq (.block 3 (.drw drw34_0 [⟨(some 36), none, .mv (.t 6)⟩,
                  ⟨(some 37), none, .mv (.t 7)⟩,
                  ⟨(some 38), none, .mv (.t 6)⟩,
                  ⟨(some 39), none, .mv (.t 7)⟩,
                  ⟨(some 40), none, .ia 23 (.t 38) (.t 39)⟩,
                  ⟨(some 41), none, .ld 5 (.t 40)⟩,
                  ⟨(some 42), none, .mv (.t 0)⟩,
                  ⟨(some 43), none, .mv (.t 7)⟩,
                  ⟨(some 44), none, .ia 22 (.t 42) (.t 43)⟩,
                  ⟨(some 45), none, .ld 23 (.t 44)⟩,
                  ⟨(some 46), none, .mv (.t 8)⟩,
                  ⟨(some 47), none, .ia 23 (.t 45) (.t 46)⟩,
                  ⟨(some 48), none, .ld 5 (.t 47)⟩,
                  ⟨(some 49), none, .mv (.t 1)⟩,
                  ⟨(some 50), none, .mv (.t 8)⟩,
                  ⟨(some 51), none, .ia 23 (.t 49) (.t 50)⟩,
                  ⟨(some 52), none, .ld 5 (.t 51)⟩,
                  ⟨(some 53), none, .call (.fn 20) [.t 48, .t 52]⟩,
                  ⟨(some 54), none, .bin .xor 5 (.t 41) (.t 53)⟩,
                  ⟨(some 55), none, .ia 23 (.t 36) (.t 37)⟩,
                  ⟨none, none, .st 5 (.t 55) (.t 54)⟩]))
               (.reg [⟨(some 34), none, .mv (.t 8)⟩,
                 ⟨(some 35), none, .bin .add 3 (.t 34) (.i .i64 1)⟩,
                 ⟨(some 8), none, .mv (.t 35)⟩])))))))
         (.reg [⟨(some 28), none, .mv (.t 7)⟩,
           ⟨(some 29), none, .bin .add 3 (.t 28) (.i .i64 1)⟩,
           ⟨(some 7), none, .mv (.t 29)⟩]))))))
    (.seq (.reg [⟨(some 56), none, .mv (.t 6)⟩,
       ⟨(some 4), none, .mv (.t 56)⟩,
       ⟨(some 5), none, .mv (.i .i64 0)⟩])
     (.ret)))))
theorem b34 : Body Try.prog 34 57 [4, 5] k34 := ⟨Enters.of Try.func34 (by kernel_rfl) (by kernel_rfl), _, _, Try.func34, rfl, by kernel_rfl, rfl, rfl⟩

/-- cartridge/cartridgeref1.Inverse -/
noncomputable def drw35_0 : Array Oper := ((Try.f35.body.map regs).getD []).getD 0 #[]
noncomputable def k35 : KC :=
 .seq (.reg [⟨(some 2), none, .mv (.ns)⟩,
   ⟨(some 3), none, .mv (.i .i64 0)⟩])
 (.seq (.seq (.reg [⟨(some 18), none, .mv (.t 0)⟩,
     ⟨(some 19), none, .call (.fn 16) [.t 18]⟩,
     ⟨(some 20), none, .un .not (.t 19)⟩,
     ⟨(some 21), none, .mv (.t 20)⟩,
     ⟨(some 22), (some (21, false)), .mv (.t 0)⟩,
     ⟨(some 23), (some (21, false)), .bi .len [22] [.t 22]⟩,
     ⟨(some 24), (some (21, false)), .mv (.t 0)⟩,
     ⟨(some 25), (some (21, false)), .ia 22 (.t 24) (.i .i64 0)⟩,
     ⟨(some 26), (some (21, false)), .ld 23 (.t 25)⟩,
     ⟨(some 27), (some (21, false)), .bi .len [23] [.t 26]⟩,
     ⟨(some 28), (some (21, false)), .bin .neq 3 (.t 23) (.t 27)⟩,
     ⟨(some 29), none, .pk (.t 21) (.b true) (.t 28)⟩])
   (.cond (.t 29)
    (.seq (.reg [⟨(some 2), none, .mv (.ns)⟩,
       ⟨(some 3), none, .mv (.i .i64 1)⟩])
     (.ret))
    (.skip)))
  (.seq (.reg [⟨(some 30), none, .mv (.t 0)⟩,
     ⟨(some 31), none, .bi .len [22] [.t 30]⟩,
     ⟨(some 4), none, .mv (.t 31)⟩])
   (.seq (.reg [⟨(some 5), none, .mv (.ns)⟩])
    (.seq (.seq (.reg [⟨(some 6), none, .mv (.i .i64 0)⟩])
      (.block 0 (.loop (.seq (.seq (.reg [⟨(some 32), none, .mv (.t 6)⟩,
            ⟨(some 33), none, .mv (.t 4)⟩,
            ⟨(some 34), none, .bin .lss 3 (.t 32) (.t 33)⟩])
          (.cond (.t 34)
           (.skip)
           (.exit 0)))
         (.seq (.block 1 (.seq (.reg [⟨(some 37), none, .mv (.t 0)⟩,
              ⟨(some 38), none, .mv (.t 6)⟩,
              ⟨(some 39), none, .ia 22 (.t 37) (.t 38)⟩,
              ⟨(some 40), none, .ld 23 (.t 39)⟩,
              ⟨(some 41), none, .bi .append [23, 23] [.ns, .t 40]⟩,
              ⟨(some 42), none, .mv (.t 4)⟩,
              ⟨(some 43), none, .bi .append [23, 3] [.t 41, .t 42]⟩,
              ⟨(some 7), none, .mv (.t 43)⟩])
            (.seq (.reg [⟨(some 44), none, .mv (.t 7)⟩,
               ⟨(some 45), none, .mv (.t 4)⟩,
               ⟨(some 46), none, .mv (.t 6)⟩,
               ⟨(some 47), none, .bin .add 3 (.t 45) (.t 46)⟩,
               ⟨(some 48), none, .ia 23 (.t 44) (.t 47)⟩,
               ⟨none, none, .st 5 (.t 48) (.i .u8 1)⟩])
             (.reg [⟨(some 49), none, .mv (.t 5)⟩,
               ⟨(some 50), none, .mv (.t 7)⟩,
               ⟨(some 51), none, .bsl 22 1 [(0, .t 50)]⟩,
               ⟨(some 52), none, .bi .append [22, 22] [.t 49, .t 51]⟩,
               ⟨(some 5), none, .mv (.t 52)⟩]))))
          (.reg [⟨(some 35), none, .mv (.t 6)⟩,
            ⟨(some 36), none, .bin .add 3 (.t 35) (.i .i64 1)⟩,
            ⟨(some 6), none, .mv (.t 36)⟩]))))))
     (.seq (.seq (.reg [⟨(some 8), none, .mv (.i .i64 0)⟩])
       (.block 2 (.loop (.seq (.seq (.reg [⟨(some 53), none, .mv (.t 8)⟩,
             ⟨(some 54), none, .mv (.t 4)⟩,
             ⟨(some 55), none, .bin .lss 3 (.t 53) (.t 54)⟩])
           (.cond (.t 55)
            (.skip)
            (.exit 2)))
          (.seq (.block 3 (.seq (.reg [⟨(some 58), none, .mv (.t 8)⟩,
               ⟨(some 9), none, .mv (.t 58)⟩])
             (.seq (.block 4 (.loop (.seq (.seq (.reg [⟨(some 59), none, .mv (.t 9)⟩,
                    ⟨(some 60), none, .mv (.t 4)⟩,
                    ⟨(some 61), none, .bin .lss 3 (.t 59) (.t 60)⟩,
                    ⟨(some 62), none, .mv (.t 61)⟩,
                    ⟨(some 63), (some (62, true)), .mv (.t 5)⟩,
                    ⟨(some 64), (some (62, true)), .mv (.t 9)⟩,
                    ⟨(some 65), (some (62, true)), .ia 22 (.t 63) (.t 64)⟩,
                    ⟨(some 66), (some (62, true)), .ld 23 (.t 65)⟩,
                    ⟨(some 67), (some (62, true)), .mv (.t 8)⟩,
                    ⟨(some 68), (some (62, true)), .ia 23 (.t 66) (.t 67)⟩,
                    ⟨(some 69), (some (62, true)), .ld 5 (.t 68)⟩,
                    ⟨(some 70), (some (62, true)), .bin .eql 5 (.t 69) (.i .u8 0)⟩,
                    ⟨(some 71), none, .pk (.t 62) (.t 70) (.b false)⟩])
                  (.cond (.t 71)
                   (.skip)
                   (.exit 4)))
                 (.block 5 (.reg [⟨(some 72), none, .mv (.t 9)⟩,
                    ⟨(some 73), none, .bin .add 3 (.t 72) (.i .i64 1)⟩,
                    ⟨(some 9), none, .mv (.t 73)⟩])))))
              (.seq (.seq (.reg [⟨(some 74), none, .mv (.t 9)⟩,
                  ⟨(some 75), none, .mv (.t 4)⟩,
                  ⟨(some 76), none, .bin .eql 3 (.t 74) (.t 75)⟩])
                (.cond (.t 76)
                 (.seq (.reg [⟨(some 2), none, .mv (.ns)⟩,
                    ⟨(some 3), none, .mv (.i .i64 12)⟩])
                  (.ret))
                 (.skip)))
               (.seq (.reg [⟨(some 77), none, .mv (.t 5)⟩,
                  ⟨(some 78), none, .mv (.t 9)⟩,
                  ⟨(some 79), none, .ia 22 (.t 77) (.t 78)⟩,
                  ⟨(some 80), none, .ld 23 (.t 79)⟩,
                  ⟨(some 10), none, .mv (.t 80)⟩])
                (.seq (.reg [⟨(some 81), none, .mv (.t 5)⟩,
                   ⟨(some 82), none, .mv (.t 9)⟩,
                   ⟨(some 83), none, .mv (.t 5)⟩,
                   ⟨(some 84), none, .mv (.t 8)⟩,
                   ⟨(some 85), none, .ia 22 (.t 83) (.t 84)⟩,
                   ⟨(some 86), none, .ld 23 (.t 85)⟩,
                   ⟨(some 87), none, .ia 22 (.t 81) (.t 82)⟩,
                   ⟨none, none, .st 23 (.t 87) (.t 86)⟩])
                 (.seq (.reg [⟨(some 88), none, .mv (.t 10)⟩,
                    ⟨(some 89), none, .mv (.t 8)⟩,
                    ⟨(some 90), none, .ia 23 (.t 88) (.t 89)⟩,
                    ⟨(some 91), none, .ld 5 (.t 90)⟩,
                    ⟨(some 92), none, .call (.fn 72) [.t 91]⟩,
                    ⟨(some 11), none, .mv (.t 92)⟩])
                  (.seq (.seq (.reg [⟨(some 12), none, .mv (.i .i64 0)⟩])
                    (.block 6 (.loop (.seq (.seq (.reg [⟨(some 93), none, .mv (.t 12)⟩,
                          ⟨(some 94), none, .mv (.t 4)⟩,
                          ⟨(some 95), none, .bin .mul 3 (.i .i64 2) (.t 94)⟩,
                          ⟨(some 96), none, .bin .lss 3 (.t 93) (.t 95)⟩])
                        (.cond (.t 96)
                         (.skip)
                         (.exit 6)))
                       (.seq (.block 7 (.reg [⟨(some 99), none, .mv (.t 10)⟩,
                           ⟨(some 100), none, .mv (.t 12)⟩,
                           ⟨(some 101), none, .mv (.t 10)⟩,
                           ⟨(some 102), none, .mv (.t 12)⟩,
                           ⟨(some 103), none, .ia 23 (.t 101) (.t 102)⟩,
                           ⟨(some 104), none, .ld 5 (.t 103)⟩,
                           ⟨(some 105), none, .mv (.t 11)⟩,
                           ⟨(some 106), none, .call (.fn 20) [.t 104, .t 105]⟩,
                           ⟨(some 107), none, .ia 23 (.t 99) (.t 100)⟩,
                           ⟨none, none, .st 5 (.t 107) (.t 106)⟩]))
                        (.reg [⟨(some 97), none, .mv (.t 12)⟩,
                          ⟨(some 98), none, .bin .add 3 (.t 97) (.i .i64 1)⟩,
                          ⟨(some 12), none, .mv (.t 98)⟩]))))))
                   (.seq (.reg [⟨(some 108), none, .mv (.t 5)⟩,
                      ⟨(some 109), none, .mv (.t 8)⟩,
                      ⟨(some 110), none, .mv (.t 10)⟩,
                      ⟨(some 111), none, .ia 22 (.t 108) (.t 109)⟩,
                      ⟨none, none, .st 23 (.t 111) (.t 110)⟩])
                    (.seq (.reg [⟨(some 13), none, .mv (.i .i64 0)⟩])
                     (.block 8 (.loop (.seq (.seq (.reg [⟨(some 112), none, .mv (.t 13)⟩,
                           ⟨(some 113), none, .mv (.t 4)⟩,
                           ⟨(some 114), none, .bin .lss 3 (.t 112) (.t 113)⟩])
                         (.cond (.t 114)
                          (.skip)
                          (.exit 8)))
                        (.seq (.block 9 (.seq (.reg [⟨(some 117), none, .mv (.t 5)⟩,
                             ⟨(some 118), none, .mv (.t 13)⟩,
                             ⟨(some 119), none, .ia 22 (.t 117) (.t 118)⟩,
                             ⟨(some 120), none, .ld 23 (.t 119)⟩,
                             ⟨(some 121), none, .mv (.t 8)⟩,
                             ⟨(some 122), none, .ia 23 (.t 120) (.t 121)⟩,
                             ⟨(some 123), none, .ld 5 (.t 122)⟩,
                             ⟨(some 14), none, .mv (.t 123)⟩])
                           (.seq (.reg [⟨(some 15), none, .mv (.i .i64 0)⟩])
                            (.block 10 (.loop (.seq (.seq (.reg [⟨(some 124), none, .mv (.t 15)⟩,
                                  ⟨(some 125), none, .mv (.t 4)⟩,
                                  ⟨(some 126), none, .bin .mul 3 (.i .i64 2) (.t 125)⟩,
                                  ⟨(some 127), none, .bin .lss 3 (.t 124) (.t 126)⟩,
                                  ⟨(some 128), none, .mv (.t 127)⟩,
                                  ⟨(some 129), (some (128, true)), .mv (.t 13)⟩,
                                  ⟨(some 130), (some (128, true)), .mv (.t 8)⟩,
                                  ⟨(some 131), (some (128, true)), .bin .neq 3 (.t 129) (.t 130)⟩,
                                  ⟨(some 132), none, .pk (.t 128) (.t 131) (.b false)⟩,
                                  ⟨(some 133), none, .mv (.t 132)⟩,
                                  ⟨(some 134), (some (133, true)), .mv (.t 14)⟩,
                                  ⟨(some 135), (some (133, true)), .bin .neq 5 (.t 134) (.i .u8 0)⟩,
                                  ⟨(some 136), none, .pk (.t 133) (.t 135) (.b false)⟩])
                                (.cond (.t 136)
                                 (.skip)
                                 (.exit 10)))
                               (.seq (.block 11 (.drw drw35_0 [⟨(some 139), none, .mv (.t 5)⟩,
                                   ⟨(some 140), none, .mv (.t 13)⟩,
                                   ⟨(some 141), none, .ia 22 (.t 139) (.t 140)⟩,
                                   ⟨(some 142), none, .ld 23 (.t 141)⟩,
                                   ⟨(some 143), none, .mv (.t 15)⟩,
                                   ⟨(some 144), none, .mv (.t 5)⟩,
                                   ⟨(some 145), none, .mv (.t 13)⟩,
                                   ⟨(some 146), none, .ia 22 (.t 144) (.t 145)⟩,
                                   ⟨(some 147), none, .ld 23 (.t 146)⟩,
                                   ⟨(some 148), none, .mv (.t 15)⟩,
                                   ⟨(some 149), none, .ia 23 (.t 147) (.t 148)⟩,
                                   ⟨(some 150), none, .ld 5 (.t 149)⟩,
                                   ⟨(some 151), none, .mv (.t 14)⟩,
                                   ⟨(some 152), none, .mv (.t 10)⟩,
                                   ⟨(some 153), none, .mv (.t 15)⟩,
                                   ⟨(some 154), none, .ia 23 (.t 152) (.t 153)⟩,
                                   ⟨(some 155), none, .ld 5 (.t 154)⟩,
                                   ⟨(some 156), none, .call (.fn 20) [.t 151, .t 155]⟩,
                                   ⟨(some 157), none, .bin .xor 5 (.t 150) (.t 156)⟩,
                                   ⟨(some 158), none, .ia 23 (.t 142) (.t 143)⟩,
                                   ⟨none, none, .st 5 (.t 158) (.t 157)⟩]))
                                (.reg [⟨(some 137), none, .mv (.t 15)⟩,
                                  ⟨(some 138), none, .bin .add 3 (.t 137) (.i .i64 1)⟩,
                                  ⟨(some 15), none, .mv (.t 138)⟩]))))))))
                         (.reg [⟨(some 115), none, .mv (.t 13)⟩,
                           ⟨(some 116), none, .bin .add 3 (.t 115) (.i .i64 1)⟩,
                           ⟨(some 13), none, .mv (.t 116)⟩])))))))))))))))
           (.reg [⟨(some 56), none, .mv (.t 8)⟩,
             ⟨(some 57), none, .bin .add 3 (.t 56) (.i .i64 1)⟩,
             ⟨(some 8), none, .mv (.t 57)⟩]))))))
      (.seq (.reg [⟨(some 16), none, .mv (.ns)⟩])
       (.seq (.seq (.reg [⟨(some 17), none, .mv (.i .i64 0)⟩])
         (.block 12 (.loop (.seq (.seq (.reg [⟨(some 159), none, .mv (.t 17)⟩,
               ⟨(some 160), none, .mv (.t 4)⟩,
               ⟨(some 161), none, .bin .lss 3 (.t 159) (.t 160)⟩])
             (.cond (.t 161)
              (.skip)
              (.exit 12)))
            (.seq (.block 13 (.reg [⟨(some 164), none, .mv (.t 16)⟩,
                ⟨(some 165), none, .mv (.t 5)⟩,
                ⟨(some 166), none, .mv (.t 17)⟩,
                ⟨(some 167), none, .ia 22 (.t 165) (.t 166)⟩,
                ⟨(some 168), none, .ld 23 (.t 167)⟩,
                ⟨(some 169), none, .mv (.t 4)⟩,
                ⟨(some 170), none, .sli 23 (.t 168) (some (.t 169)) none none⟩,
                ⟨(some 171), none, .bi .append [23, 23] [.ns, .t 170]⟩,
                ⟨(some 172), none, .bsl 22 1 [(0, .t 171)]⟩,
                ⟨(some 173), none, .bi .append [22, 22] [.t 164, .t 172]⟩,
                ⟨(some 16), none, .mv (.t 173)⟩]))
             (.reg [⟨(some 162), none, .mv (.t 17)⟩,
               ⟨(some 163), none, .bin .add 3 (.t 162) (.i .i64 1)⟩,
               ⟨(some 17), none, .mv (.t 163)⟩]))))))
        (.seq (.reg [⟨(some 174), none, .mv (.t 16)⟩,
           ⟨(some 2), none, .mv (.t 174)⟩,
           ⟨(some 3), none, .mv (.i .i64 0)⟩])
         (.ret)))))))))
theorem b35 : Body Try.prog 35 175 [2, 3] k35 := ⟨Enters.of Try.func35 (by kernel_rfl) (by kernel_rfl), _, _, Try.func35, rfl, by kernel_rfl, rfl, rfl⟩

/-- cartridge/matrix.Right -/
def k36 : KC :=
 .seq (.reg [⟨(some 1), none, .box 22 (.t 0)⟩,
   ⟨(some 2), none, .mv (.b false)⟩])
 (.seq (.seq (.reg [⟨(some 3), none, .ld 22 (.t 1)⟩,
     ⟨(some 4), none, .bi .len [22] [.t 3]⟩,
     ⟨(some 5), none, .bin .lss 3 (.t 4) (.i .i64 1)⟩,
     ⟨(some 6), none, .mv (.t 5)⟩,
     ⟨(some 7), (some (6, false)), .ld 22 (.t 1)⟩,
     ⟨(some 8), (some (6, false)), .bi .len [22] [.t 7]⟩,
     ⟨(some 9), (some (6, false)), .bin .gtr 3 (.t 8) (.i .i64 255)⟩,
     ⟨(some 10), none, .pk (.t 6) (.b true) (.t 9)⟩,
     ⟨(some 11), none, .mv (.t 10)⟩,
     ⟨(some 12), (some (11, false)), .ld 22 (.t 1)⟩,
     ⟨(some 13), (some (11, false)), .ia 22 (.t 12) (.i .i64 0)⟩,
     ⟨(some 14), (some (11, false)), .ld 23 (.t 13)⟩,
     ⟨(some 15), (some (11, false)), .bi .len [23] [.t 14]⟩,
     ⟨(some 16), (some (11, false)), .bin .lss 3 (.t 15) (.i .i64 1)⟩,
     ⟨(some 17), none, .pk (.t 11) (.b true) (.t 16)⟩,
     ⟨(some 18), none, .mv (.t 17)⟩,
     ⟨(some 19), (some (18, false)), .ld 22 (.t 1)⟩,
     ⟨(some 20), (some (18, false)), .ia 22 (.t 19) (.i .i64 0)⟩,
     ⟨(some 21), (some (18, false)), .ld 23 (.t 20)⟩,
     ⟨(some 22), (some (18, false)), .bi .len [23] [.t 21]⟩,
     ⟨(some 23), (some (18, false)), .bin .gtr 3 (.t 22) (.i .i64 255)⟩,
     ⟨(some 24), none, .pk (.t 18) (.b true) (.t 23)⟩])
   (.cond (.t 24)
    (.seq (.reg [⟨(some 2), none, .mv (.b false)⟩])
     (.ret))
    (.skip)))
  (.seq (.reg [⟨(some 25), none, .ld 22 (.t 1)⟩,
     ⟨(some 26), none, .mf 73 [.t 1]⟩,
     ⟨(some 27), none, .call (.fn 68) [.t 25, .t 26]⟩,
     ⟨(some 28), none, .un .not (.t 27)⟩,
     ⟨(some 2), none, .mv (.t 28)⟩])
   (.ret)))
theorem b36 : Body Try.prog 36 29 [2] k36 := ⟨Enters.of Try.func36 (by kernel_rfl) (by kernel_rfl), _, _, Try.func36, rfl, by kernel_rfl, rfl, rfl⟩

/-- cartridge/matrix.Cauchy -/
def k37 : KC :=
 .seq (.reg [⟨(some 4), none, .mv (.ns)⟩,
   ⟨(some 5), none, .mv (.i .i64 0)⟩])
 (.seq (.seq (.reg [⟨(some 10), none, .mv (.t 0)⟩,
     ⟨(some 11), none, .bin .lss 3 (.t 10) (.i .i64 1)⟩,
     ⟨(some 12), none, .mv (.t 11)⟩,
     ⟨(some 13), (some (12, false)), .mv (.t 1)⟩,
     ⟨(some 14), (some (12, false)), .bin .lss 3 (.t 13) (.i .i64 1)⟩,
     ⟨(some 15), none, .pk (.t 12) (.b true) (.t 14)⟩,
     ⟨(some 16), none, .mv (.t 15)⟩,
     ⟨(some 17), (some (16, false)), .mv (.t 0)⟩,
     ⟨(some 18), (some (16, false)), .bin .gtr 3 (.t 17) (.i .i64 255)⟩,
     ⟨(some 19), none, .pk (.t 16) (.b true) (.t 18)⟩,
     ⟨(some 20), none, .mv (.t 19)⟩,
     ⟨(some 21), (some (20, false)), .mv (.t 1)⟩,
     ⟨(some 22), (some (20, false)), .mv (.t 0)⟩,
     ⟨(some 23), (some (20, false)), .bin .sub 3 (.i .i64 255) (.t 22)⟩,
     ⟨(some 24), (some (20, false)), .bin .gtr 3 (.t 21) (.t 23)⟩,
     ⟨(some 25), none, .pk (.t 20) (.b true) (.t 24)⟩])
   (.cond (.t 25)
    (.seq (.reg [⟨(some 4), none, .mv (.ns)⟩,
       ⟨(some 5), none, .mv (.i .i64 1)⟩])
     (.ret))
    (.skip)))
  (.seq (.reg [⟨(some 6), none, .mv (.ns)⟩])
   (.seq (.seq (.reg [⟨(some 26), none, .mv (.t 1)⟩,
       ⟨(some 27), none, .mv (.i .i64 0)⟩])
     (.block 0 (.loop (.seq (.reg [⟨(some 28), none, .bin .lss 3 (.t 27) (.t 26)⟩])
        (.seq (.cond (.t 28)
          (.skip)
          (.exit 0))
         (.seq (.block 1 (.seq (.reg [⟨(some 29), none, .mv (.t 27)⟩,
              ⟨(some 7), none, .mv (.t 29)⟩])
            (.seq (.reg [⟨(some 8), none, .mv (.ns)⟩])
             (.seq (.seq (.reg [⟨(some 30), none, .mv (.t 0)⟩,
                 ⟨(some 31), none, .mv (.i .i64 0)⟩])
               (.block 2 (.loop (.seq (.reg [⟨(some 32), none, .bin .lss 3 (.t 31) (.t 30)⟩])
                  (.seq (.cond (.t 32)
                    (.skip)
                    (.exit 2))
                   (.seq (.block 3 (.seq (.reg [⟨(some 33), none, .mv (.t 31)⟩,
                        ⟨(some 9), none, .mv (.t 33)⟩])
                      (.reg [⟨(some 34), none, .mv (.t 8)⟩,
                        ⟨(some 35), none, .mv (.t 7)⟩,
                        ⟨(some 36), none, .cvt 3 5 (.t 35)⟩,
                        ⟨(some 37), none, .mv (.t 1)⟩,
                        ⟨(some 38), none, .mv (.t 9)⟩,
                        ⟨(some 39), none, .bin .add 3 (.t 37) (.t 38)⟩,
                        ⟨(some 40), none, .cvt 3 5 (.t 39)⟩,
                        ⟨(some 41), none, .call (.fn 74) [.t 36, .t 40]⟩,
                        ⟨(some 42), none, .call (.fn 63) [.t 41]⟩,
                        ⟨(some 43), none, .bsl 23 1 [(0, .t 42)]⟩,
                        ⟨(some 44), none, .bi .append [23, 23] [.t 34, .t 43]⟩,
                        ⟨(some 8), none, .mv (.t 44)⟩])))
                    (.reg [⟨(some 45), none, .bin .add 3 (.t 31) (.i .i64 1)⟩,
                      ⟨(some 31), none, .mv (.t 45)⟩])))))))
              (.reg [⟨(some 46), none, .mv (.t 6)⟩,
                ⟨(some 47), none, .mv (.t 8)⟩,
                ⟨(some 48), none, .bsl 22 1 [(0, .t 47)]⟩,
                ⟨(some 49), none, .bi .append [22, 22] [.t 46, .t 48]⟩,
                ⟨(some 6), none, .mv (.t 49)⟩])))))
          (.reg [⟨(some 50), none, .bin .add 3 (.t 27) (.i .i64 1)⟩,
            ⟨(some 27), none, .mv (.t 50)⟩])))))))
    (.seq (.reg [⟨(some 51), none, .mv (.t 6)⟩,
       ⟨(some 4), none, .mv (.t 51)⟩,
       ⟨(some 5), none, .mv (.i .i64 0)⟩])
     (.ret)))))
theorem b37 : Body Try.prog 37 52 [4, 5] k37 := ⟨Enters.of Try.func37 (by kernel_rfl) (by kernel_rfl), _, _, Try.func37, rfl, by kernel_rfl, rfl, rfl⟩

/-- cartridge/cartridgeref1.Cauchy -/
def k38 : KC :=
 .seq (.reg [⟨(some 4), none, .mv (.ns)⟩,
   ⟨(some 5), none, .mv (.i .i64 0)⟩])
 (.seq (.seq (.reg [⟨(some 10), none, .mv (.t 0)⟩,
     ⟨(some 11), none, .bin .lss 3 (.t 10) (.i .i64 1)⟩,
     ⟨(some 12), none, .mv (.t 11)⟩,
     ⟨(some 13), (some (12, false)), .mv (.t 1)⟩,
     ⟨(some 14), (some (12, false)), .bin .lss 3 (.t 13) (.i .i64 1)⟩,
     ⟨(some 15), none, .pk (.t 12) (.b true) (.t 14)⟩,
     ⟨(some 16), none, .mv (.t 15)⟩,
     ⟨(some 17), (some (16, false)), .mv (.t 0)⟩,
     ⟨(some 18), (some (16, false)), .bin .gtr 3 (.t 17) (.i .i64 255)⟩,
     ⟨(some 19), none, .pk (.t 16) (.b true) (.t 18)⟩,
     ⟨(some 20), none, .mv (.t 19)⟩,
     ⟨(some 21), (some (20, false)), .mv (.t 1)⟩,
     ⟨(some 22), (some (20, false)), .bin .gtr 3 (.t 21) (.i .i64 255)⟩,
     ⟨(some 23), none, .pk (.t 20) (.b true) (.t 22)⟩,
     ⟨(some 24), none, .mv (.t 23)⟩,
     ⟨(some 25), (some (24, false)), .mv (.t 0)⟩,
     ⟨(some 26), (some (24, false)), .mv (.t 1)⟩,
     ⟨(some 27), (some (24, false)), .bin .add 3 (.t 25) (.t 26)⟩,
     ⟨(some 28), (some (24, false)), .bin .gtr 3 (.t 27) (.i .i64 255)⟩,
     ⟨(some 29), none, .pk (.t 24) (.b true) (.t 28)⟩])
   (.cond (.t 29)
    (.seq (.reg [⟨(some 4), none, .mv (.ns)⟩,
       ⟨(some 5), none, .mv (.i .i64 1)⟩])
     (.ret))
    (.skip)))
  (.seq (.reg [⟨(some 6), none, .mv (.ns)⟩])
   (.seq (.seq (.reg [⟨(some 7), none, .mv (.i .i64 0)⟩])
     (.block 0 (.loop (.seq (.seq (.reg [⟨(some 30), none, .mv (.t 7)⟩,
           ⟨(some 31), none, .mv (.t 1)⟩,
           ⟨(some 32), none, .bin .lss 3 (.t 30) (.t 31)⟩])
         (.cond (.t 32)
          (.skip)
          (.exit 0)))
        (.seq (.block 1 (.seq (.reg [⟨(some 8), none, .mv (.ns)⟩])
           (.seq (.seq (.reg [⟨(some 9), none, .mv (.i .i64 0)⟩])
             (.block 2 (.loop (.seq (.seq (.reg [⟨(some 35), none, .mv (.t 9)⟩,
                   ⟨(some 36), none, .mv (.t 0)⟩,
                   ⟨(some 37), none, .bin .lss 3 (.t 35) (.t 36)⟩])
                 (.cond (.t 37)
                  (.skip)
                  (.exit 2)))
                (.seq (.block 3 (.reg [⟨(some 40), none, .mv (.t 8)⟩,
                    ⟨(some 41), none, .mv (.t 7)⟩,
                    ⟨(some 42), none, .cvt 3 5 (.t 41)⟩,
                    ⟨(some 43), none, .mv (.t 1)⟩,
                    ⟨(some 44), none, .mv (.t 9)⟩,
                    ⟨(some 45), none, .bin .add 3 (.t 43) (.t 44)⟩,
                    ⟨(some 46), none, .cvt 3 5 (.t 45)⟩,
                    ⟨(some 47), none, .bin .xor 5 (.t 42) (.t 46)⟩,
                    ⟨(some 48), none, .call (.fn 72) [.t 47]⟩,
                    ⟨(some 49), none, .bsl 23 1 [(0, .t 48)]⟩,
                    ⟨(some 50), none, .bi .append [23, 23] [.t 40, .t 49]⟩,
                    ⟨(some 8), none, .mv (.t 50)⟩]))
                 (.reg [⟨(some 38), none, .mv (.t 9)⟩,
                   ⟨(some 39), none, .bin .add 3 (.t 38) (.i .i64 1)⟩,
                   ⟨(some 9), none, .mv (.t 39)⟩]))))))
            (.reg [⟨(some 51), none, .mv (.t 6)⟩,
              ⟨(some 52), none, .mv (.t 8)⟩,
              ⟨(some 53), none, .bsl 22 1 [(0, .t 52)]⟩,
              ⟨(some 54), none, .bi .append [22, 22] [.t 51, .t 53]⟩,
              ⟨(some 6), none, .mv (.t 54)⟩]))))
         (.reg [⟨(some 33), none, .mv (.t 7)⟩,
           ⟨(some 34), none, .bin .add 3 (.t 33) (.i .i64 1)⟩,
           ⟨(some 7), none, .mv (.t 34)⟩]))))))
    (.seq (.reg [⟨(some 55), none, .mv (.t 6)⟩,
       ⟨(some 4), none, .mv (.t 55)⟩,
       ⟨(some 5), none, .mv (.i .i64 0)⟩])
     (.ret)))))
theorem b38 : Body Try.prog 38 56 [4, 5] k38 := ⟨Enters.of Try.func38 (by kernel_rfl) (by kernel_rfl), _, _, Try.func38, rfl, by kernel_rfl, rfl, rfl⟩

/-- cartridge/cartridgelaw2.at -/
def k39 : KC :=
 .seq (.reg [⟨(some 6), none, .mv (.i .i64 0)⟩])
 (.seq (.reg [⟨(some 10), none, .mv (.t 2)⟩,
    ⟨(some 11), none, .mk 101 (.t 10) (.t 10)⟩,
    ⟨(some 7), none, .mv (.t 11)⟩])
  (.seq (.reg [⟨(some 8), none, .mv (.i .i64 0)⟩])
   (.seq (.seq (.reg [⟨(some 9), none, .mv (.i .i64 0)⟩])
     (.block 0 (.loop (.seq (.seq (.reg [⟨(some 12), none, .mv (.t 9)⟩,
           ⟨(some 13), none, .mv (.t 1)⟩,
           ⟨(some 14), none, .bin .leq 3 (.t 12) (.t 13)⟩])
         (.cond (.t 14)
          (.skip)
          (.exit 0)))
        (.seq (.block 1 (.seq (.reg [⟨(some 17), none, .mv (.t 0)⟩,
             ⟨(some 18), none, .mv (.t 9)⟩,
             ⟨(some 19), none, .ia 46 (.t 17) (.t 18)⟩,
             ⟨(some 20), none, .ld 3 (.t 19)⟩,
             ⟨(some 21), none, .bin .and 3 (.t 20) (.i .i64 1023)⟩,
             ⟨(some 22), none, .mv (.t 2)⟩,
             ⟨(some 23), none, .bin .rem 3 (.t 21) (.t 22)⟩,
             ⟨(some 8), none, .mv (.t 23)⟩])
           (.seq (.block 2 (.loop (.seq (.seq (.reg [⟨(some 24), none, .mv (.t 7)⟩,
                  ⟨(some 25), none, .mv (.t 8)⟩,
                  ⟨(some 26), none, .ia 101 (.t 24) (.t 25)⟩,
                  ⟨(some 27), none, .ld 4 (.t 26)⟩])
                (.cond (.t 27)
                 (.skip)
                 (.exit 2)))
               (.block 3 (.reg [⟨(some 28), none, .mv (.t 8)⟩,
                  ⟨(some 29), none, .bin .add 3 (.t 28) (.i .i64 1)⟩,
                  ⟨(some 30), none, .mv (.t 2)⟩,
                  ⟨(some 31), none, .bin .rem 3 (.t 29) (.t 30)⟩,
                  ⟨(some 8), none, .mv (.t 31)⟩])))))
            (.reg [⟨(some 32), none, .mv (.t 7)⟩,
              ⟨(some 33), none, .mv (.t 8)⟩,
              ⟨(some 34), none, .ia 101 (.t 32) (.t 33)⟩,
              ⟨none, none, .st 4 (.t 34) (.b true)⟩]))))
         (.reg [⟨(some 15), none, .mv (.t 9)⟩,
           ⟨(some 16), none, .bin .add 3 (.t 15) (.i .i64 1)⟩,
           ⟨(some 9), none, .mv (.t 16)⟩]))))))
    (.seq (.reg [⟨(some 35), none, .mv (.t 8)⟩,
       ⟨(some 6), none, .mv (.t 35)⟩])
     (.ret)))))
theorem b39 : Body Try.prog 39 36 [6] k39 := ⟨Enters.of Try.func39 (by kernel_rfl) (by kernel_rfl), _, _, Try.func39, rfl, by kernel_rfl, rfl, rfl⟩

/-- cartridge/cartridgelaw24.alive -/
def k40 : KC :=
 .seq (.reg [⟨(some 0), none, .mv (.b false)⟩])
 (.seq (.reg [⟨(some 8), none, .bsl 46 2 [(0, .i .i64 1), (1, .i .i64 2)]⟩,
    ⟨(some 9), none, .call (.fn 41) [.t 8, .i .i64 1]⟩,
    ⟨(some 7), none, .mv (.t 9)⟩,
    ⟨(some 10), none, .ex (.t 7) 0⟩,
    ⟨(some 11), none, .ex (.t 7) 1⟩,
    ⟨(some 1), none, .mv (.t 10)⟩,
    ⟨(some 2), none, .mv (.t 11)⟩])
  (.seq (.seq (.reg [⟨(some 12), none, .mv (.t 2)⟩,
      ⟨(some 13), none, .call (.fn 42) [.t 12]⟩,
      ⟨(some 14), none, .bin .neq 3 (.t 13) (.i .i64 0)⟩,
      ⟨(some 15), none, .mv (.t 14)⟩,
      ⟨(some 16), (some (15, false)), .mv (.t 1)⟩,
      ⟨(some 17), (some (15, false)), .bin .eql 64 (.t 16) (.np)⟩,
      ⟨(some 18), none, .pk (.t 15) (.b true) (.t 17)⟩])
    (.cond (.t 18)
     (.seq (.reg [⟨(some 0), none, .mv (.b false)⟩])
      (.ret))
     (.skip)))
   (.seq (.reg [⟨(some 20), none, .mv (.t 1)⟩,
      ⟨(some 21), none, .call (.fn 43) [.t 20, .ns, .i .i64 0]⟩,
      ⟨(some 19), none, .mv (.t 21)⟩,
      ⟨(some 22), none, .ex (.t 19) 0⟩,
      ⟨(some 23), none, .ex (.t 19) 1⟩,
      ⟨(some 3), none, .mv (.t 22)⟩,
      ⟨(some 4), none, .mv (.t 23)⟩])
    (.seq (.reg [⟨(some 25), none, .mv (.t 1)⟩,
       ⟨(some 26), none, .bsl 46 1 [(0, .i .i64 2)]⟩,
       ⟨(some 27), none, .call (.fn 43) [.t 25, .t 26, .i .i64 0]⟩,
       ⟨(some 24), none, .mv (.t 27)⟩,
       ⟨(some 28), none, .ex (.t 24) 0⟩,
       ⟨(some 29), none, .ex (.t 24) 1⟩,
       ⟨(some 5), none, .mv (.t 28)⟩,
       ⟨(some 6), none, .mv (.t 29)⟩])
     (.seq (.reg [⟨(some 30), none, .mv (.t 3)⟩,
        ⟨(some 31), none, .bin .eql 3 (.t 30) (.i .i64 0)⟩,
        ⟨(some 32), none, .mv (.t 31)⟩,
        ⟨(some 33), (some (32, true)), .mv (.t 4)⟩,
        ⟨(some 34), (some (32, true)), .call (.fn 42) [.t 33]⟩,
        ⟨(some 35), (some (32, true)), .bin .eql 3 (.t 34) (.i .i64 0)⟩,
        ⟨(some 36), none, .pk (.t 32) (.t 35) (.b false)⟩,
        ⟨(some 37), none, .mv (.t 36)⟩,
        ⟨(some 38), (some (37, true)), .mv (.t 5)⟩,
        ⟨(some 39), (some (37, true)), .bin .eql 3 (.t 38) (.i .i64 2)⟩,
        ⟨(some 40), none, .pk (.t 37) (.t 39) (.b false)⟩,
        ⟨(some 41), none, .mv (.t 40)⟩,
        ⟨(some 42), (some (41, true)), .mv (.t 6)⟩,
        ⟨(some 43), (some (41, true)), .call (.fn 42) [.t 42]⟩,
        ⟨(some 44), (some (41, true)), .bin .eql 3 (.t 43) (.i .i64 0)⟩,
        ⟨(some 45), none, .pk (.t 41) (.t 44) (.b false)⟩,
        ⟨(some 46), none, .mv (.t 45)⟩,
        ⟨(some 47), (some (46, true)), .mv (.t 1)⟩,
        ⟨(some 48), (some (46, true)), .call (.fn 52) [.t 47, .i .i64 0]⟩,
        ⟨(some 49), (some (46, true)), .bin .eql 3 (.t 48) (.i .i64 2)⟩,
        ⟨(some 50), none, .pk (.t 46) (.t 49) (.b false)⟩,
        ⟨(some 0), none, .mv (.t 50)⟩])
      (.ret))))))
theorem b40 : Body Try.prog 40 51 [0] k40 := ⟨Enters.of Try.func40 (by kernel_rfl) (by kernel_rfl), _, _, Try.func40, rfl, by kernel_rfl, rfl, rfl⟩

/-- cartridge/robot.New -/
def k41 : KC :=
 .seq (.reg [⟨(some 4), none, .mv (.np)⟩,
   ⟨(some 5), none, .mv (.i .i64 0)⟩])
 (.seq (.reg [⟨(some 9), none, .mv (.t 0)⟩,
    ⟨(some 10), none, .mv (.t 1)⟩,
    ⟨(some 11), none, .call (.fn 75) [.t 9, .t 10]⟩,
    ⟨(some 8), none, .mv (.t 11)⟩,
    ⟨(some 12), none, .ex (.t 8) 0⟩,
    ⟨(some 13), none, .ex (.t 8) 1⟩,
    ⟨(some 6), none, .mv (.t 12)⟩,
    ⟨(some 7), none, .mv (.t 13)⟩])
  (.seq (.seq (.reg [⟨(some 14), none, .mv (.t 7)⟩,
      ⟨(some 15), none, .bin .neq 26 (.t 14) (.i .i64 0)⟩])
    (.cond (.t 15)
     (.seq (.reg [⟨(some 16), none, .mv (.t 7)⟩,
        ⟨(some 4), none, .mv (.np)⟩,
        ⟨(some 5), none, .mv (.t 16)⟩])
      (.ret))
     (.skip)))
   (.seq (.reg [⟨(some 17), none, .mv (.t 6)⟩,
      ⟨(some 18), none, .mv (.t 1)⟩,
      ⟨(some 19), none, .mv (.t 0)⟩,
      ⟨(some 20), none, .call (.fn 76) [.t 19]⟩,
      ⟨(some 21), none, .bld 109 [(0, .t 17), (1, .t 18), (2, .t 20)]⟩,
      ⟨(some 22), none, .box 109 (.t 21)⟩,
      ⟨(some 4), none, .mv (.t 22)⟩,
      ⟨(some 5), none, .mv (.i .i64 0)⟩])
    (.ret))))
theorem b41 : Body Try.prog 41 23 [4, 5] k41 := ⟨Enters.of Try.func41 (by kernel_rfl) (by kernel_rfl), _, _, Try.func41, rfl, by kernel_rfl, rfl, rfl⟩

/-- cartridge/cartridgelaw24.num -/
def k42 : KC :=
 .seq (.reg [⟨(some 2), none, .mv (.i .i64 0)⟩])
 (.seq (.reg [⟨(some 3), none, .mv (.t 0)⟩,
    ⟨(some 2), none, .mv (.t 3)⟩])
  (.ret))
theorem b42 : Body Try.prog 42 4 [2] k42 := ⟨Enters.of Try.func42 (by kernel_rfl) (by kernel_rfl), _, _, Try.func42, rfl, by kernel_rfl, rfl, rfl⟩

/-- (*cartridge/robot.Robot).Serve -/
def k43 : KC :=
 .seq (.reg [⟨(some 3), none, .box 64 (.t 0)⟩,
   ⟨(some 6), none, .mv (.i .i64 0)⟩,
   ⟨(some 7), none, .mv (.i .i64 0)⟩])
 (.seq (.seq (.reg [⟨(some 13), none, .ld 64 (.t 3)⟩,
     ⟨(some 14), none, .bin .eql 64 (.t 13) (.np)⟩,
     ⟨(some 15), none, .mv (.t 14)⟩,
     ⟨(some 16), (some (15, false)), .mv (.t 1)⟩,
     ⟨(some 17), (some (15, false)), .mf 78 [.t 3]⟩,
     ⟨(some 18), (some (15, false)), .call (.fn 77) [.t 16, .t 17]⟩,
     ⟨(some 19), none, .pk (.t 15) (.b true) (.t 18)⟩])
   (.cond (.t 19)
    (.seq (.reg [⟨(some 6), none, .mv (.i .i64 0)⟩,
       ⟨(some 7), none, .mv (.i .i64 1)⟩])
     (.ret))
    (.skip)))
  (.seq (.seq (.reg [⟨(some 20), none, .mv (.t 1)⟩,
      ⟨(some 21), none, .bi .len [46] [.t 20]⟩,
      ⟨(some 22), none, .mv (.i .i64 0)⟩])
    (.block 0 (.loop (.seq (.reg [⟨(some 23), none, .bin .lss 3 (.t 22) (.t 21)⟩])
       (.seq (.cond (.t 23)
         (.skip)
         (.exit 0))
        (.seq (.block 1 (.seq (.reg [⟨(some 24), none, .ia 46 (.t 20) (.t 22)⟩,
             ⟨(some 25), none, .ld 3 (.t 24)⟩,
             ⟨(some 9), none, .mv (.t 25)⟩])
           (.reg [⟨(some 26), none, .ld 64 (.t 3)⟩,
             ⟨(some 27), none, .nc (.t 26)⟩,
             ⟨(some 28), none, .fa 109 (.t 27) 3⟩,
             ⟨(some 29), none, .mv (.t 9)⟩,
             ⟨(some 30), none, .call (.fn 80) [.t 28, .t 29]⟩])))
         (.reg [⟨(some 31), none, .bin .add 3 (.t 22) (.i .i64 1)⟩,
           ⟨(some 22), none, .mv (.t 31)⟩])))))))
   (.seq (.reg [⟨(some 10), none, .mv (.i .i64 0)⟩])
    (.seq (.reg [⟨(some 32), none, .mv (.t 2)⟩,
       ⟨(some 33), none, .bi .min [3, 3] [.t 32, .i .i64 1000]⟩,
       ⟨(some 34), none, .bi .max [3, 3] [.i .i64 0, .t 33]⟩,
       ⟨(some 2), none, .mv (.t 34)⟩])
     (.seq (.block 2 (.loop (.seq (.seq (.reg [⟨(some 35), none, .ld 64 (.t 3)⟩,
            ⟨(some 36), none, .call (.fn 44) [.t 35]⟩,
            ⟨(some 37), none, .bin .gtr 3 (.t 36) (.i .i64 0)⟩])
          (.cond (.t 37)
           (.skip)
           (.exit 2)))
         (.block 3 (.seq (.seq (.reg [⟨(some 39), none, .ld 64 (.t 3)⟩,
              ⟨(some 40), none, .call (.fn 81) [.t 39]⟩,
              ⟨(some 38), none, .mv (.t 40)⟩,
              ⟨(some 41), none, .ex (.t 38) 0⟩,
              ⟨(some 42), none, .ex (.t 38) 1⟩,
              ⟨(some 11), none, .mv (.t 41)⟩,
              ⟨(some 12), none, .mv (.t 42)⟩])
            (.seq (.reg [⟨(some 43), none, .mv (.t 12)⟩,
               ⟨(some 44), none, .un .not (.t 43)⟩])
             (.cond (.t 44)
              (.seq (.reg [⟨(some 45), none, .mv (.t 10)⟩,
                 ⟨(some 46), none, .mv (.t 2)⟩,
                 ⟨(some 47), none, .bin .add 3 (.t 45) (.t 46)⟩,
                 ⟨(some 10), none, .mv (.t 47)⟩])
               (.reg [⟨(some 2), none, .mv (.i .i64 0)⟩]))
              (.skip))))
           (.seq (.reg [⟨(some 48), none, .ld 64 (.t 3)⟩,
              ⟨(some 49), none, .call (.fn 48) [.t 48, .b false]⟩])
            (.reg [⟨(some 50), none, .mv (.t 10)⟩,
              ⟨(some 51), none, .bin .add 3 (.t 50) (.i .i64 1)⟩,
              ⟨(some 10), none, .mv (.t 51)⟩])))))))
      (.seq (.reg [⟨(some 52), none, .mv (.t 10)⟩,
         ⟨(some 6), none, .mv (.t 52)⟩,
         ⟨(some 7), none, .mv (.i .i64 0)⟩])
       (.ret)))))))
theorem b43 : Body Try.prog 43 53 [6, 7] k43 := ⟨Enters.of Try.func43 (by kernel_rfl) (by kernel_rfl), _, _, Try.func43, rfl, by kernel_rfl, rfl, rfl⟩

/-- (*cartridge/robot.Robot).Waiting -/
def k44 : KC :=
 .seq (.reg [⟨(some 2), none, .mv (.i .i64 0)⟩])
 (.seq (.seq (.reg [⟨(some 3), none, .mv (.t 0)⟩,
     ⟨(some 4), none, .bin .eql 64 (.t 3) (.np)⟩])
   (.cond (.t 4)
    (.seq (.reg [⟨(some 2), none, .mv (.i .i64 0)⟩])
     (.ret))
    (.skip)))
  (.seq (.reg [⟨(some 5), none, .mv (.t 0)⟩,
     ⟨(some 6), none, .nc (.t 5)⟩,
     ⟨(some 7), none, .fa 109 (.t 6) 3⟩,
     ⟨(some 8), none, .call (.fn 82) [.t 7]⟩,
     ⟨(some 2), none, .mv (.t 8)⟩])
   (.ret)))
theorem b44 : Body Try.prog 44 9 [2] k44 := ⟨Enters.of Try.func44 (by kernel_rfl) (by kernel_rfl), _, _, Try.func44, rfl, by kernel_rfl, rfl, rfl⟩

/-- cartridge/cartridgeref22.NewRobot -/
def k45 : KC :=
 .seq (.reg [⟨(some 4), none, .mv (.np)⟩,
   ⟨(some 5), none, .mv (.i .i64 0)⟩])
 (.seq (.reg [⟨(some 9), none, .mv (.t 0)⟩,
    ⟨(some 10), none, .mv (.t 1)⟩,
    ⟨(some 11), none, .call (.fn 83) [.t 9, .t 10]⟩,
    ⟨(some 8), none, .mv (.t 11)⟩,
    ⟨(some 12), none, .ex (.t 8) 0⟩,
    ⟨(some 13), none, .ex (.t 8) 1⟩,
    ⟨(some 6), none, .mv (.t 12)⟩,
    ⟨(some 7), none, .mv (.t 13)⟩])
  (.seq (.seq (.reg [⟨(some 14), none, .mv (.t 7)⟩,
      ⟨(some 15), none, .bin .neq 3 (.t 14) (.i .i64 0)⟩])
    (.cond (.t 15)
     (.seq (.reg [⟨(some 16), none, .mv (.t 7)⟩,
        ⟨(some 4), none, .mv (.np)⟩,
        ⟨(some 5), none, .mv (.t 16)⟩])
      (.ret))
     (.skip)))
   (.seq (.reg [⟨(some 17), none, .mv (.t 6)⟩,
      ⟨(some 18), none, .bld 84 [(0, .t 17)]⟩,
      ⟨(some 19), none, .box 84 (.t 18)⟩,
      ⟨(some 4), none, .mv (.t 19)⟩,
      ⟨(some 5), none, .mv (.i .i64 0)⟩])
    (.ret))))
theorem b45 : Body Try.prog 45 20 [4, 5] k45 := ⟨Enters.of Try.func45 (by kernel_rfl) (by kernel_rfl), _, _, Try.func45, rfl, by kernel_rfl, rfl, rfl⟩

/-- (*cartridge/robot.Robot).Ask -/
def k46 : KC :=
 .seq (.reg [⟨(some 4), none, .mv (.i .i64 0)⟩])
 (.seq (.seq (.reg [⟨(some 5), none, .mv (.t 0)⟩,
     ⟨(some 6), none, .mv (.t 1)⟩,
     ⟨(some 7), none, .call (.fn 79) [.t 5, .t 6]⟩,
     ⟨(some 8), none, .un .not (.t 7)⟩])
   (.cond (.t 8)
    (.seq (.reg [⟨(some 4), none, .mv (.i .i64 1)⟩])
     (.ret))
    (.skip)))
  (.seq (.reg [⟨(some 9), none, .mv (.t 0)⟩,
     ⟨(some 10), none, .nc (.t 9)⟩,
     ⟨(some 11), none, .fa 109 (.t 10) 3⟩,
     ⟨(some 12), none, .mv (.t 1)⟩,
     ⟨(some 13), none, .call (.fn 80) [.t 11, .t 12]⟩])
   (.seq (.reg [⟨(some 4), none, .mv (.i .i64 0)⟩])
    (.ret))))
theorem b46 : Body Try.prog 46 14 [4] k46 := ⟨Enters.of Try.func46 (by kernel_rfl) (by kernel_rfl), _, _, Try.func46, rfl, by kernel_rfl, rfl, rfl⟩

/-- (*cartridge/cartridgeref22.Robot).Ask -/
def k47 : KC :=
 .seq (.reg [⟨(some 4), none, .mv (.i .i64 0)⟩])
 (.seq (.seq (.reg [⟨(some 5), none, .mv (.t 0)⟩,
     ⟨(some 6), none, .nc (.t 5)⟩,
     ⟨(some 7), none, .fa 84 (.t 6) 0⟩,
     ⟨(some 8), none, .ld 82 (.t 7)⟩,
     ⟨(some 9), none, .mv (.t 1)⟩,
     ⟨(some 10), none, .call (.fn 84) [.t 8, .t 9]⟩,
     ⟨(some 11), none, .bin .lss 3 (.t 10) (.i .i64 0)⟩])
   (.cond (.t 11)
    (.seq (.reg [⟨(some 4), none, .mv (.i .i64 1)⟩])
     (.ret))
    (.skip)))
  (.seq (.reg [⟨(some 12), none, .mv (.t 0)⟩,
     ⟨(some 13), none, .mv (.t 0)⟩,
     ⟨(some 14), none, .nc (.t 13)⟩,
     ⟨(some 15), none, .fa 84 (.t 14) 1⟩,
     ⟨(some 16), none, .ld 46 (.t 15)⟩,
     ⟨(some 17), none, .mv (.t 1)⟩,
     ⟨(some 18), none, .bsl 46 1 [(0, .t 17)]⟩,
     ⟨(some 19), none, .bi .append [46, 46] [.t 16, .t 18]⟩,
     ⟨(some 20), none, .nc (.t 12)⟩,
     ⟨(some 21), none, .fa 84 (.t 20) 1⟩,
     ⟨none, none, .st 46 (.t 21) (.t 19)⟩])
   (.seq (.reg [⟨(some 4), none, .mv (.i .i64 0)⟩])
    (.ret))))
theorem b47 : Body Try.prog 47 22 [4] k47 := ⟨Enters.of Try.func47 (by kernel_rfl) (by kernel_rfl), _, _, Try.func47, rfl, by kernel_rfl, rfl, rfl⟩

/-- (*cartridge/robot.Robot).Step -/
def k48 : KC :=
 .seq (.reg [⟨(some 4), none, .mv (.b false)⟩])
 (.seq (.seq (.reg [⟨(some 7), none, .mv (.t 0)⟩,
     ⟨(some 8), none, .call (.fn 44) [.t 7]⟩,
     ⟨(some 9), none, .bin .eql 3 (.t 8) (.i .i64 0)⟩])
   (.cond (.t 9)
    (.seq (.reg [⟨(some 4), none, .mv (.b false)⟩])
     (.ret))
    (.skip)))
  (.seq (.seq (.reg [⟨(some 11), none, .mv (.t 0)⟩,
      ⟨(some 12), none, .call (.fn 81) [.t 11]⟩,
      ⟨(some 10), none, .mv (.t 12)⟩,
      ⟨(some 13), none, .ex (.t 10) 0⟩,
      ⟨(some 14), none, .ex (.t 10) 1⟩,
      ⟨(some 5), none, .mv (.t 13)⟩,
      ⟨(some 6), none, .mv (.t 14)⟩])
    (.seq (.reg [⟨(some 15), none, .mv (.t 6)⟩])
     (.cond (.t 15)
      (.seq (.reg [⟨(some 16), none, .mv (.t 0)⟩,
         ⟨(some 17), none, .nc (.t 16)⟩,
         ⟨(some 18), none, .fa 109 (.t 17) 3⟩,
         ⟨(some 19), none, .mv (.t 5)⟩,
         ⟨(some 20), none, .call (.fn 85) [.t 18, .t 19]⟩])
       (.seq (.reg [⟨(some 4), none, .mv (.b true)⟩])
        (.ret)))
      (.skip))))
   (.seq (.seq (.reg [⟨(some 21), none, .mv (.t 1)⟩,
       ⟨(some 22), none, .un .not (.t 21)⟩])
     (.cond (.t 22)
      (.reg [⟨(some 23), none, .mv (.t 0)⟩,
        ⟨(some 24), none, .call (.fn 86) [.t 23]⟩])
      (.skip)))
    (.seq (.reg [⟨(some 4), none, .mv (.b true)⟩])
     (.ret)))))
theorem b48 : Body Try.prog 48 25 [4] k48 := ⟨Enters.of Try.func48 (by kernel_rfl) (by kernel_rfl), _, _, Try.func48, rfl, by kernel_rfl, rfl, rfl⟩

/-- (*cartridge/cartridgeref22.Robot).Step -/
noncomputable def drw49_0 : Array Oper := ((Try.f49.body.map regs).getD []).getD 0 #[]
noncomputable def drw49_1 : Array Oper := ((Try.f49.body.map regs).getD []).getD 1 #[]
noncomputable def drw49_2 : Array Oper := ((Try.f49.body.map regs).getD []).getD 2 #[]
noncomputable def k49 : KC :=
 .seq (.reg [⟨(some 4), none, .mv (.b false)⟩])
 (.seq (.seq (.reg [⟨(some 9), none, .mv (.t 0)⟩,
     ⟨(some 10), none, .nc (.t 9)⟩,
     ⟨(some 11), none, .fa 84 (.t 10) 1⟩,
     ⟨(some 12), none, .ld 46 (.t 11)⟩,
     ⟨(some 13), none, .bi .len [46] [.t 12]⟩,
     ⟨(some 14), none, .bin .eql 3 (.t 13) (.i .i64 0)⟩])
   (.cond (.t 14)
    (.seq (.reg [⟨(some 4), none, .mv (.b false)⟩])
     (.ret))
    (.skip)))
  (.seq (.seq (.reg [⟨(some 5), none, .mv (.i .i64 0)⟩])
    (.block 0 (.loop (.seq (.seq (.reg [⟨(some 15), none, .mv (.t 5)⟩,
          ⟨(some 16), none, .mv (.t 0)⟩,
          ⟨(some 17), none, .nc (.t 16)⟩,
          ⟨(some 18), none, .fa 84 (.t 17) 0⟩,
          ⟨(some 19), none, .ld 82 (.t 18)⟩,
          ⟨(some 20), none, .nc (.t 19)⟩,
          ⟨(some 21), none, .fa 118 (.t 20) 2⟩,
          ⟨(some 22), none, .ld 46 (.t 21)⟩,
          ⟨(some 23), none, .bi .len [46] [.t 22]⟩,
          ⟨(some 24), none, .bin .lss 3 (.t 15) (.t 23)⟩])
        (.cond (.t 24)
         (.skip)
         (.exit 0)))
       (.seq (.block 1 (.seq (.seq (.reg [⟨(some 27), none, .mv (.t 0)⟩,
             ⟨(some 28), none, .nc (.t 27)⟩,
             ⟨(some 29), none, .fa 84 (.t 28) 0⟩,
             ⟨(some 30), none, .ld 82 (.t 29)⟩,
             ⟨(some 31), none, .nc (.t 30)⟩,
             ⟨(some 32), none, .fa 118 (.t 31) 2⟩,
             ⟨(some 33), none, .ld 46 (.t 32)⟩,
             ⟨(some 34), none, .mv (.t 5)⟩,
             ⟨(some 35), none, .ia 46 (.t 33) (.t 34)⟩,
             ⟨(some 36), none, .ld 3 (.t 35)⟩,
             ⟨(some 37), none, .bin .eql 3 (.t 36) (.i .i64 0)⟩,
             ⟨(some 38), none, .mv (.t 37)⟩,
             ⟨(some 39), (some (38, false)), .mv (.t 0)⟩,
             ⟨(some 40), (some (38, false)), .mv (.t 0)⟩,
             ⟨(some 41), (some (38, false)), .nc (.t 40)⟩,
             ⟨(some 42), (some (38, false)), .fa 84 (.t 41) 0⟩,
             ⟨(some 43), (some (38, false)), .ld 82 (.t 42)⟩,
             ⟨(some 44), (some (38, false)), .nc (.t 43)⟩,
             ⟨(some 45), (some (38, false)), .fa 118 (.t 44) 2⟩,
             ⟨(some 46), (some (38, false)), .ld 46 (.t 45)⟩,
             ⟨(some 47), (some (38, false)), .mv (.t 5)⟩,
             ⟨(some 48), (some (38, false)), .ia 46 (.t 46) (.t 47)⟩,
             ⟨(some 49), (some (38, false)), .ld 3 (.t 48)⟩,
             ⟨(some 50), (some (38, false)), .call (.fn 87) [.t 39, .t 49]⟩,
             ⟨(some 51), (some (38, false)), .un .not (.t 50)⟩,
             ⟨(some 52), none, .pk (.t 38) (.b true) (.t 51)⟩])
           (.cond (.t 52)
            (.exit 1)
            (.skip)))
          (.seq (.reg [⟨(some 6), none, .mv (.ns)⟩])
           (.seq (.seq (.reg [⟨(some 7), none, .mv (.i .i64 0)⟩])
             (.block 2 (.loop (.seq (.seq (.reg [⟨(some 53), none, .mv (.t 7)⟩,
                   ⟨(some 54), none, .mv (.t 0)⟩,
                   ⟨(some 55), none, .nc (.t 54)⟩,
                   ⟨(some 56), none, .fa 84 (.t 55) 1⟩,
                   ⟨(some 57), none, .ld 46 (.t 56)⟩,
                   ⟨(some 58), none, .bi .len [46] [.t 57]⟩,
                   ⟨(some 59), none, .bin .lss 3 (.t 53) (.t 58)⟩])
                 (.cond (.t 59)
                  (.skip)
                  (.exit 2)))
                (.seq (.block 3 (.seq (.drw drw49_0 [⟨(some 62), none, .mv (.t 0)⟩,
                     ⟨(some 63), none, .nc (.t 62)⟩,
                     ⟨(some 64), none, .fa 84 (.t 63) 1⟩,
                     ⟨(some 65), none, .ld 46 (.t 64)⟩,
                     ⟨(some 66), none, .mv (.t 7)⟩,
                     ⟨(some 67), none, .ia 46 (.t 65) (.t 66)⟩,
                     ⟨(some 68), none, .ld 3 (.t 67)⟩,
                     ⟨(some 69), none, .mv (.t 0)⟩,
                     ⟨(some 70), none, .nc (.t 69)⟩,
                     ⟨(some 71), none, .fa 84 (.t 70) 0⟩,
                     ⟨(some 72), none, .ld 82 (.t 71)⟩,
                     ⟨(some 73), none, .nc (.t 72)⟩,
                     ⟨(some 74), none, .fa 118 (.t 73) 2⟩,
                     ⟨(some 75), none, .ld 46 (.t 74)⟩,
                     ⟨(some 76), none, .mv (.t 5)⟩,
                     ⟨(some 77), none, .ia 46 (.t 75) (.t 76)⟩,
                     ⟨(some 78), none, .ld 3 (.t 77)⟩,
                     ⟨(some 79), none, .bin .neq 3 (.t 68) (.t 78)⟩])
                   (.cond (.t 79)
                    (.reg [⟨(some 80), none, .mv (.t 6)⟩,
                      ⟨(some 81), none, .mv (.t 0)⟩,
                      ⟨(some 82), none, .nc (.t 81)⟩,
                      ⟨(some 83), none, .fa 84 (.t 82) 1⟩,
                      ⟨(some 84), none, .ld 46 (.t 83)⟩,
                      ⟨(some 85), none, .mv (.t 7)⟩,
                      ⟨(some 86), none, .ia 46 (.t 84) (.t 85)⟩,
                      ⟨(some 87), none, .ld 3 (.t 86)⟩,
                      ⟨(some 88), none, .bsl 46 1 [(0, .t 87)]⟩,
                      ⟨(some 89), none, .bi .append [46, 46] [.t 80, .t 88]⟩,
                      ⟨(some 6), none, .mv (.t 89)⟩])
                    (.skip))))
                 (.reg [⟨(some 60), none, .mv (.t 7)⟩,
                   ⟨(some 61), none, .bin .add 3 (.t 60) (.i .i64 1)⟩,
                   ⟨(some 7), none, .mv (.t 61)⟩]))))))
            (.seq (.reg [⟨(some 90), none, .mv (.t 0)⟩,
               ⟨(some 91), none, .mv (.t 6)⟩,
               ⟨(some 92), none, .nc (.t 90)⟩,
               ⟨(some 93), none, .fa 84 (.t 92) 1⟩,
               ⟨none, none, .st 46 (.t 93) (.t 91)⟩])
             (.seq (.reg [⟨(some 4), none, .mv (.b true)⟩])
              (.ret)))))))
        (.reg [⟨(some 25), none, .mv (.t 5)⟩,
          ⟨(some 26), none, .bin .add 3 (.t 25) (.i .i64 1)⟩,
          ⟨(some 5), none, .mv (.t 26)⟩]))))))
   (.seq (.seq (.reg [⟨(some 94), none, .mv (.t 1)⟩])
     (.cond (.t 94)
      (.seq (.reg [⟨(some 4), none, .mv (.b true)⟩])
       (.ret))
      (.skip)))
    (.seq (.seq (.reg [⟨(some 8), none, .mv (.i .i64 0)⟩])
      (.block 4 (.loop (.seq (.seq (.reg [⟨(some 95), none, .mv (.t 8)⟩,
            ⟨(some 96), none, .mv (.t 0)⟩,
            ⟨(some 97), none, .nc (.t 96)⟩,
            ⟨(some 98), none, .fa 84 (.t 97) 0⟩,
            ⟨(some 99), none, .ld 82 (.t 98)⟩,
            ⟨(some 100), none, .nc (.t 99)⟩,
            ⟨(some 101), none, .fa 118 (.t 100) 2⟩,
            ⟨(some 102), none, .ld 46 (.t 101)⟩,
            ⟨(some 103), none, .bi .len [46] [.t 102]⟩,
            ⟨(some 104), none, .bin .lss 3 (.t 95) (.t 103)⟩])
          (.cond (.t 104)
           (.skip)
           (.exit 4)))
         (.seq (.block 5 (.seq (.reg [⟨(some 107), none, .mv (.t 0)⟩,
              ⟨(some 108), none, .nc (.t 107)⟩,
              ⟨(some 109), none, .fa 84 (.t 108) 0⟩,
              ⟨(some 110), none, .ld 82 (.t 109)⟩,
              ⟨(some 111), none, .nc (.t 110)⟩,
              ⟨(some 112), none, .fa 118 (.t 111) 2⟩,
              ⟨(some 113), none, .ld 46 (.t 112)⟩,
              ⟨(some 114), none, .mv (.t 8)⟩,
              ⟨(some 115), none, .ia 46 (.t 113) (.t 114)⟩,
              ⟨(some 116), none, .ld 3 (.t 115)⟩,
              ⟨(some 117), none, .bin .eql 3 (.t 116) (.i .i64 0)⟩])
            (.cond (.t 117)
             (.seq (.drw drw49_1 [⟨(some 118), none, .mv (.t 0)⟩,
                ⟨(some 119), none, .nc (.t 118)⟩,
                ⟨(some 120), none, .fa 84 (.t 119) 0⟩,
                ⟨(some 121), none, .ld 82 (.t 120)⟩,
                ⟨(some 122), none, .mv (.t 0)⟩,
                ⟨(some 123), none, .nc (.t 122)⟩,
                ⟨(some 124), none, .fa 84 (.t 123) 1⟩,
                ⟨(some 125), none, .ld 46 (.t 124)⟩,
                ⟨(some 126), none, .ia 46 (.t 125) (.i .i64 0)⟩,
                ⟨(some 127), none, .ld 3 (.t 126)⟩,
                ⟨(some 128), none, .mv (.t 8)⟩,
                ⟨(some 129), none, .call (.fn 88) [.t 121, .t 127, .t 128]⟩])
              (.seq (.reg [⟨(some 130), none, .mv (.t 0)⟩,
                 ⟨(some 131), none, .mv (.t 0)⟩,
                 ⟨(some 132), none, .nc (.t 131)⟩,
                 ⟨(some 133), none, .fa 84 (.t 132) 2⟩,
                 ⟨(some 134), none, .ld 46 (.t 133)⟩,
                 ⟨(some 135), none, .mv (.t 8)⟩,
                 ⟨(some 136), none, .bsl 46 1 [(0, .t 135)]⟩,
                 ⟨(some 137), none, .bi .append [46, 46] [.t 134, .t 136]⟩,
                 ⟨(some 138), none, .nc (.t 130)⟩,
                 ⟨(some 139), none, .fa 84 (.t 138) 2⟩,
                 ⟨none, none, .st 46 (.t 139) (.t 137)⟩])
               (.seq (.reg [⟨(some 4), none, .mv (.b true)⟩])
                (.ret))))
             (.skip))))
          (.reg [⟨(some 105), none, .mv (.t 8)⟩,
            ⟨(some 106), none, .bin .add 3 (.t 105) (.i .i64 1)⟩,
            ⟨(some 8), none, .mv (.t 106)⟩]))))))
     (.seq (.drw drw49_2 [⟨(some 140), none, .mv (.t 0)⟩,
        ⟨(some 141), none, .nc (.t 140)⟩,
        ⟨(some 142), none, .fa 84 (.t 141) 0⟩,
        ⟨(some 143), none, .ld 82 (.t 142)⟩,
        ⟨(some 144), none, .mv (.t 0)⟩,
        ⟨(some 145), none, .nc (.t 144)⟩,
        ⟨(some 146), none, .fa 84 (.t 145) 2⟩,
        ⟨(some 147), none, .ld 46 (.t 146)⟩,
        ⟨(some 148), none, .ia 46 (.t 147) (.i .i64 0)⟩,
        ⟨(some 149), none, .ld 3 (.t 148)⟩,
        ⟨(some 150), none, .call (.fn 89) [.t 143, .t 149]⟩])
      (.seq (.reg [⟨(some 151), none, .mv (.t 0)⟩,
         ⟨(some 152), none, .mv (.t 0)⟩,
         ⟨(some 153), none, .nc (.t 152)⟩,
         ⟨(some 154), none, .fa 84 (.t 153) 2⟩,
         ⟨(some 155), none, .ld 46 (.t 154)⟩,
         ⟨(some 156), none, .sli 46 (.t 155) (some (.i .i64 1)) none none⟩,
         ⟨(some 157), none, .bi .append [46, 46] [.ns, .t 156]⟩,
         ⟨(some 158), none, .nc (.t 151)⟩,
         ⟨(some 159), none, .fa 84 (.t 158) 2⟩,
         ⟨none, none, .st 46 (.t 159) (.t 157)⟩])
       (.seq (.reg [⟨(some 4), none, .mv (.b true)⟩])
        (.ret))))))))
theorem b49 : Body Try.prog 49 160 [4] k49 := ⟨Enters.of Try.func49 (by kernel_rfl) (by kernel_rfl), _, _, Try.func49, rfl, by kernel_rfl, rfl, rfl⟩

/-- (*cartridge/cartridgeref22.Robot).Serve -/
noncomputable def drw50_0 : Array Oper := ((Try.f50.body.map regs).getD []).getD 0 #[]
noncomputable def k50 : KC :=
 .seq (.reg [⟨(some 6), none, .mv (.i .i64 0)⟩,
   ⟨(some 7), none, .mv (.i .i64 0)⟩])
 (.seq (.seq (.reg [⟨(some 8), none, .mv (.i .i64 0)⟩])
   (.block 0 (.loop (.seq (.seq (.reg [⟨(some 11), none, .mv (.t 8)⟩,
         ⟨(some 12), none, .mv (.t 1)⟩,
         ⟨(some 13), none, .bi .len [46] [.t 12]⟩,
         ⟨(some 14), none, .bin .lss 3 (.t 11) (.t 13)⟩])
       (.cond (.t 14)
        (.skip)
        (.exit 0)))
      (.seq (.block 1 (.seq (.drw drw50_0 [⟨(some 17), none, .mv (.t 0)⟩,
           ⟨(some 18), none, .nc (.t 17)⟩,
           ⟨(some 19), none, .fa 84 (.t 18) 0⟩,
           ⟨(some 20), none, .ld 82 (.t 19)⟩,
           ⟨(some 21), none, .mv (.t 1)⟩,
           ⟨(some 22), none, .mv (.t 8)⟩,
           ⟨(some 23), none, .ia 46 (.t 21) (.t 22)⟩,
           ⟨(some 24), none, .ld 3 (.t 23)⟩,
           ⟨(some 25), none, .call (.fn 84) [.t 20, .t 24]⟩,
           ⟨(some 26), none, .bin .lss 3 (.t 25) (.i .i64 0)⟩])
         (.cond (.t 26)
          (.seq (.reg [⟨(some 6), none, .mv (.i .i64 0)⟩,
             ⟨(some 7), none, .mv (.i .i64 1)⟩])
           (.ret))
          (.skip))))
       (.reg [⟨(some 15), none, .mv (.t 8)⟩,
         ⟨(some 16), none, .bin .add 3 (.t 15) (.i .i64 1)⟩,
         ⟨(some 8), none, .mv (.t 16)⟩]))))))
  (.seq (.reg [⟨(some 27), none, .mv (.t 0)⟩,
     ⟨(some 28), none, .mv (.t 0)⟩,
     ⟨(some 29), none, .nc (.t 28)⟩,
     ⟨(some 30), none, .fa 84 (.t 29) 1⟩,
     ⟨(some 31), none, .ld 46 (.t 30)⟩,
     ⟨(some 32), none, .mv (.t 1)⟩,
     ⟨(some 33), none, .bi .append [46, 46] [.t 31, .t 32]⟩,
     ⟨(some 34), none, .nc (.t 27)⟩,
     ⟨(some 35), none, .fa 84 (.t 34) 1⟩,
     ⟨none, none, .st 46 (.t 35) (.t 33)⟩])
   (.seq (.reg [⟨(some 36), none, .mv (.t 2)⟩,
      ⟨(some 37), none, .call (.fn 90) [.t 36, .i .i64 0, .i .i64 1000]⟩,
      ⟨(some 2), none, .mv (.t 37)⟩])
    (.seq (.reg [⟨(some 9), none, .mv (.i .i64 0)⟩])
     (.seq (.block 2 (.loop (.seq (.seq (.reg [⟨(some 38), none, .mv (.t 0)⟩,
            ⟨(some 39), none, .nc (.t 38)⟩,
            ⟨(some 40), none, .fa 84 (.t 39) 1⟩,
            ⟨(some 41), none, .ld 46 (.t 40)⟩,
            ⟨(some 42), none, .bi .len [46] [.t 41]⟩,
            ⟨(some 43), none, .bin .gtr 3 (.t 42) (.i .i64 0)⟩])
          (.cond (.t 43)
           (.skip)
           (.exit 2)))
         (.block 3 (.seq (.reg [⟨(some 10), none, .mv (.b false)⟩])
           (.seq (.seq (.reg [⟨(some 44), none, .mv (.t 0)⟩,
               ⟨(some 45), none, .call (.fn 91) [.t 44]⟩,
               ⟨(some 46), none, .mv (.t 45)⟩,
               ⟨(some 47), (some (46, true)), .mv (.t 2)⟩,
               ⟨(some 48), (some (46, true)), .bin .gtr 3 (.t 47) (.i .i64 0)⟩,
               ⟨(some 49), none, .pk (.t 46) (.t 48) (.b false)⟩])
             (.cond (.t 49)
              (.seq (.reg [⟨(some 10), none, .mv (.b true)⟩])
               (.reg [⟨(some 50), none, .mv (.t 2)⟩,
                 ⟨(some 51), none, .bin .sub 3 (.t 50) (.i .i64 1)⟩,
                 ⟨(some 2), none, .mv (.t 51)⟩]))
              (.skip)))
            (.seq (.reg [⟨(some 52), none, .mv (.t 0)⟩,
               ⟨(some 53), none, .mv (.t 10)⟩,
               ⟨(some 54), none, .call (.fn 49) [.t 52, .t 53]⟩])
             (.reg [⟨(some 55), none, .mv (.t 9)⟩,
               ⟨(some 56), none, .bin .add 3 (.t 55) (.i .i64 1)⟩,
               ⟨(some 9), none, .mv (.t 56)⟩]))))))))
      (.seq (.reg [⟨(some 57), none, .mv (.t 9)⟩,
         ⟨(some 6), none, .mv (.t 57)⟩,
         ⟨(some 7), none, .mv (.i .i64 0)⟩])
       (.ret)))))))
theorem b50 : Body Try.prog 50 58 [6, 7] k50 := ⟨Enters.of Try.func50 (by kernel_rfl) (by kernel_rfl), _, _, Try.func50, rfl, by kernel_rfl, rfl, rfl⟩

/-- (*cartridge/cartridgeref22.Robot).Waiting -/
def k51 : KC :=
 .seq (.reg [⟨(some 2), none, .mv (.i .i64 0)⟩])
 (.seq (.reg [⟨(some 3), none, .mv (.t 0)⟩,
    ⟨(some 4), none, .nc (.t 3)⟩,
    ⟨(some 5), none, .fa 84 (.t 4) 1⟩,
    ⟨(some 6), none, .ld 46 (.t 5)⟩,
    ⟨(some 7), none, .bi .len [46] [.t 6]⟩,
    ⟨(some 2), none, .mv (.t 7)⟩])
  (.ret))
theorem b51 : Body Try.prog 51 8 [2] k51 := ⟨Enters.of Try.func51 (by kernel_rfl) (by kernel_rfl), _, _, Try.func51, rfl, by kernel_rfl, rfl, rfl⟩

/-- (*cartridge/robot.Robot).Mounted -/
def k52 : KC :=
 .seq (.reg [⟨(some 4), none, .mv (.i .i64 0)⟩])
 (.seq (.seq (.reg [⟨(some 5), none, .mv (.t 0)⟩,
     ⟨(some 6), none, .bin .eql 64 (.t 5) (.np)⟩])
   (.cond (.t 6)
    (.seq (.reg [⟨(some 4), none, .mv (.i .i64 0)⟩])
     (.ret))
    (.skip)))
  (.seq (.reg [⟨(some 7), none, .mv (.t 0)⟩,
     ⟨(some 8), none, .nc (.t 7)⟩,
     ⟨(some 9), none, .fa 109 (.t 8) 0⟩,
     ⟨(some 10), none, .ld 102 (.t 9)⟩,
     ⟨(some 11), none, .mv (.t 1)⟩,
     ⟨(some 12), none, .call (.fn 92) [.t 10, .t 11]⟩,
     ⟨(some 4), none, .mv (.t 12)⟩])
   (.ret)))
theorem b52 : Body Try.prog 52 13 [4] k52 := ⟨Enters.of Try.func52 (by kernel_rfl) (by kernel_rfl), _, _, Try.func52, rfl, by kernel_rfl, rfl, rfl⟩

/-- (*cartridge/cartridgeref22.Shelf).Mounted -/
def k53 : KC :=
 .seq (.reg [⟨(some 4), none, .mv (.i .i64 0)⟩])
 (.seq (.seq (.reg [⟨(some 5), none, .mv (.t 1)⟩,
     ⟨(some 6), none, .bin .lss 3 (.t 5) (.i .i64 0)⟩,
     ⟨(some 7), none, .mv (.t 6)⟩,
     ⟨(some 8), (some (7, false)), .mv (.t 1)⟩,
     ⟨(some 9), (some (7, false)), .mv (.t 0)⟩,
     ⟨(some 10), (some (7, false)), .nc (.t 9)⟩,
     ⟨(some 11), (some (7, false)), .fa 118 (.t 10) 2⟩,
     ⟨(some 12), (some (7, false)), .ld 46 (.t 11)⟩,
     ⟨(some 13), (some (7, false)), .bi .len [46] [.t 12]⟩,
     ⟨(some 14), (some (7, false)), .bin .geq 3 (.t 8) (.t 13)⟩,
     ⟨(some 15), none, .pk (.t 7) (.b true) (.t 14)⟩])
   (.cond (.t 15)
    (.seq (.reg [⟨(some 4), none, .mv (.i .i64 0)⟩])
     (.ret))
    (.skip)))
  (.seq (.reg [⟨(some 16), none, .mv (.t 0)⟩,
     ⟨(some 17), none, .nc (.t 16)⟩,
     ⟨(some 18), none, .fa 118 (.t 17) 2⟩,
     ⟨(some 19), none, .ld 46 (.t 18)⟩,
     ⟨(some 20), none, .mv (.t 1)⟩,
     ⟨(some 21), none, .ia 46 (.t 19) (.t 20)⟩,
     ⟨(some 22), none, .ld 3 (.t 21)⟩,
     ⟨(some 4), none, .mv (.t 22)⟩])
   (.ret)))
theorem b53 : Body Try.prog 53 23 [4] k53 := ⟨Enters.of Try.func53 (by kernel_rfl) (by kernel_rfl), _, _, Try.func53, rfl, by kernel_rfl, rfl, rfl⟩

/-- cartridge/cartridgelaw3.alive -/
def k54 : KC :=
 .seq (.reg [⟨(some 0), none, .mv (.b false)⟩])
 (.seq (.reg [⟨(some 6), none, .bsl 23 2 [(0, .i .u8 97), (1, .i .u8 98)]⟩,
    ⟨(some 7), none, .cvt 23 23 (.t 6)⟩,
    ⟨(some 8), none, .bsl 22 1 [(0, .t 7)]⟩,
    ⟨(some 9), none, .call (.fn 55) [.t 8, .i .i64 1]⟩,
    ⟨(some 5), none, .mv (.t 9)⟩,
    ⟨(some 10), none, .ex (.t 5) 0⟩,
    ⟨(some 11), none, .ex (.t 5) 1⟩,
    ⟨(some 1), none, .mv (.t 10)⟩,
    ⟨(some 2), none, .mv (.t 11)⟩])
  (.seq (.seq (.reg [⟨(some 12), none, .mv (.t 2)⟩,
      ⟨(some 13), none, .call (.fn 58) [.t 12]⟩,
      ⟨(some 14), none, .bin .neq 3 (.t 13) (.i .i64 0)⟩,
      ⟨(some 15), none, .mv (.t 14)⟩,
      ⟨(some 16), (some (15, false)), .mv (.t 1)⟩,
      ⟨(some 17), (some (15, false)), .bi .len [22] [.t 16]⟩,
      ⟨(some 18), (some (15, false)), .bin .neq 3 (.t 17) (.i .i64 1)⟩,
      ⟨(some 19), none, .pk (.t 15) (.b true) (.t 18)⟩])
    (.cond (.t 19)
     (.seq (.reg [⟨(some 0), none, .mv (.b false)⟩])
      (.ret))
     (.skip)))
   (.seq (.reg [⟨(some 21), none, .mv (.t 1)⟩,
      ⟨(some 22), none, .ia 22 (.t 21) (.i .i64 0)⟩,
      ⟨(some 23), none, .ld 23 (.t 22)⟩,
      ⟨(some 24), none, .bsl 22 2 [(0, .ns), (1, .t 23)]⟩,
      ⟨(some 25), none, .call (.fn 57) [.t 24, .i .i64 1]⟩,
      ⟨(some 20), none, .mv (.t 25)⟩,
      ⟨(some 26), none, .ex (.t 20) 0⟩,
      ⟨(some 27), none, .ex (.t 20) 1⟩,
      ⟨(some 3), none, .mv (.t 26)⟩,
      ⟨(some 4), none, .mv (.t 27)⟩])
    (.seq (.reg [⟨(some 28), none, .mv (.t 4)⟩,
       ⟨(some 29), none, .call (.fn 58) [.t 28]⟩,
       ⟨(some 30), none, .bin .eql 3 (.t 29) (.i .i64 0)⟩,
       ⟨(some 31), none, .mv (.t 30)⟩,
       ⟨(some 32), (some (31, true)), .mv (.t 3)⟩,
       ⟨(some 33), (some (31, true)), .bi .len [22] [.t 32]⟩,
       ⟨(some 34), (some (31, true)), .bin .eql 3 (.t 33) (.i .i64 1)⟩,
       ⟨(some 35), none, .pk (.t 31) (.t 34) (.b false)⟩,
       ⟨(some 36), none, .mv (.t 35)⟩,
       ⟨(some 37), (some (36, true)), .mv (.t 3)⟩,
       ⟨(some 38), (some (36, true)), .ia 22 (.t 37) (.i .i64 0)⟩,
       ⟨(some 39), (some (36, true)), .ld 23 (.t 38)⟩,
       ⟨(some 40), (some (36, true)), .cvt 23 9 (.t 39)⟩,
       ⟨(some 41), (some (36, true)), .bin .eql 9 (.t 40) (.s ⟨#[97, 98]⟩)⟩,
       ⟨(some 42), none, .pk (.t 36) (.t 41) (.b false)⟩,
       ⟨(some 0), none, .mv (.t 42)⟩])
     (.ret)))))
theorem b54 : Body Try.prog 54 43 [0] k54 := ⟨Enters.of Try.func54 (by kernel_rfl) (by kernel_rfl), _, _, Try.func54, rfl, by kernel_rfl, rfl, rfl⟩

/-- cartridge/erasure.Encode -/
def k55 : KC :=
 .seq (.reg [⟨(some 4), none, .mv (.ns)⟩,
   ⟨(some 5), none, .mv (.i .i64 0)⟩])
 (.seq (.seq (.reg [⟨(some 8), none, .mv (.t 0)⟩,
     ⟨(some 9), none, .bi .len [22] [.t 8]⟩,
     ⟨(some 10), none, .bin .lss 3 (.t 9) (.i .i64 1)⟩,
     ⟨(some 11), none, .mv (.t 10)⟩,
     ⟨(some 12), (some (11, false)), .mv (.t 0)⟩,
     ⟨(some 13), (some (11, false)), .bi .len [22] [.t 12]⟩,
     ⟨(some 14), (some (11, false)), .bin .gtr 3 (.t 13) (.i .i64 255)⟩,
     ⟨(some 15), none, .pk (.t 11) (.b true) (.t 14)⟩,
     ⟨(some 16), none, .mv (.t 15)⟩,
     ⟨(some 17), (some (16, false)), .mv (.t 1)⟩,
     ⟨(some 18), (some (16, false)), .bin .lss 3 (.t 17) (.i .i64 0)⟩,
     ⟨(some 19), none, .pk (.t 16) (.b true) (.t 18)⟩,
     ⟨(some 20), none, .mv (.t 19)⟩,
     ⟨(some 21), (some (20, false)), .mv (.t 1)⟩,
     ⟨(some 22), (some (20, false)), .mv (.t 0)⟩,
     ⟨(some 23), (some (20, false)), .bi .len [22] [.t 22]⟩,
     ⟨(some 24), (some (20, false)), .bin .sub 3 (.i .i64 255) (.t 23)⟩,
     ⟨(some 25), (some (20, false)), .bin .gtr 3 (.t 21) (.t 24)⟩,
     ⟨(some 26), none, .pk (.t 20) (.b true) (.t 25)⟩,
     ⟨(some 27), none, .mv (.t 26)⟩,
     ⟨(some 28), (some (27, false)), .mv (.t 0)⟩,
     ⟨(some 29), (some (27, false)), .call (.fn 93) [.t 28]⟩,
     ⟨(some 30), (some (27, false)), .un .not (.t 29)⟩,
     ⟨(some 31), none, .pk (.t 27) (.b true) (.t 30)⟩])
   (.cond (.t 31)
    (.seq (.reg [⟨(some 4), none, .mv (.ns)⟩,
       ⟨(some 5), none, .mv (.i .i64 1)⟩])
     (.ret))
    (.skip)))
  (.seq (.seq (.reg [⟨(some 32), none, .mv (.t 1)⟩,
      ⟨(some 33), none, .bin .eql 3 (.t 32) (.i .i64 0)⟩])
    (.cond (.t 33)
     (.seq (.reg [⟨(some 4), none, .mv (.ns)⟩,
        ⟨(some 5), none, .mv (.i .i64 0)⟩])
      (.ret))
     (.skip)))
   (.seq (.reg [⟨(some 35), none, .mv (.t 0)⟩,
      ⟨(some 36), none, .bi .len [22] [.t 35]⟩,
      ⟨(some 37), none, .mv (.t 1)⟩,
      ⟨(some 38), none, .call (.fn 37) [.t 36, .t 37]⟩,
      ⟨(some 34), none, .mv (.t 38)⟩,
      ⟨(some 39), none, .ex (.t 34) 0⟩,
      ⟨(some 40), none, .ex (.t 34) 1⟩,
      ⟨(some 6), none, .mv (.t 39)⟩,
      ⟨(some 7), none, .mv (.t 40)⟩])
    (.seq (.seq (.reg [⟨(some 41), none, .mv (.t 7)⟩,
        ⟨(some 42), none, .bin .neq 26 (.t 41) (.i .i64 0)⟩])
      (.cond (.t 42)
       (.seq (.reg [⟨(some 43), none, .mv (.t 7)⟩,
          ⟨(some 4), none, .mv (.ns)⟩,
          ⟨(some 5), none, .mv (.t 43)⟩])
        (.ret))
       (.skip)))
     (.seq (.reg [⟨(some 44), none, .mv (.t 6)⟩,
        ⟨(some 45), none, .mv (.t 0)⟩,
        ⟨(some 46), none, .call (.fn 94) [.t 44, .t 45]⟩,
        ⟨(some 4), none, .mv (.t 46)⟩,
        ⟨(some 5), none, .mv (.i .i64 0)⟩])
      (.ret))))))
theorem b55 : Body Try.prog 55 47 [4, 5] k55 := ⟨Enters.of Try.func55 (by kernel_rfl) (by kernel_rfl), _, _, Try.func55, rfl, by kernel_rfl, rfl, rfl⟩

end Go.Proofs.Ytgkbjnhpmlfgdaa
