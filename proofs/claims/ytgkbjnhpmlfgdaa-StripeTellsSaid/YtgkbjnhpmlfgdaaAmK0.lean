import Derived.Test.YtgkbjnhpmlfgdaaAmT
/- The code, cooked, and tied to the program's; written by gen.py. -/
namespace Go.Proofs.Ytgkbjnhpmlfgdaa
open Go.AM

/-- cartridge/cartridgelaw13.StripeTells -/
noncomputable def drw5_0 : Array Oper := ((Try.f5.body.map regs).getD []).getD 0 #[]
noncomputable def k5 : KC :=
 .seq (.reg [⟨(some 6), none, .mv (.b false)⟩])
 (.seq (.reg [⟨(some 13), none, .call (.fn 21) []⟩,
    ⟨(some 7), none, .mv (.t 13)⟩])
  (.seq (.seq (.reg [⟨(some 14), none, .mv (.t 7)⟩,
      ⟨(some 15), none, .un .not (.t 14)⟩,
      ⟨(some 16), none, .mv (.t 15)⟩,
      ⟨(some 17), (some (16, false)), .mv (.t 0)⟩,
      ⟨(some 18), (some (16, false)), .call (.fn 22) [.t 17]⟩,
      ⟨(some 19), (some (16, false)), .un .not (.t 18)⟩,
      ⟨(some 20), none, .pk (.t 16) (.b true) (.t 19)⟩,
      ⟨(some 21), none, .mv (.t 20)⟩,
      ⟨(some 22), (some (21, false)), .mv (.t 2)⟩,
      ⟨(some 23), (some (21, false)), .bin .gtr 3 (.t 22) (.i .i64 10)⟩,
      ⟨(some 24), none, .pk (.t 21) (.b true) (.t 23)⟩])
    (.cond (.t 24)
     (.seq (.reg [⟨(some 25), none, .mv (.t 7)⟩,
        ⟨(some 6), none, .mv (.t 25)⟩])
      (.ret))
     (.skip)))
   (.seq (.reg [⟨(some 27), none, .mv (.t 0)⟩,
      ⟨(some 28), none, .mv (.t 2)⟩,
      ⟨(some 29), none, .call (.fn 23) [.t 27, .t 28]⟩,
      ⟨(some 26), none, .mv (.t 29)⟩,
      ⟨(some 30), none, .ex (.t 26) 0⟩,
      ⟨(some 31), none, .ex (.t 26) 1⟩,
      ⟨(some 8), none, .mv (.t 30)⟩,
      ⟨(some 9), none, .mv (.t 31)⟩])
    (.seq (.reg [⟨(some 33), none, .mv (.t 0)⟩,
       ⟨(some 34), none, .mv (.t 2)⟩,
       ⟨(some 35), none, .call (.fn 24) [.t 33, .t 34]⟩,
       ⟨(some 32), none, .mv (.t 35)⟩,
       ⟨(some 36), none, .ex (.t 32) 0⟩,
       ⟨(some 37), none, .ex (.t 32) 1⟩,
       ⟨(some 10), none, .mv (.t 36)⟩,
       ⟨(some 11), none, .mv (.t 37)⟩])
     (.seq (.seq (.reg [⟨(some 38), none, .mv (.t 9)⟩,
         ⟨(some 39), none, .call (.fn 25) [.t 38]⟩,
         ⟨(some 40), none, .mv (.t 11)⟩,
         ⟨(some 41), none, .bin .neq 3 (.t 39) (.t 40)⟩,
         ⟨(some 42), none, .mv (.t 41)⟩,
         ⟨(some 43), (some (42, false)), .mv (.t 8)⟩,
         ⟨(some 44), (some (42, false)), .bi .len [37] [.t 43]⟩,
         ⟨(some 45), (some (42, false)), .mv (.t 10)⟩,
         ⟨(some 46), (some (42, false)), .bi .len [37] [.t 45]⟩,
         ⟨(some 47), (some (42, false)), .bin .neq 3 (.t 44) (.t 46)⟩,
         ⟨(some 48), none, .pk (.t 42) (.b true) (.t 47)⟩,
         ⟨(some 49), none, .mv (.t 48)⟩,
         ⟨(some 50), (some (49, false)), .mv (.t 0)⟩,
         ⟨(some 51), (some (49, false)), .call (.fn 26) [.t 50]⟩,
         ⟨(some 52), (some (49, false)), .mv (.t 0)⟩,
         ⟨(some 53), (some (49, false)), .call (.fn 27) [.t 52]⟩,
         ⟨(some 54), (some (49, false)), .bin .neq 3 (.t 51) (.t 53)⟩,
         ⟨(some 55), none, .pk (.t 49) (.b true) (.t 54)⟩,
         ⟨(some 56), none, .mv (.t 55)⟩,
         ⟨(some 57), (some (56, false)), .mv (.t 0)⟩,
         ⟨(some 58), (some (56, false)), .mv (.t 1)⟩,
         ⟨(some 59), (some (56, false)), .call (.fn 29) [.t 57, .t 58]⟩,
         ⟨(some 60), (some (56, false)), .mv (.t 0)⟩,
         ⟨(some 61), (some (56, false)), .mv (.t 1)⟩,
         ⟨(some 62), (some (56, false)), .call (.fn 30) [.t 60, .t 61]⟩,
         ⟨(some 63), (some (56, false)), .call (.fn 28) [.t 59, .t 62]⟩,
         ⟨(some 64), (some (56, false)), .un .not (.t 63)⟩,
         ⟨(some 65), none, .pk (.t 56) (.b true) (.t 64)⟩])
       (.cond (.t 65)
        (.seq (.reg [⟨(some 6), none, .mv (.b false)⟩])
         (.ret))
        (.skip)))
      (.seq (.seq (.reg [⟨(some 12), none, .mv (.i .i64 0)⟩])
        (.block 0 (.loop (.seq (.seq (.reg [⟨(some 66), none, .mv (.t 12)⟩,
              ⟨(some 67), none, .mv (.t 8)⟩,
              ⟨(some 68), none, .bi .len [37] [.t 67]⟩,
              ⟨(some 69), none, .bin .lss 3 (.t 66) (.t 68)⟩])
            (.cond (.t 69)
             (.skip)
             (.exit 0)))
           (.seq (.block 1 (.seq (.drw drw5_0 [⟨(some 72), none, .mv (.t 8)⟩,
                ⟨(some 73), none, .mv (.t 12)⟩,
                ⟨(some 74), none, .ia 37 (.t 72) (.t 73)⟩,
                ⟨(some 75), none, .ld 22 (.t 74)⟩,
                ⟨(some 76), none, .mv (.t 10)⟩,
                ⟨(some 77), none, .mv (.t 12)⟩,
                ⟨(some 78), none, .ia 37 (.t 76) (.t 77)⟩,
                ⟨(some 79), none, .ld 22 (.t 78)⟩,
                ⟨(some 80), none, .call (.fn 28) [.t 75, .t 79]⟩,
                ⟨(some 81), none, .un .not (.t 80)⟩])
              (.cond (.t 81)
               (.seq (.reg [⟨(some 6), none, .mv (.b false)⟩])
                (.ret))
               (.skip))))
            (.reg [⟨(some 70), none, .mv (.t 12)⟩,
              ⟨(some 71), none, .bin .add 3 (.t 70) (.i .i64 1)⟩,
              ⟨(some 12), none, .mv (.t 71)⟩]))))))
       (.seq (.reg [⟨(some 6), none, .mv (.b true)⟩])
        (.ret))))))))
theorem b5 : Body Try.prog 5 82 [6] k5 := ⟨Enters.of Try.func5 (by kernel_rfl) (by kernel_rfl), _, _, Try.func5, rfl, by kernel_rfl, rfl, rfl⟩

/-- cartridge/matrix.Apply -/
def k19 : KC :=
 .seq (.reg [⟨(some 4), none, .mv (.ns)⟩,
   ⟨(some 5), none, .mv (.i .i64 0)⟩])
 (.seq (.seq (.reg [⟨(some 6), none, .mv (.t 0)⟩,
     ⟨(some 7), none, .call (.fn 36) [.t 6]⟩,
     ⟨(some 8), none, .un .not (.t 7)⟩,
     ⟨(some 9), none, .mv (.t 8)⟩,
     ⟨(some 10), (some (9, false)), .mv (.t 1)⟩,
     ⟨(some 11), (some (9, false)), .bi .len [23] [.t 10]⟩,
     ⟨(some 12), (some (9, false)), .mv (.t 0)⟩,
     ⟨(some 13), (some (9, false)), .ia 22 (.t 12) (.i .i64 0)⟩,
     ⟨(some 14), (some (9, false)), .ld 23 (.t 13)⟩,
     ⟨(some 15), (some (9, false)), .bi .len [23] [.t 14]⟩,
     ⟨(some 16), (some (9, false)), .bin .neq 3 (.t 11) (.t 15)⟩,
     ⟨(some 17), none, .pk (.t 9) (.b true) (.t 16)⟩])
   (.cond (.t 17)
    (.seq (.reg [⟨(some 4), none, .mv (.ns)⟩,
       ⟨(some 5), none, .mv (.i .i64 1)⟩])
     (.ret))
    (.skip)))
  (.seq (.reg [⟨(some 18), none, .mv (.t 0)⟩,
     ⟨(some 19), none, .mv (.t 1)⟩,
     ⟨(some 20), none, .call (.fn 66) [.t 18, .t 19]⟩,
     ⟨(some 4), none, .mv (.t 20)⟩,
     ⟨(some 5), none, .mv (.i .i64 0)⟩])
   (.ret)))
theorem b19 : Body Try.prog 19 21 [4, 5] k19 := ⟨Enters.of Try.func19 (by kernel_rfl) (by kernel_rfl), _, _, Try.func19, rfl, by kernel_rfl, rfl, rfl⟩

/-- cartridge/cartridgeref1.Mul -/
def k20 : KC :=
 .seq (.reg [⟨(some 4), none, .mv (.i .u8 0)⟩])
 (.seq (.reg [⟨(some 5), none, .mv (.i .i64 0)⟩])
  (.seq (.seq (.reg [⟨(some 6), none, .mv (.i .i64 0)⟩])
    (.block 0 (.loop (.seq (.seq (.reg [⟨(some 8), none, .mv (.t 6)⟩,
          ⟨(some 9), none, .bin .lss 3 (.t 8) (.i .i64 8)⟩])
        (.cond (.t 9)
         (.skip)
         (.exit 0)))
       (.seq (.block 1 (.seq (.reg [⟨(some 12), none, .mv (.t 1)⟩,
            ⟨(some 13), none, .mv (.t 6)⟩,
            ⟨(some 14), none, .cvt 3 97 (.t 13)⟩,
            ⟨(some 15), none, .bin .shr 5 (.t 12) (.t 14)⟩,
            ⟨(some 16), none, .bin .and 5 (.t 15) (.i .u8 1)⟩,
            ⟨(some 17), none, .bin .eql 5 (.t 16) (.i .u8 1)⟩])
          (.cond (.t 17)
           (.reg [⟨(some 18), none, .mv (.t 5)⟩,
             ⟨(some 19), none, .mv (.t 0)⟩,
             ⟨(some 20), none, .cvt 5 3 (.t 19)⟩,
             ⟨(some 21), none, .mv (.t 6)⟩,
             ⟨(some 22), none, .cvt 3 97 (.t 21)⟩,
             ⟨(some 23), none, .bin .shl 3 (.t 20) (.t 22)⟩,
             ⟨(some 24), none, .bin .xor 3 (.t 18) (.t 23)⟩,
             ⟨(some 5), none, .mv (.t 24)⟩])
           (.skip))))
        (.reg [⟨(some 10), none, .mv (.t 6)⟩,
          ⟨(some 11), none, .bin .add 3 (.t 10) (.i .i64 1)⟩,
          ⟨(some 6), none, .mv (.t 11)⟩]))))))
   (.seq (.seq (.reg [⟨(some 7), none, .mv (.i .i64 14)⟩])
     (.block 2 (.loop (.seq (.seq (.reg [⟨(some 25), none, .mv (.t 7)⟩,
           ⟨(some 26), none, .bin .geq 3 (.t 25) (.i .i64 8)⟩])
         (.cond (.t 26)
          (.skip)
          (.exit 2)))
        (.seq (.block 3 (.seq (.reg [⟨(some 29), none, .mv (.t 5)⟩,
             ⟨(some 30), none, .mv (.t 7)⟩,
             ⟨(some 31), none, .cvt 3 97 (.t 30)⟩,
             ⟨(some 32), none, .bin .shr 3 (.t 29) (.t 31)⟩,
             ⟨(some 33), none, .bin .and 3 (.t 32) (.i .i64 1)⟩,
             ⟨(some 34), none, .bin .eql 3 (.t 33) (.i .i64 1)⟩])
           (.cond (.t 34)
            (.reg [⟨(some 35), none, .mv (.t 5)⟩,
              ⟨(some 36), none, .mv (.t 7)⟩,
              ⟨(some 37), none, .bin .sub 3 (.t 36) (.i .i64 8)⟩,
              ⟨(some 38), none, .cvt 3 97 (.t 37)⟩,
              ⟨(some 39), none, .bin .shl 3 (.i .i64 285) (.t 38)⟩,
              ⟨(some 40), none, .bin .xor 3 (.t 35) (.t 39)⟩,
              ⟨(some 5), none, .mv (.t 40)⟩])
            (.skip))))
         (.reg [⟨(some 27), none, .mv (.t 7)⟩,
           ⟨(some 28), none, .bin .sub 3 (.t 27) (.i .i64 1)⟩,
           ⟨(some 7), none, .mv (.t 28)⟩]))))))
    (.seq (.reg [⟨(some 41), none, .mv (.t 5)⟩,
       ⟨(some 42), none, .cvt 3 5 (.t 41)⟩,
       ⟨(some 4), none, .mv (.t 42)⟩])
     (.ret)))))
theorem b20 : Body Try.prog 20 43 [4] k20 := ⟨Enters.of Try.func20 (by kernel_rfl) (by kernel_rfl), _, _, Try.func20, rfl, by kernel_rfl, rfl, rfl⟩

/-- cartridge/cartridgelaw13.alive -/
def k21 : KC :=
 .seq (.reg [⟨(some 0), none, .mv (.b false)⟩])
 (.seq (.reg [⟨(some 4), none, .mk 23 (.i .i64 79) (.i .i64 79)⟩,
    ⟨(some 5), none, .bsl 22 1 [(0, .t 4)]⟩,
    ⟨(some 6), none, .bld 48 [(0, .i .i64 1), (1, .i .i64 1), (2, .t 5)]⟩,
    ⟨(some 7), none, .bsl 35 1 [(0, .t 6)]⟩,
    ⟨(some 1), none, .mv (.t 7)⟩])
  (.seq (.reg [⟨(some 9), none, .mv (.t 1)⟩,
     ⟨(some 10), none, .call (.fn 23) [.t 9, .i .i64 1]⟩,
     ⟨(some 8), none, .mv (.t 10)⟩,
     ⟨(some 11), none, .ex (.t 8) 0⟩,
     ⟨(some 12), none, .ex (.t 8) 1⟩,
     ⟨(some 2), none, .mv (.t 11)⟩,
     ⟨(some 3), none, .mv (.t 12)⟩])
   (.seq (.reg [⟨(some 13), none, .call (.fn 26) [.ns]⟩,
      ⟨(some 14), none, .bin .eql 3 (.t 13) (.i .i64 0)⟩,
      ⟨(some 15), none, .mv (.t 14)⟩,
      ⟨(some 16), (some (15, true)), .mv (.t 1)⟩,
      ⟨(some 17), (some (15, true)), .call (.fn 26) [.t 16]⟩,
      ⟨(some 18), (some (15, true)), .bin .eql 3 (.t 17) (.i .i64 1)⟩,
      ⟨(some 19), none, .pk (.t 15) (.t 18) (.b false)⟩,
      ⟨(some 20), none, .mv (.t 19)⟩,
      ⟨(some 21), (some (20, true)), .mv (.t 1)⟩,
      ⟨(some 22), (some (20, true)), .call (.fn 29) [.t 21, .i .i64 0]⟩,
      ⟨(some 23), (some (20, true)), .bi .len [22] [.t 22]⟩,
      ⟨(some 24), (some (20, true)), .bin .eql 3 (.t 23) (.i .i64 1)⟩,
      ⟨(some 25), none, .pk (.t 20) (.t 24) (.b false)⟩,
      ⟨(some 26), none, .mv (.t 25)⟩,
      ⟨(some 27), (some (26, true)), .mv (.t 3)⟩,
      ⟨(some 28), (some (26, true)), .call (.fn 25) [.t 27]⟩,
      ⟨(some 29), (some (26, true)), .bin .eql 3 (.t 28) (.i .i64 0)⟩,
      ⟨(some 30), none, .pk (.t 26) (.t 29) (.b false)⟩,
      ⟨(some 31), none, .mv (.t 30)⟩,
      ⟨(some 32), (some (31, true)), .mv (.t 2)⟩,
      ⟨(some 33), (some (31, true)), .bi .len [37] [.t 32]⟩,
      ⟨(some 34), (some (31, true)), .bin .eql 3 (.t 33) (.i .i64 1)⟩,
      ⟨(some 35), none, .pk (.t 31) (.t 34) (.b false)⟩,
      ⟨(some 0), none, .mv (.t 35)⟩])
    (.ret))))
theorem b21 : Body Try.prog 21 36 [0] k21 := ⟨Enters.of Try.func21 (by kernel_rfl) (by kernel_rfl), _, _, Try.func21, rfl, by kernel_rfl, rfl, rfl⟩

/-- cartridge/cartridgelaw13.Few -/
def k22 : KC :=
 .seq (.reg [⟨(some 2), none, .mv (.b false)⟩])
 (.seq (.reg [⟨(some 3), none, .mv (.i .i64 0)⟩])
  (.seq (.seq (.reg [⟨(some 4), none, .mv (.i .i64 0)⟩])
    (.block 0 (.loop (.seq (.seq (.reg [⟨(some 5), none, .mv (.t 4)⟩,
          ⟨(some 6), none, .mv (.t 0)⟩,
          ⟨(some 7), none, .bi .len [35] [.t 6]⟩,
          ⟨(some 8), none, .bin .lss 3 (.t 5) (.t 7)⟩,
          ⟨(some 9), none, .mv (.t 8)⟩,
          ⟨(some 10), (some (9, true)), .mv (.t 4)⟩,
          ⟨(some 11), (some (9, true)), .bin .lss 3 (.t 10) (.i .i64 20)⟩,
          ⟨(some 12), none, .pk (.t 9) (.t 11) (.b false)⟩])
        (.cond (.t 12)
         (.skip)
         (.exit 0)))
       (.seq (.block 1 (.seq (.seq (.reg [⟨(some 15), none, .mv (.t 0)⟩,
             ⟨(some 16), none, .mv (.t 4)⟩,
             ⟨(some 17), none, .ia 35 (.t 15) (.t 16)⟩,
             ⟨(some 18), none, .ld 48 (.t 17)⟩,
             ⟨(some 19), none, .call (.fn 67) [.t 18]⟩,
             ⟨(some 20), none, .un .not (.t 19)⟩])
           (.cond (.t 20)
            (.seq (.reg [⟨(some 2), none, .mv (.b false)⟩])
             (.ret))
            (.skip)))
          (.reg [⟨(some 21), none, .mv (.t 3)⟩,
            ⟨(some 22), none, .mv (.t 0)⟩,
            ⟨(some 23), none, .mv (.t 4)⟩,
            ⟨(some 24), none, .ia 35 (.t 22) (.t 23)⟩,
            ⟨(some 25), none, .fa 48 (.t 24) 2⟩,
            ⟨(some 26), none, .ld 22 (.t 25)⟩,
            ⟨(some 27), none, .bi .len [22] [.t 26]⟩,
            ⟨(some 28), none, .bin .add 3 (.t 21) (.t 27)⟩,
            ⟨(some 3), none, .mv (.t 28)⟩])))
        (.reg [⟨(some 13), none, .mv (.t 4)⟩,
          ⟨(some 14), none, .bin .add 3 (.t 13) (.i .i64 1)⟩,
          ⟨(some 4), none, .mv (.t 14)⟩]))))))
   (.seq (.reg [⟨(some 29), none, .mv (.t 0)⟩,
      ⟨(some 30), none, .bi .len [35] [.t 29]⟩,
      ⟨(some 31), none, .bin .leq 3 (.t 30) (.i .i64 14)⟩,
      ⟨(some 32), none, .mv (.t 31)⟩,
      ⟨(some 33), (some (32, true)), .mv (.t 3)⟩,
      ⟨(some 34), (some (32, true)), .bin .leq 3 (.t 33) (.i .i64 300)⟩,
      ⟨(some 35), none, .pk (.t 32) (.t 34) (.b false)⟩,
      ⟨(some 2), none, .mv (.t 35)⟩])
    (.ret))))
theorem b22 : Body Try.prog 22 36 [2] k22 := ⟨Enters.of Try.func22 (by kernel_rfl) (by kernel_rfl), _, _, Try.func22, rfl, by kernel_rfl, rfl, rfl⟩

/-- cartridge/stripe.Parity -/
def k23 : KC :=
 .seq (.reg [⟨(some 4), none, .mv (.ns)⟩,
   ⟨(some 5), none, .mv (.i .i64 0)⟩])
 (.seq (.seq (.reg [⟨(some 16), none, .mv (.t 0)⟩,
     ⟨(some 17), none, .call (.fn 29) [.t 16, .i .i64 (-1)]⟩,
     ⟨(some 18), none, .mv (.t 1)⟩,
     ⟨(some 19), none, .call (.fn 55) [.t 17, .t 18]⟩,
     ⟨(some 15), none, .mv (.t 19)⟩,
     ⟨(some 20), none, .ex (.t 15) 0⟩,
     ⟨(some 21), none, .ex (.t 15) 1⟩,
     ⟨(some 6), none, .mv (.t 20)⟩,
     ⟨(some 7), none, .mv (.t 21)⟩])
   (.seq (.reg [⟨(some 22), none, .mv (.t 7)⟩,
      ⟨(some 23), none, .bin .neq 26 (.t 22) (.i .i64 0)⟩])
    (.cond (.t 23)
     (.seq (.reg [⟨(some 24), none, .mv (.t 7)⟩,
        ⟨(some 4), none, .mv (.ns)⟩,
        ⟨(some 5), none, .mv (.t 24)⟩])
      (.ret))
     (.skip))))
  (.seq (.reg [⟨(some 25), none, .mv (.t 1)⟩,
     ⟨(some 26), none, .mk 37 (.t 25) (.t 25)⟩,
     ⟨(some 8), none, .mv (.t 26)⟩])
   (.seq (.seq (.reg [⟨(some 27), none, .mv (.t 0)⟩,
       ⟨(some 28), none, .call (.fn 26) [.t 27]⟩,
       ⟨(some 29), none, .mv (.i .i64 0)⟩])
     (.block 0 (.loop (.seq (.reg [⟨(some 30), none, .bin .lss 3 (.t 29) (.t 28)⟩])
        (.seq (.cond (.t 30)
          (.skip)
          (.exit 0))
         (.seq (.block 1 (.seq (.reg [⟨(some 31), none, .mv (.t 29)⟩,
              ⟨(some 9), none, .mv (.t 31)⟩])
            (.seq (.reg [⟨(some 32), none, .mv (.t 0)⟩,
               ⟨(some 33), none, .mv (.t 9)⟩,
               ⟨(some 34), none, .call (.fn 29) [.t 32, .t 33]⟩,
               ⟨(some 10), none, .mv (.t 34)⟩])
             (.seq (.seq (.reg [⟨(some 35), none, .mv (.t 10)⟩,
                 ⟨(some 36), none, .call (.fn 68) [.t 35, .fn 69]⟩])
               (.cond (.t 36)
                (.seq (.reg [⟨(some 4), none, .mv (.ns)⟩,
                   ⟨(some 5), none, .mv (.i .i64 1)⟩])
                 (.ret))
                (.skip)))
              (.seq (.reg [⟨(some 38), none, .mv (.t 10)⟩,
                 ⟨(some 39), none, .mv (.t 1)⟩,
                 ⟨(some 40), none, .call (.fn 55) [.t 38, .t 39]⟩,
                 ⟨(some 37), none, .mv (.t 40)⟩,
                 ⟨(some 41), none, .ex (.t 37) 0⟩,
                 ⟨(some 42), none, .ex (.t 37) 1⟩,
                 ⟨(some 11), none, .mv (.t 41)⟩,
                 ⟨(some 12), none, .mv (.t 42)⟩])
               (.seq (.seq (.reg [⟨(some 43), none, .mv (.t 12)⟩,
                   ⟨(some 44), none, .bin .neq 26 (.t 43) (.i .i64 0)⟩])
                 (.cond (.t 44)
                  (.seq (.reg [⟨(some 45), none, .mv (.t 12)⟩,
                     ⟨(some 4), none, .mv (.ns)⟩,
                     ⟨(some 5), none, .mv (.t 45)⟩])
                   (.ret))
                  (.skip)))
                (.seq (.reg [⟨(some 46), none, .mv (.t 11)⟩,
                   ⟨(some 47), none, .bi .len [22] [.t 46]⟩,
                   ⟨(some 48), none, .mv (.i .i64 0)⟩])
                 (.block 2 (.loop (.seq (.reg [⟨(some 49), none, .bin .lss 3 (.t 48) (.t 47)⟩])
                    (.seq (.cond (.t 49)
                      (.skip)
                      (.exit 2))
                     (.seq (.block 3 (.seq (.reg [⟨(some 50), none, .mv (.t 48)⟩,
                          ⟨(some 51), none, .ia 22 (.t 46) (.t 48)⟩,
                          ⟨(some 52), none, .ld 23 (.t 51)⟩,
                          ⟨(some 13), none, .mv (.t 50)⟩,
                          ⟨(some 14), none, .mv (.t 52)⟩])
                        (.reg [⟨(some 53), none, .mv (.t 8)⟩,
                          ⟨(some 54), none, .mv (.t 13)⟩,
                          ⟨(some 55), none, .mv (.t 8)⟩,
                          ⟨(some 56), none, .mv (.t 13)⟩,
                          ⟨(some 57), none, .ia 37 (.t 55) (.t 56)⟩,
                          ⟨(some 58), none, .ld 22 (.t 57)⟩,
                          ⟨(some 59), none, .mv (.t 14)⟩,
                          ⟨(some 60), none, .bsl 22 1 [(0, .t 59)]⟩,
                          ⟨(some 61), none, .bi .append [22, 22] [.t 58, .t 60]⟩,
                          ⟨(some 62), none, .ia 37 (.t 53) (.t 54)⟩,
                          ⟨none, none, .st 22 (.t 62) (.t 61)⟩])))
                      (.reg [⟨(some 63), none, .bin .add 3 (.t 48) (.i .i64 1)⟩,
                        ⟨(some 48), none, .mv (.t 63)⟩])))))))))))))
          (.reg [⟨(some 64), none, .bin .add 3 (.t 29) (.i .i64 1)⟩,
            ⟨(some 29), none, .mv (.t 64)⟩])))))))
    (.seq (.reg [⟨(some 65), none, .mv (.t 8)⟩,
       ⟨(some 4), none, .mv (.t 65)⟩,
       ⟨(some 5), none, .mv (.i .i64 0)⟩])
     (.ret)))))
theorem b23 : Body Try.prog 23 66 [4, 5] k23 := ⟨Enters.of Try.func23 (by kernel_rfl) (by kernel_rfl), _, _, Try.func23, rfl, by kernel_rfl, rfl, rfl⟩

/-- cartridge/cartridgeref10.Parity -/
noncomputable def drw24_0 : Array Oper := ((Try.f24.body.map regs).getD []).getD 0 #[]
noncomputable def k24 : KC :=
 .seq (.reg [⟨(some 4), none, .mv (.ns)⟩,
   ⟨(some 5), none, .mv (.i .i64 0)⟩])
 (.seq (.seq (.reg [⟨(some 14), none, .mv (.t 0)⟩,
     ⟨(some 15), none, .bi .len [35] [.t 14]⟩,
     ⟨(some 16), none, .bin .lss 3 (.t 15) (.i .i64 1)⟩,
     ⟨(some 17), none, .mv (.t 16)⟩,
     ⟨(some 18), (some (17, false)), .mv (.t 1)⟩,
     ⟨(some 19), (some (17, false)), .bin .lss 3 (.t 18) (.i .i64 0)⟩,
     ⟨(some 20), none, .pk (.t 17) (.b true) (.t 19)⟩,
     ⟨(some 21), none, .mv (.t 20)⟩,
     ⟨(some 22), (some (21, false)), .mv (.t 1)⟩,
     ⟨(some 23), (some (21, false)), .bin .gtr 3 (.t 22) (.i .i64 255)⟩,
     ⟨(some 24), none, .pk (.t 21) (.b true) (.t 23)⟩,
     ⟨(some 25), none, .mv (.t 24)⟩,
     ⟨(some 26), (some (25, false)), .mv (.t 0)⟩,
     ⟨(some 27), (some (25, false)), .bi .len [35] [.t 26]⟩,
     ⟨(some 28), (some (25, false)), .mv (.t 1)⟩,
     ⟨(some 29), (some (25, false)), .bin .add 3 (.t 27) (.t 28)⟩,
     ⟨(some 30), (some (25, false)), .bin .gtr 3 (.t 29) (.i .i64 255)⟩,
     ⟨(some 31), none, .pk (.t 25) (.b true) (.t 30)⟩])
   (.cond (.t 31)
    (.seq (.reg [⟨(some 4), none, .mv (.ns)⟩,
       ⟨(some 5), none, .mv (.i .i64 1)⟩])
     (.ret))
    (.skip)))
  (.seq (.reg [⟨(some 6), none, .mv (.ns)⟩])
   (.seq (.seq (.reg [⟨(some 7), none, .mv (.i .i64 0)⟩])
     (.block 0 (.loop (.seq (.seq (.reg [⟨(some 32), none, .mv (.t 7)⟩,
           ⟨(some 33), none, .mv (.t 1)⟩,
           ⟨(some 34), none, .bin .lss 3 (.t 32) (.t 33)⟩])
         (.cond (.t 34)
          (.skip)
          (.exit 0)))
        (.seq (.block 1 (.reg [⟨(some 37), none, .mv (.t 6)⟩,
            ⟨(some 38), none, .bsl 37 1 [(0, .ns)]⟩,
            ⟨(some 39), none, .bi .append [37, 37] [.t 37, .t 38]⟩,
            ⟨(some 6), none, .mv (.t 39)⟩]))
         (.reg [⟨(some 35), none, .mv (.t 7)⟩,
           ⟨(some 36), none, .bin .add 3 (.t 35) (.i .i64 1)⟩,
           ⟨(some 7), none, .mv (.t 36)⟩]))))))
    (.seq (.seq (.reg [⟨(some 8), none, .mv (.i .i64 0)⟩])
      (.block 2 (.loop (.seq (.seq (.reg [⟨(some 40), none, .mv (.t 8)⟩,
            ⟨(some 41), none, .mv (.t 0)⟩,
            ⟨(some 42), none, .call (.fn 27) [.t 41]⟩,
            ⟨(some 43), none, .bin .lss 3 (.t 40) (.t 42)⟩])
          (.cond (.t 43)
           (.skip)
           (.exit 2)))
         (.seq (.block 3 (.seq (.reg [⟨(some 46), none, .mv (.t 0)⟩,
              ⟨(some 47), none, .mv (.t 8)⟩,
              ⟨(some 48), none, .call (.fn 30) [.t 46, .t 47]⟩,
              ⟨(some 9), none, .mv (.t 48)⟩])
            (.seq (.seq (.reg [⟨(some 10), none, .mv (.i .i64 0)⟩])
              (.block 4 (.loop (.seq (.seq (.reg [⟨(some 49), none, .mv (.t 10)⟩,
                    ⟨(some 50), none, .mv (.t 9)⟩,
                    ⟨(some 51), none, .bi .len [22] [.t 50]⟩,
                    ⟨(some 52), none, .bin .lss 3 (.t 49) (.t 51)⟩])
                  (.cond (.t 52)
                   (.skip)
                   (.exit 4)))
                 (.seq (.block 5 (.seq (.reg [⟨(some 55), none, .mv (.t 9)⟩,
                      ⟨(some 56), none, .mv (.t 10)⟩,
                      ⟨(some 57), none, .ia 22 (.t 55) (.t 56)⟩,
                      ⟨(some 58), none, .ld 23 (.t 57)⟩,
                      ⟨(some 59), none, .bi .len [23] [.t 58]⟩,
                      ⟨(some 60), none, .bin .eql 3 (.t 59) (.i .i64 0)⟩])
                    (.cond (.t 60)
                     (.seq (.reg [⟨(some 4), none, .mv (.ns)⟩,
                        ⟨(some 5), none, .mv (.i .i64 1)⟩])
                      (.ret))
                     (.skip))))
                  (.reg [⟨(some 53), none, .mv (.t 10)⟩,
                    ⟨(some 54), none, .bin .add 3 (.t 53) (.i .i64 1)⟩,
                    ⟨(some 10), none, .mv (.t 54)⟩]))))))
             (.seq (.reg [⟨(some 62), none, .mv (.t 9)⟩,
                ⟨(some 63), none, .mv (.t 1)⟩,
                ⟨(some 64), none, .call (.fn 56) [.t 62, .t 63]⟩,
                ⟨(some 61), none, .mv (.t 64)⟩,
                ⟨(some 65), none, .ex (.t 61) 0⟩,
                ⟨(some 66), none, .ex (.t 61) 1⟩,
                ⟨(some 11), none, .mv (.t 65)⟩,
                ⟨(some 12), none, .mv (.t 66)⟩])
              (.seq (.seq (.reg [⟨(some 67), none, .mv (.t 12)⟩,
                  ⟨(some 68), none, .bin .neq 3 (.t 67) (.i .i64 0)⟩])
                (.cond (.t 68)
                 (.seq (.reg [⟨(some 69), none, .mv (.t 12)⟩,
                    ⟨(some 4), none, .mv (.ns)⟩,
                    ⟨(some 5), none, .mv (.t 69)⟩])
                  (.ret))
                 (.skip)))
               (.seq (.reg [⟨(some 13), none, .mv (.i .i64 0)⟩])
                (.block 6 (.loop (.seq (.seq (.reg [⟨(some 70), none, .mv (.t 13)⟩,
                      ⟨(some 71), none, .mv (.t 1)⟩,
                      ⟨(some 72), none, .bin .lss 3 (.t 70) (.t 71)⟩])
                    (.cond (.t 72)
                     (.skip)
                     (.exit 6)))
                   (.seq (.block 7 (.drw drw24_0 [⟨(some 75), none, .mv (.t 6)⟩,
                       ⟨(some 76), none, .mv (.t 13)⟩,
                       ⟨(some 77), none, .mv (.t 6)⟩,
                       ⟨(some 78), none, .mv (.t 13)⟩,
                       ⟨(some 79), none, .ia 37 (.t 77) (.t 78)⟩,
                       ⟨(some 80), none, .ld 22 (.t 79)⟩,
                       ⟨(some 81), none, .mv (.t 11)⟩,
                       ⟨(some 82), none, .mv (.t 13)⟩,
                       ⟨(some 83), none, .ia 22 (.t 81) (.t 82)⟩,
                       ⟨(some 84), none, .ld 23 (.t 83)⟩,
                       ⟨(some 85), none, .bsl 22 1 [(0, .t 84)]⟩,
                       ⟨(some 86), none, .bi .append [22, 22] [.t 80, .t 85]⟩,
                       ⟨(some 87), none, .ia 37 (.t 75) (.t 76)⟩,
                       ⟨none, none, .st 22 (.t 87) (.t 86)⟩]))
                    (.reg [⟨(some 73), none, .mv (.t 13)⟩,
                      ⟨(some 74), none, .bin .add 3 (.t 73) (.i .i64 1)⟩,
                      ⟨(some 13), none, .mv (.t 74)⟩])))))))))))
          (.reg [⟨(some 44), none, .mv (.t 8)⟩,
            ⟨(some 45), none, .bin .add 3 (.t 44) (.i .i64 1)⟩,
            ⟨(some 8), none, .mv (.t 45)⟩]))))))
     (.seq (.reg [⟨(some 88), none, .mv (.t 6)⟩,
        ⟨(some 4), none, .mv (.t 88)⟩,
        ⟨(some 5), none, .mv (.i .i64 0)⟩])
      (.ret))))))
theorem b24 : Body Try.prog 24 89 [4, 5] k24 := ⟨Enters.of Try.func24 (by kernel_rfl) (by kernel_rfl), _, _, Try.func24, rfl, by kernel_rfl, rfl, rfl⟩

/-- cartridge/cartridgelaw13.num -/
def k25 : KC :=
 .seq (.reg [⟨(some 2), none, .mv (.i .i64 0)⟩])
 (.seq (.reg [⟨(some 3), none, .mv (.t 0)⟩,
    ⟨(some 2), none, .mv (.t 3)⟩])
  (.ret))
theorem b25 : Body Try.prog 25 4 [2] k25 := ⟨Enters.of Try.func25 (by kernel_rfl) (by kernel_rfl), _, _, Try.func25, rfl, by kernel_rfl, rfl, rfl⟩

/-- cartridge/stripe.Len -/
def k26 : KC :=
 .seq (.reg [⟨(some 2), none, .mv (.i .i64 0)⟩])
 (.seq (.reg [⟨(some 3), none, .mv (.i .i64 0)⟩])
  (.seq (.seq (.reg [⟨(some 6), none, .mv (.t 0)⟩,
      ⟨(some 7), none, .bi .len [35] [.t 6]⟩,
      ⟨(some 8), none, .mv (.i .i64 0)⟩])
    (.block 0 (.loop (.seq (.reg [⟨(some 9), none, .bin .lss 3 (.t 8) (.t 7)⟩])
       (.seq (.cond (.t 9)
         (.skip)
         (.exit 0))
        (.seq (.block 1 (.seq (.reg [⟨(some 10), none, .ia 35 (.t 6) (.t 8)⟩,
             ⟨(some 11), none, .ld 48 (.t 10)⟩,
             ⟨(some 5), none, .al 48⟩,
             ⟨none, none, .st 48 (.t 5) (.t 11)⟩])
           (.seq (.reg [⟨(some 12), none, .fa 48 (.t 5) 3⟩,
              ⟨(some 13), none, .ld 4 (.t 12)⟩,
              ⟨(some 14), none, .un .not (.t 13)⟩])
            (.cond (.t 14)
             (.reg [⟨(some 15), none, .mv (.t 3)⟩,
               ⟨(some 16), none, .fa 48 (.t 5) 2⟩,
               ⟨(some 17), none, .ld 22 (.t 16)⟩,
               ⟨(some 18), none, .bi .len [22] [.t 17]⟩,
               ⟨(some 19), none, .bi .max [3, 3] [.t 15, .t 18]⟩,
               ⟨(some 3), none, .mv (.t 19)⟩])
             (.skip)))))
         (.reg [⟨(some 20), none, .bin .add 3 (.t 8) (.i .i64 1)⟩,
           ⟨(some 8), none, .mv (.t 20)⟩])))))))
   (.seq (.reg [⟨(some 21), none, .mv (.t 3)⟩,
      ⟨(some 2), none, .mv (.t 21)⟩])
    (.ret))))
theorem b26 : Body Try.prog 26 22 [2] k26 := ⟨Enters.of Try.func26 (by kernel_rfl) (by kernel_rfl), _, _, Try.func26, rfl, by kernel_rfl, rfl, rfl⟩

/-- cartridge/cartridgeref10.StripeLen -/
def k27 : KC :=
 .seq (.reg [⟨(some 2), none, .mv (.i .i64 0)⟩])
 (.seq (.reg [⟨(some 3), none, .mv (.i .i64 0)⟩])
  (.seq (.seq (.reg [⟨(some 4), none, .mv (.i .i64 0)⟩])
    (.block 0 (.loop (.seq (.seq (.reg [⟨(some 5), none, .mv (.t 4)⟩,
          ⟨(some 6), none, .mv (.t 0)⟩,
          ⟨(some 7), none, .bi .len [35] [.t 6]⟩,
          ⟨(some 8), none, .bin .lss 3 (.t 5) (.t 7)⟩])
        (.cond (.t 8)
         (.skip)
         (.exit 0)))
       (.seq (.block 1 (.seq (.reg [⟨(some 11), none, .mv (.t 0)⟩,
            ⟨(some 12), none, .mv (.t 4)⟩,
            ⟨(some 13), none, .ia 35 (.t 11) (.t 12)⟩,
            ⟨(some 14), none, .fa 48 (.t 13) 3⟩,
            ⟨(some 15), none, .ld 4 (.t 14)⟩,
            ⟨(some 16), none, .un .not (.t 15)⟩,
            ⟨(some 17), none, .mv (.t 16)⟩,
            ⟨(some 18), (some (17, true)), .mv (.t 0)⟩,
            ⟨(some 19), (some (17, true)), .mv (.t 4)⟩,
            ⟨(some 20), (some (17, true)), .ia 35 (.t 18) (.t 19)⟩,
            ⟨(some 21), (some (17, true)), .fa 48 (.t 20) 2⟩,
            ⟨(some 22), (some (17, true)), .ld 22 (.t 21)⟩,
            ⟨(some 23), (some (17, true)), .bi .len [22] [.t 22]⟩,
            ⟨(some 24), (some (17, true)), .mv (.t 3)⟩,
            ⟨(some 25), (some (17, true)), .bin .gtr 3 (.t 23) (.t 24)⟩,
            ⟨(some 26), none, .pk (.t 17) (.t 25) (.b false)⟩])
          (.cond (.t 26)
           (.reg [⟨(some 27), none, .mv (.t 0)⟩,
             ⟨(some 28), none, .mv (.t 4)⟩,
             ⟨(some 29), none, .ia 35 (.t 27) (.t 28)⟩,
             ⟨(some 30), none, .fa 48 (.t 29) 2⟩,
             ⟨(some 31), none, .ld 22 (.t 30)⟩,
             ⟨(some 32), none, .bi .len [22] [.t 31]⟩,
             ⟨(some 3), none, .mv (.t 32)⟩])
           (.skip))))
        (.reg [⟨(some 9), none, .mv (.t 4)⟩,
          ⟨(some 10), none, .bin .add 3 (.t 9) (.i .i64 1)⟩,
          ⟨(some 4), none, .mv (.t 10)⟩]))))))
   (.seq (.reg [⟨(some 33), none, .mv (.t 3)⟩,
      ⟨(some 2), none, .mv (.t 33)⟩])
    (.ret))))
theorem b27 : Body Try.prog 27 34 [2] k27 := ⟨Enters.of Try.func27 (by kernel_rfl) (by kernel_rfl), _, _, Try.func27, rfl, by kernel_rfl, rfl, rfl⟩

/-- cartridge/cartridgeref1.SameRows -/
noncomputable def drw28_0 : Array Oper := ((Try.f28.body.map regs).getD []).getD 0 #[]
noncomputable def k28 : KC :=
 .seq (.reg [⟨(some 4), none, .mv (.b false)⟩])
 (.seq (.seq (.reg [⟨(some 6), none, .mv (.t 0)⟩,
     ⟨(some 7), none, .bi .len [22] [.t 6]⟩,
     ⟨(some 8), none, .mv (.t 1)⟩,
     ⟨(some 9), none, .bi .len [22] [.t 8]⟩,
     ⟨(some 10), none, .bin .neq 3 (.t 7) (.t 9)⟩])
   (.cond (.t 10)
    (.seq (.reg [⟨(some 4), none, .mv (.b false)⟩])
     (.ret))
    (.skip)))
  (.seq (.seq (.reg [⟨(some 5), none, .mv (.i .i64 0)⟩])
    (.block 0 (.loop (.seq (.seq (.reg [⟨(some 11), none, .mv (.t 5)⟩,
          ⟨(some 12), none, .mv (.t 0)⟩,
          ⟨(some 13), none, .bi .len [22] [.t 12]⟩,
          ⟨(some 14), none, .bin .lss 3 (.t 11) (.t 13)⟩])
        (.cond (.t 14)
         (.skip)
         (.exit 0)))
       (.seq (.block 1 (.seq (.drw drw28_0 [⟨(some 17), none, .mv (.t 0)⟩,
            ⟨(some 18), none, .mv (.t 5)⟩,
            ⟨(some 19), none, .ia 22 (.t 17) (.t 18)⟩,
            ⟨(some 20), none, .ld 23 (.t 19)⟩,
            ⟨(some 21), none, .cvt 23 9 (.t 20)⟩,
            ⟨(some 22), none, .mv (.t 1)⟩,
            ⟨(some 23), none, .mv (.t 5)⟩,
            ⟨(some 24), none, .ia 22 (.t 22) (.t 23)⟩,
            ⟨(some 25), none, .ld 23 (.t 24)⟩,
            ⟨(some 26), none, .cvt 23 9 (.t 25)⟩,
            ⟨(some 27), none, .bin .neq 9 (.t 21) (.t 26)⟩])
          (.cond (.t 27)
           (.seq (.reg [⟨(some 4), none, .mv (.b false)⟩])
            (.ret))
           (.skip))))
        (.reg [⟨(some 15), none, .mv (.t 5)⟩,
          ⟨(some 16), none, .bin .add 3 (.t 15) (.i .i64 1)⟩,
          ⟨(some 5), none, .mv (.t 16)⟩]))))))
   (.seq (.reg [⟨(some 4), none, .mv (.b true)⟩])
    (.ret))))
theorem b28 : Body Try.prog 28 28 [4] k28 := ⟨Enters.of Try.func28 (by kernel_rfl) (by kernel_rfl), _, _, Try.func28, rfl, by kernel_rfl, rfl, rfl⟩

/-- cartridge/stripe.Row -/
def k29 : KC :=
 .seq (.reg [⟨(some 4), none, .mv (.ns)⟩])
 (.seq (.reg [⟨(some 5), none, .mv (.ns)⟩])
  (.seq (.seq (.reg [⟨(some 8), none, .mv (.t 0)⟩,
      ⟨(some 9), none, .bi .len [35] [.t 8]⟩,
      ⟨(some 10), none, .mv (.i .i64 0)⟩])
    (.block 0 (.loop (.seq (.reg [⟨(some 11), none, .bin .lss 3 (.t 10) (.t 9)⟩])
       (.seq (.cond (.t 11)
         (.skip)
         (.exit 0))
        (.seq (.block 1 (.seq (.reg [⟨(some 12), none, .ia 35 (.t 8) (.t 10)⟩,
             ⟨(some 13), none, .ld 48 (.t 12)⟩,
             ⟨(some 7), none, .al 48⟩,
             ⟨none, none, .st 48 (.t 7) (.t 13)⟩])
           (.reg [⟨(some 14), none, .mv (.t 5)⟩,
             ⟨(some 15), none, .ld 48 (.t 7)⟩,
             ⟨(some 16), none, .mv (.t 1)⟩,
             ⟨(some 17), none, .call (.fn 70) [.t 15, .t 16]⟩,
             ⟨(some 18), none, .bsl 22 1 [(0, .t 17)]⟩,
             ⟨(some 19), none, .bi .append [22, 22] [.t 14, .t 18]⟩,
             ⟨(some 5), none, .mv (.t 19)⟩])))
         (.reg [⟨(some 20), none, .bin .add 3 (.t 10) (.i .i64 1)⟩,
           ⟨(some 10), none, .mv (.t 20)⟩])))))))
   (.seq (.reg [⟨(some 21), none, .mv (.t 5)⟩,
      ⟨(some 4), none, .mv (.t 21)⟩])
    (.ret))))
theorem b29 : Body Try.prog 29 22 [4] k29 := ⟨Enters.of Try.func29 (by kernel_rfl) (by kernel_rfl), _, _, Try.func29, rfl, by kernel_rfl, rfl, rfl⟩

/-- cartridge/cartridgeref10.Row -/
def k30 : KC :=
 .seq (.reg [⟨(some 4), none, .mv (.ns)⟩])
 (.seq (.reg [⟨(some 5), none, .mv (.ns)⟩])
  (.seq (.seq (.reg [⟨(some 6), none, .mv (.i .i64 0)⟩])
    (.block 0 (.loop (.seq (.seq (.reg [⟨(some 7), none, .mv (.t 6)⟩,
          ⟨(some 8), none, .mv (.t 0)⟩,
          ⟨(some 9), none, .bi .len [35] [.t 8]⟩,
          ⟨(some 10), none, .bin .lss 3 (.t 7) (.t 9)⟩])
        (.cond (.t 10)
         (.skip)
         (.exit 0)))
       (.seq (.block 1 (.block 2 (.seq (.reg [⟨(some 17), none, .mv (.t 0)⟩,
             ⟨(some 18), none, .mv (.t 6)⟩,
             ⟨(some 19), none, .ia 35 (.t 17) (.t 18)⟩,
             ⟨(some 20), none, .fa 48 (.t 19) 3⟩,
             ⟨(some 21), none, .ld 4 (.t 20)⟩,
             ⟨(some 22), none, .mv (.t 21)⟩,
             ⟨(some 23), (some (22, false)), .mv (.t 1)⟩,
             ⟨(some 24), (some (22, false)), .bin .lss 3 (.t 23) (.i .i64 0)⟩,
             ⟨(some 25), none, .pk (.t 22) (.b true) (.t 24)⟩,
             ⟨(some 26), none, .mv (.t 25)⟩,
             ⟨(some 27), (some (26, false)), .mv (.t 1)⟩,
             ⟨(some 28), (some (26, false)), .mv (.t 0)⟩,
             ⟨(some 29), (some (26, false)), .mv (.t 6)⟩,
             ⟨(some 30), (some (26, false)), .ia 35 (.t 28) (.t 29)⟩,
             ⟨(some 31), (some (26, false)), .fa 48 (.t 30) 2⟩,
             ⟨(some 32), (some (26, false)), .ld 22 (.t 31)⟩,
             ⟨(some 33), (some (26, false)), .bi .len [22] [.t 32]⟩,
             ⟨(some 34), (some (26, false)), .bin .geq 3 (.t 27) (.t 33)⟩,
             ⟨(some 35), none, .pk (.t 26) (.b true) (.t 34)⟩,
             ⟨(some 16), none, .mv (.t 35)⟩])
           (.cond (.t 16)
            (.reg [⟨(some 36), none, .mv (.t 5)⟩,
              ⟨(some 37), none, .mk 23 (.i .i64 79) (.i .i64 79)⟩,
              ⟨(some 38), none, .bsl 22 1 [(0, .t 37)]⟩,
              ⟨(some 39), none, .bi .append [22, 22] [.t 36, .t 38]⟩,
              ⟨(some 5), none, .mv (.t 39)⟩])
            (.seq (.reg [⟨(some 41), none, .mv (.t 0)⟩,
               ⟨(some 42), none, .mv (.t 6)⟩,
               ⟨(some 43), none, .ia 35 (.t 41) (.t 42)⟩,
               ⟨(some 44), none, .fa 48 (.t 43) 2⟩,
               ⟨(some 45), none, .ld 22 (.t 44)⟩,
               ⟨(some 46), none, .mv (.t 1)⟩,
               ⟨(some 47), none, .ia 22 (.t 45) (.t 46)⟩,
               ⟨(some 48), none, .ld 23 (.t 47)⟩,
               ⟨(some 49), none, .bi .len [23] [.t 48]⟩,
               ⟨(some 50), none, .bin .eql 3 (.t 49) (.i .i64 79)⟩,
               ⟨(some 40), none, .mv (.t 50)⟩])
             (.cond (.t 40)
              (.reg [⟨(some 51), none, .mv (.t 5)⟩,
                ⟨(some 52), none, .mv (.t 0)⟩,
                ⟨(some 53), none, .mv (.t 6)⟩,
                ⟨(some 54), none, .ia 35 (.t 52) (.t 53)⟩,
                ⟨(some 55), none, .fa 48 (.t 54) 2⟩,
                ⟨(some 56), none, .ld 22 (.t 55)⟩,
                ⟨(some 57), none, .mv (.t 1)⟩,
                ⟨(some 58), none, .ia 22 (.t 56) (.t 57)⟩,
                ⟨(some 59), none, .ld 23 (.t 58)⟩,
                ⟨(some 60), none, .bi .append [23, 23] [.ns, .t 59]⟩,
                ⟨(some 61), none, .bsl 22 1 [(0, .t 60)]⟩,
                ⟨(some 62), none, .bi .append [22, 22] [.t 51, .t 61]⟩,
                ⟨(some 5), none, .mv (.t 62)⟩])
              (.reg [⟨(some 13), none, .mv (.t 5)⟩,
                ⟨(some 14), none, .bsl 22 1 [(0, .ns)]⟩,
                ⟨(some 15), none, .bi .append [22, 22] [.t 13, .t 14]⟩,
                ⟨(some 5), none, .mv (.t 15)⟩])))))))
        (.reg [⟨(some 11), none, .mv (.t 6)⟩,
          ⟨(some 12), none, .bin .add 3 (.t 11) (.i .i64 1)⟩,
          ⟨(some 6), none, .mv (.t 12)⟩]))))))
   (.seq (.reg [⟨(some 63), none, .mv (.t 5)⟩,
      ⟨(some 4), none, .mv (.t 63)⟩])
    (.ret))))
theorem b30 : Body Try.prog 30 64 [4] k30 := ⟨Enters.of Try.func30 (by kernel_rfl) (by kernel_rfl), _, _, Try.func30, rfl, by kernel_rfl, rfl, rfl⟩

/-- cartridge/matrix.Right -/
def k36 : KC :=
 .seq (.reg [⟨(some 1), none, .box 22 (.t 0)⟩,
   ⟨(some 2), none, .mv (.b false)⟩])
 (.seq (.seq (.reg [⟨(some 3), none, .ld 22 (.t 1)⟩,
     ⟨(some 4), none, .bi .len [22] [.t 3]⟩,
     ⟨(some 5), none, .bin .lss 3 (.t 4) (.i .i64 1)⟩,
     ⟨(some 6), none, .mv (.t 5)⟩,
     ⟨(some 7), (some (6, false)), .ld 22 (.t 1)⟩,
     ⟨(some 8), (some (6, false)), .bi .len [22] [.t 7]⟩,
     ⟨(some 9), (some (6, false)), .bin .gtr 3 (.t 8) (.i .i64 255)⟩,
     ⟨(some 10), none, .pk (.t 6) (.b true) (.t 9)⟩,
     ⟨(some 11), none, .mv (.t 10)⟩,
     ⟨(some 12), (some (11, false)), .ld 22 (.t 1)⟩,
     ⟨(some 13), (some (11, false)), .ia 22 (.t 12) (.i .i64 0)⟩,
     ⟨(some 14), (some (11, false)), .ld 23 (.t 13)⟩,
     ⟨(some 15), (some (11, false)), .bi .len [23] [.t 14]⟩,
     ⟨(some 16), (some (11, false)), .bin .lss 3 (.t 15) (.i .i64 1)⟩,
     ⟨(some 17), none, .pk (.t 11) (.b true) (.t 16)⟩,
     ⟨(some 18), none, .mv (.t 17)⟩,
     ⟨(some 19), (some (18, false)), .ld 22 (.t 1)⟩,
     ⟨(some 20), (some (18, false)), .ia 22 (.t 19) (.i .i64 0)⟩,
     ⟨(some 21), (some (18, false)), .ld 23 (.t 20)⟩,
     ⟨(some 22), (some (18, false)), .bi .len [23] [.t 21]⟩,
     ⟨(some 23), (some (18, false)), .bin .gtr 3 (.t 22) (.i .i64 255)⟩,
     ⟨(some 24), none, .pk (.t 18) (.b true) (.t 23)⟩])
   (.cond (.t 24)
    (.seq (.reg [⟨(some 2), none, .mv (.b false)⟩])
     (.ret))
    (.skip)))
  (.seq (.reg [⟨(some 25), none, .ld 22 (.t 1)⟩,
     ⟨(some 26), none, .mf 73 [.t 1]⟩,
     ⟨(some 27), none, .call (.fn 68) [.t 25, .t 26]⟩,
     ⟨(some 28), none, .un .not (.t 27)⟩,
     ⟨(some 2), none, .mv (.t 28)⟩])
   (.ret)))
theorem b36 : Body Try.prog 36 29 [2] k36 := ⟨Enters.of Try.func36 (by kernel_rfl) (by kernel_rfl), _, _, Try.func36, rfl, by kernel_rfl, rfl, rfl⟩

/-- cartridge/matrix.Cauchy -/
def k37 : KC :=
 .seq (.reg [⟨(some 4), none, .mv (.ns)⟩,
   ⟨(some 5), none, .mv (.i .i64 0)⟩])
 (.seq (.seq (.reg [⟨(some 10), none, .mv (.t 0)⟩,
     ⟨(some 11), none, .bin .lss 3 (.t 10) (.i .i64 1)⟩,
     ⟨(some 12), none, .mv (.t 11)⟩,
     ⟨(some 13), (some (12, false)), .mv (.t 1)⟩,
     ⟨(some 14), (some (12, false)), .bin .lss 3 (.t 13) (.i .i64 1)⟩,
     ⟨(some 15), none, .pk (.t 12) (.b true) (.t 14)⟩,
     ⟨(some 16), none, .mv (.t 15)⟩,
     ⟨(some 17), (some (16, false)), .mv (.t 0)⟩,
     ⟨(some 18), (some (16, false)), .bin .gtr 3 (.t 17) (.i .i64 255)⟩,
     ⟨(some 19), none, .pk (.t 16) (.b true) (.t 18)⟩,
     ⟨(some 20), none, .mv (.t 19)⟩,
     ⟨(some 21), (some (20, false)), .mv (.t 1)⟩,
     ⟨(some 22), (some (20, false)), .mv (.t 0)⟩,
     ⟨(some 23), (some (20, false)), .bin .sub 3 (.i .i64 255) (.t 22)⟩,
     ⟨(some 24), (some (20, false)), .bin .gtr 3 (.t 21) (.t 23)⟩,
     ⟨(some 25), none, .pk (.t 20) (.b true) (.t 24)⟩])
   (.cond (.t 25)
    (.seq (.reg [⟨(some 4), none, .mv (.ns)⟩,
       ⟨(some 5), none, .mv (.i .i64 1)⟩])
     (.ret))
    (.skip)))
  (.seq (.reg [⟨(some 6), none, .mv (.ns)⟩])
   (.seq (.seq (.reg [⟨(some 26), none, .mv (.t 1)⟩,
       ⟨(some 27), none, .mv (.i .i64 0)⟩])
     (.block 0 (.loop (.seq (.reg [⟨(some 28), none, .bin .lss 3 (.t 27) (.t 26)⟩])
        (.seq (.cond (.t 28)
          (.skip)
          (.exit 0))
         (.seq (.block 1 (.seq (.reg [⟨(some 29), none, .mv (.t 27)⟩,
              ⟨(some 7), none, .mv (.t 29)⟩])
            (.seq (.reg [⟨(some 8), none, .mv (.ns)⟩])
             (.seq (.seq (.reg [⟨(some 30), none, .mv (.t 0)⟩,
                 ⟨(some 31), none, .mv (.i .i64 0)⟩])
               (.block 2 (.loop (.seq (.reg [⟨(some 32), none, .bin .lss 3 (.t 31) (.t 30)⟩])
                  (.seq (.cond (.t 32)
                    (.skip)
                    (.exit 2))
                   (.seq (.block 3 (.seq (.reg [⟨(some 33), none, .mv (.t 31)⟩,
                        ⟨(some 9), none, .mv (.t 33)⟩])
                      (.reg [⟨(some 34), none, .mv (.t 8)⟩,
                        ⟨(some 35), none, .mv (.t 7)⟩,
                        ⟨(some 36), none, .cvt 3 5 (.t 35)⟩,
                        ⟨(some 37), none, .mv (.t 1)⟩,
                        ⟨(some 38), none, .mv (.t 9)⟩,
                        ⟨(some 39), none, .bin .add 3 (.t 37) (.t 38)⟩,
                        ⟨(some 40), none, .cvt 3 5 (.t 39)⟩,
                        ⟨(some 41), none, .call (.fn 74) [.t 36, .t 40]⟩,
                        ⟨(some 42), none, .call (.fn 63) [.t 41]⟩,
                        ⟨(some 43), none, .bsl 23 1 [(0, .t 42)]⟩,
                        ⟨(some 44), none, .bi .append [23, 23] [.t 34, .t 43]⟩,
                        ⟨(some 8), none, .mv (.t 44)⟩])))
                    (.reg [⟨(some 45), none, .bin .add 3 (.t 31) (.i .i64 1)⟩,
                      ⟨(some 31), none, .mv (.t 45)⟩])))))))
              (.reg [⟨(some 46), none, .mv (.t 6)⟩,
                ⟨(some 47), none, .mv (.t 8)⟩,
                ⟨(some 48), none, .bsl 22 1 [(0, .t 47)]⟩,
                ⟨(some 49), none, .bi .append [22, 22] [.t 46, .t 48]⟩,
                ⟨(some 6), none, .mv (.t 49)⟩])))))
          (.reg [⟨(some 50), none, .bin .add 3 (.t 27) (.i .i64 1)⟩,
            ⟨(some 27), none, .mv (.t 50)⟩])))))))
    (.seq (.reg [⟨(some 51), none, .mv (.t 6)⟩,
       ⟨(some 4), none, .mv (.t 51)⟩,
       ⟨(some 5), none, .mv (.i .i64 0)⟩])
     (.ret)))))
theorem b37 : Body Try.prog 37 52 [4, 5] k37 := ⟨Enters.of Try.func37 (by kernel_rfl) (by kernel_rfl), _, _, Try.func37, rfl, by kernel_rfl, rfl, rfl⟩

/-- cartridge/cartridgeref1.Cauchy -/
def k38 : KC :=
 .seq (.reg [⟨(some 4), none, .mv (.ns)⟩,
   ⟨(some 5), none, .mv (.i .i64 0)⟩])
 (.seq (.seq (.reg [⟨(some 10), none, .mv (.t 0)⟩,
     ⟨(some 11), none, .bin .lss 3 (.t 10) (.i .i64 1)⟩,
     ⟨(some 12), none, .mv (.t 11)⟩,
     ⟨(some 13), (some (12, false)), .mv (.t 1)⟩,
     ⟨(some 14), (some (12, false)), .bin .lss 3 (.t 13) (.i .i64 1)⟩,
     ⟨(some 15), none, .pk (.t 12) (.b true) (.t 14)⟩,
     ⟨(some 16), none, .mv (.t 15)⟩,
     ⟨(some 17), (some (16, false)), .mv (.t 0)⟩,
     ⟨(some 18), (some (16, false)), .bin .gtr 3 (.t 17) (.i .i64 255)⟩,
     ⟨(some 19), none, .pk (.t 16) (.b true) (.t 18)⟩,
     ⟨(some 20), none, .mv (.t 19)⟩,
     ⟨(some 21), (some (20, false)), .mv (.t 1)⟩,
     ⟨(some 22), (some (20, false)), .bin .gtr 3 (.t 21) (.i .i64 255)⟩,
     ⟨(some 23), none, .pk (.t 20) (.b true) (.t 22)⟩,
     ⟨(some 24), none, .mv (.t 23)⟩,
     ⟨(some 25), (some (24, false)), .mv (.t 0)⟩,
     ⟨(some 26), (some (24, false)), .mv (.t 1)⟩,
     ⟨(some 27), (some (24, false)), .bin .add 3 (.t 25) (.t 26)⟩,
     ⟨(some 28), (some (24, false)), .bin .gtr 3 (.t 27) (.i .i64 255)⟩,
     ⟨(some 29), none, .pk (.t 24) (.b true) (.t 28)⟩])
   (.cond (.t 29)
    (.seq (.reg [⟨(some 4), none, .mv (.ns)⟩,
       ⟨(some 5), none, .mv (.i .i64 1)⟩])
     (.ret))
    (.skip)))
  (.seq (.reg [⟨(some 6), none, .mv (.ns)⟩])
   (.seq (.seq (.reg [⟨(some 7), none, .mv (.i .i64 0)⟩])
     (.block 0 (.loop (.seq (.seq (.reg [⟨(some 30), none, .mv (.t 7)⟩,
           ⟨(some 31), none, .mv (.t 1)⟩,
           ⟨(some 32), none, .bin .lss 3 (.t 30) (.t 31)⟩])
         (.cond (.t 32)
          (.skip)
          (.exit 0)))
        (.seq (.block 1 (.seq (.reg [⟨(some 8), none, .mv (.ns)⟩])
           (.seq (.seq (.reg [⟨(some 9), none, .mv (.i .i64 0)⟩])
             (.block 2 (.loop (.seq (.seq (.reg [⟨(some 35), none, .mv (.t 9)⟩,
                   ⟨(some 36), none, .mv (.t 0)⟩,
                   ⟨(some 37), none, .bin .lss 3 (.t 35) (.t 36)⟩])
                 (.cond (.t 37)
                  (.skip)
                  (.exit 2)))
                (.seq (.block 3 (.reg [⟨(some 40), none, .mv (.t 8)⟩,
                    ⟨(some 41), none, .mv (.t 7)⟩,
                    ⟨(some 42), none, .cvt 3 5 (.t 41)⟩,
                    ⟨(some 43), none, .mv (.t 1)⟩,
                    ⟨(some 44), none, .mv (.t 9)⟩,
                    ⟨(some 45), none, .bin .add 3 (.t 43) (.t 44)⟩,
                    ⟨(some 46), none, .cvt 3 5 (.t 45)⟩,
                    ⟨(some 47), none, .bin .xor 5 (.t 42) (.t 46)⟩,
                    ⟨(some 48), none, .call (.fn 72) [.t 47]⟩,
                    ⟨(some 49), none, .bsl 23 1 [(0, .t 48)]⟩,
                    ⟨(some 50), none, .bi .append [23, 23] [.t 40, .t 49]⟩,
                    ⟨(some 8), none, .mv (.t 50)⟩]))
                 (.reg [⟨(some 38), none, .mv (.t 9)⟩,
                   ⟨(some 39), none, .bin .add 3 (.t 38) (.i .i64 1)⟩,
                   ⟨(some 9), none, .mv (.t 39)⟩]))))))
            (.reg [⟨(some 51), none, .mv (.t 6)⟩,
              ⟨(some 52), none, .mv (.t 8)⟩,
              ⟨(some 53), none, .bsl 22 1 [(0, .t 52)]⟩,
              ⟨(some 54), none, .bi .append [22, 22] [.t 51, .t 53]⟩,
              ⟨(some 6), none, .mv (.t 54)⟩]))))
         (.reg [⟨(some 33), none, .mv (.t 7)⟩,
           ⟨(some 34), none, .bin .add 3 (.t 33) (.i .i64 1)⟩,
           ⟨(some 7), none, .mv (.t 34)⟩]))))))
    (.seq (.reg [⟨(some 55), none, .mv (.t 6)⟩,
       ⟨(some 4), none, .mv (.t 55)⟩,
       ⟨(some 5), none, .mv (.i .i64 0)⟩])
     (.ret)))))
theorem b38 : Body Try.prog 38 56 [4, 5] k38 := ⟨Enters.of Try.func38 (by kernel_rfl) (by kernel_rfl), _, _, Try.func38, rfl, by kernel_rfl, rfl, rfl⟩

/-- cartridge/erasure.Encode -/
def k55 : KC :=
 .seq (.reg [⟨(some 4), none, .mv (.ns)⟩,
   ⟨(some 5), none, .mv (.i .i64 0)⟩])
 (.seq (.seq (.reg [⟨(some 8), none, .mv (.t 0)⟩,
     ⟨(some 9), none, .bi .len [22] [.t 8]⟩,
     ⟨(some 10), none, .bin .lss 3 (.t 9) (.i .i64 1)⟩,
     ⟨(some 11), none, .mv (.t 10)⟩,
     ⟨(some 12), (some (11, false)), .mv (.t 0)⟩,
     ⟨(some 13), (some (11, false)), .bi .len [22] [.t 12]⟩,
     ⟨(some 14), (some (11, false)), .bin .gtr 3 (.t 13) (.i .i64 255)⟩,
     ⟨(some 15), none, .pk (.t 11) (.b true) (.t 14)⟩,
     ⟨(some 16), none, .mv (.t 15)⟩,
     ⟨(some 17), (some (16, false)), .mv (.t 1)⟩,
     ⟨(some 18), (some (16, false)), .bin .lss 3 (.t 17) (.i .i64 0)⟩,
     ⟨(some 19), none, .pk (.t 16) (.b true) (.t 18)⟩,
     ⟨(some 20), none, .mv (.t 19)⟩,
     ⟨(some 21), (some (20, false)), .mv (.t 1)⟩,
     ⟨(some 22), (some (20, false)), .mv (.t 0)⟩,
     ⟨(some 23), (some (20, false)), .bi .len [22] [.t 22]⟩,
     ⟨(some 24), (some (20, false)), .bin .sub 3 (.i .i64 255) (.t 23)⟩,
     ⟨(some 25), (some (20, false)), .bin .gtr 3 (.t 21) (.t 24)⟩,
     ⟨(some 26), none, .pk (.t 20) (.b true) (.t 25)⟩,
     ⟨(some 27), none, .mv (.t 26)⟩,
     ⟨(some 28), (some (27, false)), .mv (.t 0)⟩,
     ⟨(some 29), (some (27, false)), .call (.fn 93) [.t 28]⟩,
     ⟨(some 30), (some (27, false)), .un .not (.t 29)⟩,
     ⟨(some 31), none, .pk (.t 27) (.b true) (.t 30)⟩])
   (.cond (.t 31)
    (.seq (.reg [⟨(some 4), none, .mv (.ns)⟩,
       ⟨(some 5), none, .mv (.i .i64 1)⟩])
     (.ret))
    (.skip)))
  (.seq (.seq (.reg [⟨(some 32), none, .mv (.t 1)⟩,
      ⟨(some 33), none, .bin .eql 3 (.t 32) (.i .i64 0)⟩])
    (.cond (.t 33)
     (.seq (.reg [⟨(some 4), none, .mv (.ns)⟩,
        ⟨(some 5), none, .mv (.i .i64 0)⟩])
      (.ret))
     (.skip)))
   (.seq (.reg [⟨(some 35), none, .mv (.t 0)⟩,
      ⟨(some 36), none, .bi .len [22] [.t 35]⟩,
      ⟨(some 37), none, .mv (.t 1)⟩,
      ⟨(some 38), none, .call (.fn 37) [.t 36, .t 37]⟩,
      ⟨(some 34), none, .mv (.t 38)⟩,
      ⟨(some 39), none, .ex (.t 34) 0⟩,
      ⟨(some 40), none, .ex (.t 34) 1⟩,
      ⟨(some 6), none, .mv (.t 39)⟩,
      ⟨(some 7), none, .mv (.t 40)⟩])
    (.seq (.seq (.reg [⟨(some 41), none, .mv (.t 7)⟩,
        ⟨(some 42), none, .bin .neq 26 (.t 41) (.i .i64 0)⟩])
      (.cond (.t 42)
       (.seq (.reg [⟨(some 43), none, .mv (.t 7)⟩,
          ⟨(some 4), none, .mv (.ns)⟩,
          ⟨(some 5), none, .mv (.t 43)⟩])
        (.ret))
       (.skip)))
     (.seq (.reg [⟨(some 44), none, .mv (.t 6)⟩,
        ⟨(some 45), none, .mv (.t 0)⟩,
        ⟨(some 46), none, .call (.fn 94) [.t 44, .t 45]⟩,
        ⟨(some 4), none, .mv (.t 46)⟩,
        ⟨(some 5), none, .mv (.i .i64 0)⟩])
      (.ret))))))
theorem b55 : Body Try.prog 55 47 [4, 5] k55 := ⟨Enters.of Try.func55 (by kernel_rfl) (by kernel_rfl), _, _, Try.func55, rfl, by kernel_rfl, rfl, rfl⟩

/-- cartridge/cartridgeref1.Encode -/
noncomputable def drw56_0 : Array Oper := ((Try.f56.body.map regs).getD []).getD 0 #[]
noncomputable def drw56_1 : Array Oper := ((Try.f56.body.map regs).getD []).getD 1 #[]
noncomputable def k56 : KC :=
 .seq (.reg [⟨(some 4), none, .mv (.ns)⟩,
   ⟨(some 5), none, .mv (.i .i64 0)⟩])
 (.seq (.seq (.reg [⟨(some 14), none, .mv (.t 0)⟩,
     ⟨(some 15), none, .bi .len [22] [.t 14]⟩,
     ⟨(some 16), none, .bin .lss 3 (.t 15) (.i .i64 1)⟩,
     ⟨(some 17), none, .mv (.t 16)⟩,
     ⟨(some 18), (some (17, false)), .mv (.t 1)⟩,
     ⟨(some 19), (some (17, false)), .bin .lss 3 (.t 18) (.i .i64 0)⟩,
     ⟨(some 20), none, .pk (.t 17) (.b true) (.t 19)⟩,
     ⟨(some 21), none, .mv (.t 20)⟩,
     ⟨(some 22), (some (21, false)), .mv (.t 1)⟩,
     ⟨(some 23), (some (21, false)), .bin .gtr 3 (.t 22) (.i .i64 255)⟩,
     ⟨(some 24), none, .pk (.t 21) (.b true) (.t 23)⟩,
     ⟨(some 25), none, .mv (.t 24)⟩,
     ⟨(some 26), (some (25, false)), .mv (.t 0)⟩,
     ⟨(some 27), (some (25, false)), .bi .len [22] [.t 26]⟩,
     ⟨(some 28), (some (25, false)), .mv (.t 1)⟩,
     ⟨(some 29), (some (25, false)), .bin .add 3 (.t 27) (.t 28)⟩,
     ⟨(some 30), (some (25, false)), .bin .gtr 3 (.t 29) (.i .i64 255)⟩,
     ⟨(some 31), none, .pk (.t 25) (.b true) (.t 30)⟩])
   (.cond (.t 31)
    (.seq (.reg [⟨(some 4), none, .mv (.ns)⟩,
       ⟨(some 5), none, .mv (.i .i64 1)⟩])
     (.ret))
    (.skip)))
  (.seq (.seq (.reg [⟨(some 6), none, .mv (.i .i64 1)⟩])
    (.block 0 (.loop (.seq (.seq (.reg [⟨(some 32), none, .mv (.t 6)⟩,
          ⟨(some 33), none, .mv (.t 0)⟩,
          ⟨(some 34), none, .bi .len [22] [.t 33]⟩,
          ⟨(some 35), none, .bin .lss 3 (.t 32) (.t 34)⟩])
        (.cond (.t 35)
         (.skip)
         (.exit 0)))
       (.seq (.block 1 (.seq (.drw drw56_0 [⟨(some 38), none, .mv (.t 0)⟩,
            ⟨(some 39), none, .mv (.t 6)⟩,
            ⟨(some 40), none, .ia 22 (.t 38) (.t 39)⟩,
            ⟨(some 41), none, .ld 23 (.t 40)⟩,
            ⟨(some 42), none, .bi .len [23] [.t 41]⟩,
            ⟨(some 43), none, .mv (.t 0)⟩,
            ⟨(some 44), none, .ia 22 (.t 43) (.i .i64 0)⟩,
            ⟨(some 45), none, .ld 23 (.t 44)⟩,
            ⟨(some 46), none, .bi .len [23] [.t 45]⟩,
            ⟨(some 47), none, .bin .neq 3 (.t 42) (.t 46)⟩])
          (.cond (.t 47)
           (.seq (.reg [⟨(some 4), none, .mv (.ns)⟩,
              ⟨(some 5), none, .mv (.i .i64 1)⟩])
            (.ret))
           (.skip))))
        (.reg [⟨(some 36), none, .mv (.t 6)⟩,
          ⟨(some 37), none, .bin .add 3 (.t 36) (.i .i64 1)⟩,
          ⟨(some 6), none, .mv (.t 37)⟩]))))))
   (.seq (.seq (.reg [⟨(some 48), none, .mv (.t 1)⟩,
       ⟨(some 49), none, .bin .eql 3 (.t 48) (.i .i64 0)⟩])
     (.cond (.t 49)
      (.seq (.reg [⟨(some 4), none, .mv (.ns)⟩,
         ⟨(some 5), none, .mv (.i .i64 0)⟩])
       (.ret))
      (.skip)))
    (.seq (.reg [⟨(some 51), none, .mv (.t 0)⟩,
       ⟨(some 52), none, .bi .len [22] [.t 51]⟩,
       ⟨(some 53), none, .mv (.t 1)⟩,
       ⟨(some 54), none, .call (.fn 38) [.t 52, .t 53]⟩,
       ⟨(some 50), none, .mv (.t 54)⟩,
       ⟨(some 55), none, .ex (.t 50) 0⟩,
       ⟨(some 56), none, .ex (.t 50) 1⟩,
       ⟨(some 7), none, .mv (.t 55)⟩,
       ⟨(some 8), none, .mv (.t 56)⟩])
     (.seq (.reg [⟨(some 9), none, .mv (.ns)⟩])
      (.seq (.seq (.reg [⟨(some 10), none, .mv (.i .i64 0)⟩])
        (.block 2 (.loop (.seq (.seq (.reg [⟨(some 57), none, .mv (.t 10)⟩,
              ⟨(some 58), none, .mv (.t 1)⟩,
              ⟨(some 59), none, .bin .lss 3 (.t 57) (.t 58)⟩])
            (.cond (.t 59)
             (.skip)
             (.exit 2)))
           (.seq (.block 3 (.seq (.reg [⟨(some 62), none, .mv (.t 0)⟩,
                ⟨(some 63), none, .ia 22 (.t 62) (.i .i64 0)⟩,
                ⟨(some 64), none, .ld 23 (.t 63)⟩,
                ⟨(some 65), none, .bi .len [23] [.t 64]⟩,
                ⟨(some 66), none, .mk 23 (.t 65) (.t 65)⟩,
                ⟨(some 11), none, .mv (.t 66)⟩])
              (.seq (.seq (.reg [⟨(some 12), none, .mv (.i .i64 0)⟩])
                (.block 4 (.loop (.seq (.seq (.reg [⟨(some 67), none, .mv (.t 12)⟩,
                      ⟨(some 68), none, .mv (.t 11)⟩,
                      ⟨(some 69), none, .bi .len [23] [.t 68]⟩,
                      ⟨(some 70), none, .bin .lss 3 (.t 67) (.t 69)⟩])
                    (.cond (.t 70)
                     (.skip)
                     (.exit 4)))
                   (.seq (.block 5 (.seq (.reg [⟨(some 13), none, .mv (.i .i64 0)⟩])
                      (.block 6 (.loop (.seq (.seq (.reg [⟨(some 73), none, .mv (.t 13)⟩,
                            ⟨(some 74), none, .mv (.t 0)⟩,
                            ⟨(some 75), none, .bi .len [22] [.t 74]⟩,
                            ⟨(some 76), none, .bin .lss 3 (.t 73) (.t 75)⟩])
                          (.cond (.t 76)
                           (.skip)
                           (.exit 6)))
                         (.seq (.block 7 (.drw drw56_1 [⟨(some 79), none, .mv (.t 11)⟩,
                             ⟨(some 80), none, .mv (.t 12)⟩,
                             ⟨(some 81), none, .mv (.t 11)⟩,
                             ⟨(some 82), none, .mv (.t 12)⟩,
                             ⟨(some 83), none, .ia 23 (.t 81) (.t 82)⟩,
                             ⟨(some 84), none, .ld 5 (.t 83)⟩,
                             ⟨(some 85), none, .mv (.t 7)⟩,
                             ⟨(some 86), none, .mv (.t 10)⟩,
                             ⟨(some 87), none, .ia 22 (.t 85) (.t 86)⟩,
                             ⟨(some 88), none, .ld 23 (.t 87)⟩,
                             ⟨(some 89), none, .mv (.t 13)⟩,
                             ⟨(some 90), none, .ia 23 (.t 88) (.t 89)⟩,
                             ⟨(some 91), none, .ld 5 (.t 90)⟩,
                             ⟨(some 92), none, .mv (.t 0)⟩,
                             ⟨(some 93), none, .mv (.t 13)⟩,
                             ⟨(some 94), none, .ia 22 (.t 92) (.t 93)⟩,
                             ⟨(some 95), none, .ld 23 (.t 94)⟩,
                             ⟨(some 96), none, .mv (.t 12)⟩,
                             ⟨(some 97), none, .ia 23 (.t 95) (.t 96)⟩,
                             ⟨(some 98), none, .ld 5 (.t 97)⟩,
                             ⟨(some 99), none, .call (.fn 20) [.t 91, .t 98]⟩,
                             ⟨(some 100), none, .bin .xor 5 (.t 84) (.t 99)⟩,
                             ⟨(some 101), none, .ia 23 (.t 79) (.t 80)⟩,
                             ⟨none, none, .st 5 (.t 101) (.t 100)⟩]))
                          (.reg [⟨(some 77), none, .mv (.t 13)⟩,
                            ⟨(some 78), none, .bin .add 3 (.t 77) (.i .i64 1)⟩,
                            ⟨(some 13), none, .mv (.t 78)⟩])))))))
                    (.reg [⟨(some 71), none, .mv (.t 12)⟩,
                      ⟨(some 72), none, .bin .add 3 (.t 71) (.i .i64 1)⟩,
                      ⟨(some 12), none, .mv (.t 72)⟩]))))))
               (.reg [⟨(some 102), none, .mv (.t 9)⟩,
                 ⟨(some 103), none, .mv (.t 11)⟩,
                 ⟨(some 104), none, .bsl 22 1 [(0, .t 103)]⟩,
                 ⟨(some 105), none, .bi .append [22, 22] [.t 102, .t 104]⟩,
                 ⟨(some 9), none, .mv (.t 105)⟩]))))
            (.reg [⟨(some 60), none, .mv (.t 10)⟩,
              ⟨(some 61), none, .bin .add 3 (.t 60) (.i .i64 1)⟩,
              ⟨(some 10), none, .mv (.t 61)⟩]))))))
       (.seq (.reg [⟨(some 106), none, .mv (.t 9)⟩,
          ⟨(some 4), none, .mv (.t 106)⟩,
          ⟨(some 5), none, .mv (.i .i64 0)⟩])
        (.ret))))))))
theorem b56 : Body Try.prog 56 107 [4, 5] k56 := ⟨Enters.of Try.func56 (by kernel_rfl) (by kernel_rfl), _, _, Try.func56, rfl, by kernel_rfl, rfl, rfl⟩

/-- slices.IndexFunc[[][]byte,[]byte] -/
def k60 : KC :=
 .seq (.reg [⟨(some 4), none, .mv (.i .i64 0)⟩])
 (.seq (.seq (.reg [⟨(some 6), none, .mv (.t 0)⟩,
     ⟨(some 7), none, .bi .len [22] [.t 6]⟩,
     ⟨(some 8), none, .mv (.i .i64 0)⟩])
   (.block 0 (.loop (.seq (.reg [⟨(some 9), none, .bin .lss 3 (.t 8) (.t 7)⟩])
      (.seq (.cond (.t 9)
        (.skip)
        (.exit 0))
       (.seq (.block 1 (.seq (.reg [⟨(some 10), none, .mv (.t 8)⟩,
            ⟨(some 5), none, .mv (.t 10)⟩])
          (.seq (.reg [⟨(some 11), none, .mv (.t 1)⟩,
             ⟨(some 12), none, .mv (.t 0)⟩,
             ⟨(some 13), none, .mv (.t 5)⟩,
             ⟨(some 14), none, .ia 22 (.t 12) (.t 13)⟩,
             ⟨(some 15), none, .ld 23 (.t 14)⟩,
             ⟨(some 16), none, .call (.t 11) [.t 15]⟩])
           (.cond (.t 16)
            (.seq (.reg [⟨(some 17), none, .mv (.t 5)⟩,
               ⟨(some 4), none, .mv (.t 17)⟩])
             (.ret))
            (.skip)))))
        (.reg [⟨(some 18), none, .bin .add 3 (.t 8) (.i .i64 1)⟩,
          ⟨(some 8), none, .mv (.t 18)⟩])))))))
  (.seq (.reg [⟨(some 4), none, .mv (.i .i64 (-1))⟩])
   (.ret)))
theorem b60 : Body Try.prog 60 19 [4] k60 := ⟨Enters.of Try.func60 (by kernel_rfl) (by kernel_rfl), _, _, Try.func60, rfl, by kernel_rfl, rfl, rfl⟩

/-- cartridge/gf.Inv -/
def k63 : KC :=
 .seq (.reg [⟨(some 2), none, .mv (.i .u8 0)⟩])
 (.seq (.reg [⟨(some 3), none, .mv (.t 0)⟩,
    ⟨(some 4), none, .call (.fn 98) [.t 3, .i .i64 254]⟩,
    ⟨(some 2), none, .mv (.t 4)⟩])
  (.ret))
theorem b63 : Body Try.prog 63 5 [2] k63 := ⟨Enters.of Try.func63 (by kernel_rfl) (by kernel_rfl), _, _, Try.func63, rfl, by kernel_rfl, rfl, rfl⟩

/-- slices.Clone[[]byte,byte] -/
def k65 : KC :=
 .seq (.reg [⟨(some 2), none, .mv (.ns)⟩])
 (.seq (.seq (.reg [⟨(some 3), none, .mv (.t 0)⟩,
     ⟨(some 4), none, .bin .eql 23 (.t 3) (.ns)⟩])
   (.cond (.t 4)
    (.seq (.reg [⟨(some 2), none, .mv (.ns)⟩])
     (.ret))
    (.skip)))
  (.seq (.reg [⟨(some 5), none, .bsl 23 0 []⟩,
     ⟨(some 6), none, .mv (.t 0)⟩,
     ⟨(some 7), none, .bi .append [23, 23] [.t 5, .t 6]⟩,
     ⟨(some 2), none, .mv (.t 7)⟩])
   (.ret)))
theorem b65 : Body Try.prog 65 8 [2] k65 := ⟨Enters.of Try.func65 (by kernel_rfl) (by kernel_rfl), _, _, Try.func65, rfl, by kernel_rfl, rfl, rfl⟩

/-- cartridge/matrix.apply -/
noncomputable def drw66_0 : Array Oper := ((Try.f66.body.map regs).getD []).getD 0 #[]
noncomputable def k66 : KC :=
 .seq (.reg [⟨(some 4), none, .mv (.ns)⟩])
 (.seq (.reg [⟨(some 10), none, .mv (.t 0)⟩,
    ⟨(some 11), none, .bi .len [22] [.t 10]⟩,
    ⟨(some 12), none, .mk 23 (.t 11) (.t 11)⟩,
    ⟨(some 5), none, .mv (.t 12)⟩])
  (.seq (.seq (.reg [⟨(some 13), none, .mv (.t 0)⟩,
      ⟨(some 14), none, .bi .len [22] [.t 13]⟩,
      ⟨(some 15), none, .mv (.i .i64 0)⟩])
    (.block 0 (.loop (.seq (.reg [⟨(some 16), none, .bin .lss 3 (.t 15) (.t 14)⟩])
       (.seq (.cond (.t 16)
         (.skip)
         (.exit 0))
        (.seq (.block 1 (.seq (.reg [⟨(some 17), none, .mv (.t 15)⟩,
             ⟨(some 18), none, .ia 22 (.t 13) (.t 15)⟩,
             ⟨(some 19), none, .ld 23 (.t 18)⟩,
             ⟨(some 6), none, .mv (.t 17)⟩,
             ⟨(some 7), none, .mv (.t 19)⟩])
           (.seq (.reg [⟨(some 20), none, .mv (.t 7)⟩,
              ⟨(some 21), none, .bi .len [23] [.t 20]⟩,
              ⟨(some 22), none, .mv (.i .i64 0)⟩])
            (.block 2 (.loop (.seq (.reg [⟨(some 23), none, .bin .lss 3 (.t 22) (.t 21)⟩])
               (.seq (.cond (.t 23)
                 (.skip)
                 (.exit 2))
                (.seq (.block 3 (.seq (.reg [⟨(some 24), none, .mv (.t 22)⟩,
                     ⟨(some 25), none, .ia 23 (.t 20) (.t 22)⟩,
                     ⟨(some 26), none, .ld 5 (.t 25)⟩,
                     ⟨(some 8), none, .mv (.t 24)⟩,
                     ⟨(some 9), none, .mv (.t 26)⟩])
                   (.drw drw66_0 [⟨(some 27), none, .mv (.t 5)⟩,
                     ⟨(some 28), none, .mv (.t 6)⟩,
                     ⟨(some 29), none, .mv (.t 5)⟩,
                     ⟨(some 30), none, .mv (.t 6)⟩,
                     ⟨(some 31), none, .ia 23 (.t 29) (.t 30)⟩,
                     ⟨(some 32), none, .ld 5 (.t 31)⟩,
                     ⟨(some 33), none, .mv (.t 9)⟩,
                     ⟨(some 34), none, .mv (.t 1)⟩,
                     ⟨(some 35), none, .mv (.t 8)⟩,
                     ⟨(some 36), none, .ia 23 (.t 34) (.t 35)⟩,
                     ⟨(some 37), none, .ld 5 (.t 36)⟩,
                     ⟨(some 38), none, .call (.fn 97) [.t 33, .t 37]⟩,
                     ⟨(some 39), none, .call (.fn 74) [.t 32, .t 38]⟩,
                     ⟨(some 40), none, .ia 23 (.t 27) (.t 28)⟩,
                     ⟨none, none, .st 5 (.t 40) (.t 39)⟩])))
                 (.reg [⟨(some 41), none, .bin .add 3 (.t 22) (.i .i64 1)⟩,
                   ⟨(some 22), none, .mv (.t 41)⟩])))))))))
         (.reg [⟨(some 42), none, .bin .add 3 (.t 15) (.i .i64 1)⟩,
           ⟨(some 15), none, .mv (.t 42)⟩])))))))
   (.seq (.reg [⟨(some 43), none, .mv (.t 5)⟩,
      ⟨(some 4), none, .mv (.t 43)⟩])
    (.ret))))
theorem b66 : Body Try.prog 66 44 [4] k66 := ⟨Enters.of Try.func66 (by kernel_rfl) (by kernel_rfl), _, _, Try.func66, rfl, by kernel_rfl, rfl, rfl⟩

/-- cartridge/cartridgelaw8.Few -/
def k67 : KC :=
 .seq (.reg [⟨(some 1), none, .box 48 (.t 0)⟩,
   ⟨(some 2), none, .mv (.b false)⟩])
 (.seq (.seq (.reg [⟨(some 3), none, .mv (.i .i64 0)⟩])
   (.block 0 (.loop (.seq (.seq (.reg [⟨(some 4), none, .mv (.t 3)⟩,
         ⟨(some 5), none, .fa 48 (.t 1) 2⟩,
         ⟨(some 6), none, .ld 22 (.t 5)⟩,
         ⟨(some 7), none, .bi .len [22] [.t 6]⟩,
         ⟨(some 8), none, .bin .lss 3 (.t 4) (.t 7)⟩,
         ⟨(some 9), none, .mv (.t 8)⟩,
         ⟨(some 10), (some (9, true)), .mv (.t 3)⟩,
         ⟨(some 11), (some (9, true)), .bin .lss 3 (.t 10) (.i .i64 100)⟩,
         ⟨(some 12), none, .pk (.t 9) (.t 11) (.b false)⟩])
       (.cond (.t 12)
        (.skip)
        (.exit 0)))
      (.seq (.block 1 (.seq (.reg [⟨(some 15), none, .fa 48 (.t 1) 2⟩,
           ⟨(some 16), none, .ld 22 (.t 15)⟩,
           ⟨(some 17), none, .mv (.t 3)⟩,
           ⟨(some 18), none, .ia 22 (.t 16) (.t 17)⟩,
           ⟨(some 19), none, .ld 23 (.t 18)⟩,
           ⟨(some 20), none, .bi .len [23] [.t 19]⟩,
           ⟨(some 21), none, .bin .gtr 3 (.t 20) (.i .i64 300)⟩])
         (.cond (.t 21)
          (.seq (.reg [⟨(some 2), none, .mv (.b false)⟩])
           (.ret))
          (.skip))))
       (.reg [⟨(some 13), none, .mv (.t 3)⟩,
         ⟨(some 14), none, .bin .add 3 (.t 13) (.i .i64 1)⟩,
         ⟨(some 3), none, .mv (.t 14)⟩]))))))
  (.seq (.reg [⟨(some 22), none, .fa 48 (.t 1) 2⟩,
     ⟨(some 23), none, .ld 22 (.t 22)⟩,
     ⟨(some 24), none, .bi .len [22] [.t 23]⟩,
     ⟨(some 25), none, .bin .leq 3 (.t 24) (.i .i64 90)⟩,
     ⟨(some 2), none, .mv (.t 25)⟩])
   (.ret)))
theorem b67 : Body Try.prog 67 26 [2] k67 := ⟨Enters.of Try.func67 (by kernel_rfl) (by kernel_rfl), _, _, Try.func67, rfl, by kernel_rfl, rfl, rfl⟩

/-- slices.ContainsFunc[[][]byte,[]byte] -/
def k68 : KC :=
 .seq (.reg [⟨(some 4), none, .mv (.b false)⟩])
 (.seq (.reg [⟨(some 5), none, .mv (.t 0)⟩,
    ⟨(some 6), none, .mv (.t 1)⟩,
    ⟨(some 7), none, .call (.fn 60) [.t 5, .t 6]⟩,
    ⟨(some 8), none, .bin .geq 3 (.t 7) (.i .i64 0)⟩,
    ⟨(some 4), none, .mv (.t 8)⟩])
  (.ret))
theorem b68 : Body Try.prog 68 9 [4] k68 := ⟨Enters.of Try.func68 (by kernel_rfl) (by kernel_rfl), _, _, Try.func68, rfl, by kernel_rfl, rfl, rfl⟩

/-- cartridge/stripe.Parity$1 -/
def k69 : KC :=
 .seq (.reg [⟨(some 2), none, .mv (.b false)⟩])
 (.seq (.reg [⟨(some 3), none, .mv (.t 0)⟩,
    ⟨(some 4), none, .bi .len [23] [.t 3]⟩,
    ⟨(some 5), none, .bin .eql 3 (.t 4) (.i .i64 0)⟩,
    ⟨(some 2), none, .mv (.t 5)⟩])
  (.ret))
theorem b69 : Body Try.prog 69 6 [2] k69 := ⟨Enters.of Try.func69 (by kernel_rfl) (by kernel_rfl), _, _, Try.func69, rfl, by kernel_rfl, rfl, rfl⟩

/-- cartridge/stripe.cell -/
def k70 : KC :=
 .seq (.reg [⟨(some 2), none, .box 48 (.t 0)⟩,
   ⟨(some 4), none, .mv (.ns)⟩])
 (.seq (.seq (.reg [⟨(some 5), none, .fa 48 (.t 2) 3⟩,
     ⟨(some 6), none, .ld 4 (.t 5)⟩,
     ⟨(some 7), none, .mv (.t 6)⟩,
     ⟨(some 8), (some (7, false)), .mv (.t 1)⟩,
     ⟨(some 9), (some (7, false)), .bin .lss 3 (.t 8) (.i .i64 0)⟩,
     ⟨(some 10), none, .pk (.t 7) (.b true) (.t 9)⟩,
     ⟨(some 11), none, .mv (.t 10)⟩,
     ⟨(some 12), (some (11, false)), .mv (.t 1)⟩,
     ⟨(some 13), (some (11, false)), .fa 48 (.t 2) 2⟩,
     ⟨(some 14), (some (11, false)), .ld 22 (.t 13)⟩,
     ⟨(some 15), (some (11, false)), .bi .len [22] [.t 14]⟩,
     ⟨(some 16), (some (11, false)), .bin .geq 3 (.t 12) (.t 15)⟩,
     ⟨(some 17), none, .pk (.t 11) (.b true) (.t 16)⟩])
   (.cond (.t 17)
    (.seq (.reg [⟨(some 18), none, .mk 23 (.i .i64 79) (.i .i64 79)⟩,
       ⟨(some 4), none, .mv (.t 18)⟩])
     (.ret))
    (.skip)))
  (.seq (.seq (.reg [⟨(some 19), none, .fa 48 (.t 2) 2⟩,
      ⟨(some 20), none, .ld 22 (.t 19)⟩,
      ⟨(some 21), none, .mv (.t 1)⟩,
      ⟨(some 22), none, .ia 22 (.t 20) (.t 21)⟩,
      ⟨(some 23), none, .ld 23 (.t 22)⟩,
      ⟨(some 24), none, .bi .len [23] [.t 23]⟩,
      ⟨(some 25), none, .bin .neq 3 (.t 24) (.i .i64 79)⟩])
    (.cond (.t 25)
     (.seq (.reg [⟨(some 4), none, .mv (.ns)⟩])
      (.ret))
     (.skip)))
   (.seq (.reg [⟨(some 26), none, .fa 48 (.t 2) 2⟩,
      ⟨(some 27), none, .ld 22 (.t 26)⟩,
      ⟨(some 28), none, .mv (.t 1)⟩,
      ⟨(some 29), none, .ia 22 (.t 27) (.t 28)⟩,
      ⟨(some 30), none, .ld 23 (.t 29)⟩,
      ⟨(some 31), none, .call (.fn 65) [.t 30]⟩,
      ⟨(some 4), none, .mv (.t 31)⟩])
    (.ret))))
theorem b70 : Body Try.prog 70 32 [4] k70 := ⟨Enters.of Try.func70 (by kernel_rfl) (by kernel_rfl), _, _, Try.func70, rfl, by kernel_rfl, rfl, rfl⟩

/-- cartridge/cartridgeref1.Inv -/
def k72 : KC :=
 .seq (.reg [⟨(some 2), none, .mv (.i .u8 0)⟩])
 (.seq (.reg [⟨(some 3), none, .mv (.i .u8 1)⟩])
  (.seq (.seq (.reg [⟨(some 4), none, .mv (.i .i64 0)⟩])
    (.block 0 (.loop (.seq (.seq (.reg [⟨(some 5), none, .mv (.t 4)⟩,
          ⟨(some 6), none, .bin .lss 3 (.t 5) (.i .i64 254)⟩])
        (.cond (.t 6)
         (.skip)
         (.exit 0)))
       (.seq (.block 1 (.reg [⟨(some 9), none, .mv (.t 3)⟩,
           ⟨(some 10), none, .mv (.t 0)⟩,
           ⟨(some 11), none, .call (.fn 20) [.t 9, .t 10]⟩,
           ⟨(some 3), none, .mv (.t 11)⟩]))
        (.reg [⟨(some 7), none, .mv (.t 4)⟩,
          ⟨(some 8), none, .bin .add 3 (.t 7) (.i .i64 1)⟩,
          ⟨(some 4), none, .mv (.t 8)⟩]))))))
   (.seq (.reg [⟨(some 12), none, .mv (.t 3)⟩,
      ⟨(some 2), none, .mv (.t 12)⟩])
    (.ret))))
theorem b72 : Body Try.prog 72 13 [2] k72 := ⟨Enters.of Try.func72 (by kernel_rfl) (by kernel_rfl), _, _, Try.func72, rfl, by kernel_rfl, rfl, rfl⟩

/-- cartridge/matrix.Right$1 -/
def k73 : KC :=
 .seq (.reg [⟨(some 3), none, .mv (.b false)⟩])
 (.seq (.reg [⟨(some 4), none, .mv (.t 0)⟩,
    ⟨(some 5), none, .bi .len [23] [.t 4]⟩,
    ⟨(some 6), none, .ld 22 (.t 1)⟩,
    ⟨(some 7), none, .ia 22 (.t 6) (.i .i64 0)⟩,
    ⟨(some 8), none, .ld 23 (.t 7)⟩,
    ⟨(some 9), none, .bi .len [23] [.t 8]⟩,
    ⟨(some 10), none, .bin .neq 3 (.t 5) (.t 9)⟩,
    ⟨(some 3), none, .mv (.t 10)⟩])
  (.ret))
theorem b73 : Body Try.prog 73 11 [3] k73 := ⟨Enters.of Try.func73 (by kernel_rfl) (by kernel_rfl), _, _, Try.func73, rfl, by kernel_rfl, rfl, rfl⟩

/-- cartridge/gf.Add -/
def k74 : KC :=
 .seq (.reg [⟨(some 4), none, .mv (.i .u8 0)⟩])
 (.seq (.reg [⟨(some 5), none, .mv (.t 0)⟩,
    ⟨(some 6), none, .mv (.t 1)⟩,
    ⟨(some 7), none, .bin .xor 5 (.t 5) (.t 6)⟩,
    ⟨(some 4), none, .mv (.t 7)⟩])
  (.ret))
theorem b74 : Body Try.prog 74 8 [4] k74 := ⟨Enters.of Try.func74 (by kernel_rfl) (by kernel_rfl), _, _, Try.func74, rfl, by kernel_rfl, rfl, rfl⟩

/-- cartridge/erasure.alike -/
def k93 : KC :=
 .seq (.reg [⟨(some 1), none, .box 22 (.t 0)⟩,
   ⟨(some 2), none, .mv (.b false)⟩])
 (.seq (.reg [⟨(some 3), none, .ld 22 (.t 1)⟩,
    ⟨(some 4), none, .mf 109 [.t 1]⟩,
    ⟨(some 5), none, .call (.fn 68) [.t 3, .t 4]⟩,
    ⟨(some 6), none, .un .not (.t 5)⟩,
    ⟨(some 2), none, .mv (.t 6)⟩])
  (.ret))
theorem b93 : Body Try.prog 93 7 [2] k93 := ⟨Enters.of Try.func93 (by kernel_rfl) (by kernel_rfl), _, _, Try.func93, rfl, by kernel_rfl, rfl, rfl⟩

/-- cartridge/erasure.reckon -/
def k94 : KC :=
 .seq (.reg [⟨(some 4), none, .mv (.ns)⟩])
 (.seq (.reg [⟨(some 14), none, .mv (.t 0)⟩,
    ⟨(some 15), none, .bi .len [22] [.t 14]⟩,
    ⟨(some 16), none, .mk 22 (.t 15) (.t 15)⟩,
    ⟨(some 5), none, .mv (.t 16)⟩])
  (.seq (.seq (.reg [⟨(some 17), none, .mv (.t 1)⟩,
      ⟨(some 18), none, .ia 22 (.t 17) (.i .i64 0)⟩,
      ⟨(some 19), none, .ld 23 (.t 18)⟩,
      ⟨(some 20), none, .bi .len [23] [.t 19]⟩,
      ⟨(some 21), none, .mv (.i .i64 0)⟩])
    (.block 0 (.loop (.seq (.reg [⟨(some 22), none, .bin .lss 3 (.t 21) (.t 20)⟩])
       (.seq (.cond (.t 22)
         (.skip)
         (.exit 0))
        (.seq (.block 1 (.seq (.reg [⟨(some 23), none, .mv (.t 21)⟩,
             ⟨(some 6), none, .mv (.t 23)⟩])
           (.seq (.reg [⟨(some 7), none, .mv (.ns)⟩])
            (.seq (.seq (.reg [⟨(some 24), none, .mv (.t 1)⟩,
                ⟨(some 25), none, .bi .len [22] [.t 24]⟩,
                ⟨(some 26), none, .mv (.i .i64 0)⟩])
              (.block 2 (.loop (.seq (.reg [⟨(some 27), none, .bin .lss 3 (.t 26) (.t 25)⟩])
                 (.seq (.cond (.t 27)
                   (.skip)
                   (.exit 2))
                  (.seq (.block 3 (.seq (.reg [⟨(some 28), none, .ia 22 (.t 24) (.t 26)⟩,
                       ⟨(some 29), none, .ld 23 (.t 28)⟩,
                       ⟨(some 9), none, .mv (.t 29)⟩])
                     (.reg [⟨(some 30), none, .mv (.t 7)⟩,
                       ⟨(some 31), none, .mv (.t 9)⟩,
                       ⟨(some 32), none, .mv (.t 6)⟩,
                       ⟨(some 33), none, .ia 23 (.t 31) (.t 32)⟩,
                       ⟨(some 34), none, .ld 5 (.t 33)⟩,
                       ⟨(some 35), none, .bsl 23 1 [(0, .t 34)]⟩,
                       ⟨(some 36), none, .bi .append [23, 23] [.t 30, .t 35]⟩,
                       ⟨(some 7), none, .mv (.t 36)⟩])))
                   (.reg [⟨(some 37), none, .bin .add 3 (.t 26) (.i .i64 1)⟩,
                     ⟨(some 26), none, .mv (.t 37)⟩])))))))
             (.seq (.reg [⟨(some 39), none, .mv (.t 0)⟩,
                ⟨(some 40), none, .mv (.t 7)⟩,
                ⟨(some 41), none, .call (.fn 19) [.t 39, .t 40]⟩,
                ⟨(some 38), none, .mv (.t 41)⟩,
                ⟨(some 42), none, .ex (.t 38) 0⟩,
                ⟨(some 43), none, .ex (.t 38) 1⟩,
                ⟨(some 10), none, .mv (.t 42)⟩,
                ⟨(some 11), none, .mv (.t 43)⟩])
              (.seq (.reg [⟨(some 44), none, .mv (.t 10)⟩,
                 ⟨(some 45), none, .bi .len [23] [.t 44]⟩,
                 ⟨(some 46), none, .mv (.i .i64 0)⟩])
               (.block 4 (.loop (.seq (.reg [⟨(some 47), none, .bin .lss 3 (.t 46) (.t 45)⟩])
                  (.seq (.cond (.t 47)
                    (.skip)
                    (.exit 4))
                   (.seq (.block 5 (.seq (.reg [⟨(some 48), none, .mv (.t 46)⟩,
                        ⟨(some 49), none, .ia 23 (.t 44) (.t 46)⟩,
                        ⟨(some 50), none, .ld 5 (.t 49)⟩,
                        ⟨(some 12), none, .mv (.t 48)⟩,
                        ⟨(some 13), none, .mv (.t 50)⟩])
                      (.reg [⟨(some 51), none, .mv (.t 5)⟩,
                        ⟨(some 52), none, .mv (.t 12)⟩,
                        ⟨(some 53), none, .mv (.t 5)⟩,
                        ⟨(some 54), none, .mv (.t 12)⟩,
                        ⟨(some 55), none, .ia 22 (.t 53) (.t 54)⟩,
                        ⟨(some 56), none, .ld 23 (.t 55)⟩,
                        ⟨(some 57), none, .mv (.t 13)⟩,
                        ⟨(some 58), none, .bsl 23 1 [(0, .t 57)]⟩,
                        ⟨(some 59), none, .bi .append [23, 23] [.t 56, .t 58]⟩,
                        ⟨(some 60), none, .ia 22 (.t 51) (.t 52)⟩,
                        ⟨none, none, .st 23 (.t 60) (.t 59)⟩])))
                    (.reg [⟨(some 61), none, .bin .add 3 (.t 46) (.i .i64 1)⟩,
                      ⟨(some 46), none, .mv (.t 61)⟩]))))))))))))
         (.reg [⟨(some 62), none, .bin .add 3 (.t 21) (.i .i64 1)⟩,
           ⟨(some 21), none, .mv (.t 62)⟩])))))))
   (.seq (.reg [⟨(some 63), none, .mv (.t 5)⟩,
      ⟨(some 4), none, .mv (.t 63)⟩])
    (.ret))))
theorem b94 : Body Try.prog 94 64 [4] k94 := ⟨Enters.of Try.func94 (by kernel_rfl) (by kernel_rfl), _, _, Try.func94, rfl, by kernel_rfl, rfl, rfl⟩

/-- cartridge/gf.Mul -/
def k97 : KC :=
 .seq (.reg [⟨(some 4), none, .mv (.i .u8 0)⟩])
 (.seq (.reg [⟨(some 5), none, .mv (.i .u8 0)⟩])
  (.seq (.block 0 (.loop (.seq (.seq (.reg [⟨(some 7), none, .mv (.t 1)⟩,
         ⟨(some 8), none, .bin .neq 5 (.t 7) (.i .u8 0)⟩])
       (.cond (.t 8)
        (.skip)
        (.exit 0)))
      (.seq (.block 1 (.seq (.seq (.reg [⟨(some 11), none, .mv (.t 1)⟩,
            ⟨(some 12), none, .bin .and 5 (.t 11) (.i .u8 1)⟩,
            ⟨(some 13), none, .bin .eql 5 (.t 12) (.i .u8 1)⟩])
          (.cond (.t 13)
           (.reg [⟨(some 14), none, .mv (.t 5)⟩,
             ⟨(some 15), none, .mv (.t 0)⟩,
             ⟨(some 16), none, .bin .xor 5 (.t 14) (.t 15)⟩,
             ⟨(some 5), none, .mv (.t 16)⟩])
           (.skip)))
         (.seq (.reg [⟨(some 17), none, .mv (.t 0)⟩,
            ⟨(some 18), none, .bin .and 5 (.t 17) (.i .u8 128)⟩,
            ⟨(some 19), none, .bin .neq 5 (.t 18) (.i .u8 0)⟩,
            ⟨(some 6), none, .mv (.t 19)⟩])
          (.seq (.reg [⟨(some 20), none, .mv (.t 0)⟩,
             ⟨(some 21), none, .bin .shl 5 (.t 20) (.i .u64 1)⟩,
             ⟨(some 0), none, .mv (.t 21)⟩])
           (.seq (.reg [⟨(some 22), none, .mv (.t 6)⟩])
            (.cond (.t 22)
             (.reg [⟨(some 23), none, .mv (.t 0)⟩,
               ⟨(some 24), none, .bin .xor 5 (.t 23) (.i .u8 29)⟩,
               ⟨(some 0), none, .mv (.t 24)⟩])
             (.skip)))))))
       (.reg [⟨(some 9), none, .mv (.t 1)⟩,
         ⟨(some 10), none, .bin .shr 5 (.t 9) (.i .u64 1)⟩,
         ⟨(some 1), none, .mv (.t 10)⟩])))))
   (.seq (.reg [⟨(some 25), none, .mv (.t 5)⟩,
      ⟨(some 4), none, .mv (.t 25)⟩])
    (.ret))))
theorem b97 : Body Try.prog 97 26 [4] k97 := ⟨Enters.of Try.func97 (by kernel_rfl) (by kernel_rfl), _, _, Try.func97, rfl, by kernel_rfl, rfl, rfl⟩

/-- cartridge/gf.power -/
def k98 : KC :=
 .seq (.reg [⟨(some 4), none, .mv (.i .u8 0)⟩])
 (.seq (.reg [⟨(some 5), none, .mv (.i .u8 1)⟩])
  (.seq (.block 0 (.loop (.seq (.seq (.reg [⟨(some 6), none, .mv (.t 1)⟩,
         ⟨(some 7), none, .bin .gtr 3 (.t 6) (.i .i64 0)⟩])
       (.cond (.t 7)
        (.skip)
        (.exit 0)))
      (.seq (.block 1 (.seq (.seq (.reg [⟨(some 10), none, .mv (.t 1)⟩,
            ⟨(some 11), none, .bin .and 3 (.t 10) (.i .i64 1)⟩,
            ⟨(some 12), none, .bin .eql 3 (.t 11) (.i .i64 1)⟩])
          (.cond (.t 12)
           (.reg [⟨(some 13), none, .mv (.t 5)⟩,
             ⟨(some 14), none, .mv (.t 0)⟩,
             ⟨(some 15), none, .call (.fn 97) [.t 13, .t 14]⟩,
             ⟨(some 5), none, .mv (.t 15)⟩])
           (.skip)))
         (.reg [⟨(some 16), none, .mv (.t 0)⟩,
           ⟨(some 17), none, .mv (.t 0)⟩,
           ⟨(some 18), none, .call (.fn 97) [.t 16, .t 17]⟩,
           ⟨(some 0), none, .mv (.t 18)⟩])))
       (.reg [⟨(some 8), none, .mv (.t 1)⟩,
         ⟨(some 9), none, .bin .shr 3 (.t 8) (.i .u64 1)⟩,
         ⟨(some 1), none, .mv (.t 9)⟩])))))
   (.seq (.reg [⟨(some 19), none, .mv (.t 5)⟩,
      ⟨(some 4), none, .mv (.t 19)⟩])
    (.ret))))
theorem b98 : Body Try.prog 98 20 [4] k98 := ⟨Enters.of Try.func98 (by kernel_rfl) (by kernel_rfl), _, _, Try.func98, rfl, by kernel_rfl, rfl, rfl⟩

/-- cartridge/erasure.alike$1 -/
def k109 : KC :=
 .seq (.reg [⟨(some 3), none, .mv (.b false)⟩])
 (.seq (.reg [⟨(some 4), none, .mv (.t 0)⟩,
    ⟨(some 5), none, .bi .len [23] [.t 4]⟩,
    ⟨(some 6), none, .ld 22 (.t 1)⟩,
    ⟨(some 7), none, .ia 22 (.t 6) (.i .i64 0)⟩,
    ⟨(some 8), none, .ld 23 (.t 7)⟩,
    ⟨(some 9), none, .bi .len [23] [.t 8]⟩,
    ⟨(some 10), none, .bin .neq 3 (.t 5) (.t 9)⟩,
    ⟨(some 3), none, .mv (.t 10)⟩])
  (.ret))
theorem b109 : Body Try.prog 109 11 [3] k109 := ⟨Enters.of Try.func109 (by kernel_rfl) (by kernel_rfl), _, _, Try.func109, rfl, by kernel_rfl, rfl, rfl⟩

end Go.Proofs.Ytgkbjnhpmlfgdaa
