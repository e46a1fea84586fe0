import Derived.Test.YtndjbcnpgggddaaAmT
/- The code, cooked, and tied to the program's; written by gen.py. -/
namespace Go.Proofs.Ytndjbcnpgggddaa
open Go.AM

/-- cartridge/cartridgelaw18.ListingNames -/
noncomputable def drw4_0 : Array Oper := ((Try.f4.body.map regs).getD []).getD 0 #[]
noncomputable def drw4_1 : Array Oper := ((Try.f4.body.map regs).getD []).getD 1 #[]
noncomputable def k4 : KC :=
 .seq (.reg [⟨(some 2), none, .mv (.b false)⟩])
 (.seq (.reg [⟨(some 13), none, .call (.fn 16) []⟩,
    ⟨(some 3), none, .mv (.t 13)⟩])
  (.seq (.seq (.reg [⟨(some 14), none, .mv (.t 3)⟩,
      ⟨(some 15), none, .un .not (.t 14)⟩,
      ⟨(some 16), none, .mv (.t 15)⟩,
      ⟨(some 17), (some (16, false)), .mv (.t 0)⟩,
      ⟨(some 18), (some (16, false)), .bi .len [31] [.t 17]⟩,
      ⟨(some 19), (some (16, false)), .bin .gtr 3 (.t 18) (.i .i64 40)⟩,
      ⟨(some 20), none, .pk (.t 16) (.b true) (.t 19)⟩])
    (.cond (.t 20)
     (.seq (.reg [⟨(some 21), none, .mv (.t 3)⟩,
        ⟨(some 2), none, .mv (.t 21)⟩])
      (.ret))
     (.skip)))
   (.seq (.reg [⟨(some 22), none, .mv (.t 0)⟩,
      ⟨(some 23), none, .call (.fn 17) [.t 22]⟩,
      ⟨(some 4), none, .mv (.t 23)⟩])
    (.seq (.seq (.reg [⟨(some 5), none, .mv (.i .i64 0)⟩])
      (.block 0 (.loop (.seq (.seq (.reg [⟨(some 24), none, .mv (.t 5)⟩,
            ⟨(some 25), none, .mv (.t 4)⟩,
            ⟨(some 26), none, .bi .len [32] [.t 25]⟩,
            ⟨(some 27), none, .bin .lss 3 (.t 24) (.t 26)⟩])
          (.cond (.t 27)
           (.skip)
           (.exit 0)))
         (.seq (.block 1 (.seq (.reg [⟨(some 31), none, .mv (.t 0)⟩,
              ⟨(some 32), none, .mv (.t 4)⟩,
              ⟨(some 33), none, .mv (.t 5)⟩,
              ⟨(some 34), none, .ia 32 (.t 32) (.t 33)⟩,
              ⟨(some 35), none, .ld 9 (.t 34)⟩,
              ⟨(some 36), none, .call (.fn 18) [.t 31, .t 35]⟩,
              ⟨(some 30), none, .mv (.t 36)⟩,
              ⟨(some 37), none, .ex (.t 30) 0⟩,
              ⟨(some 38), none, .ex (.t 30) 1⟩,
              ⟨(some 6), none, .al 36⟩,
              ⟨none, none, .st 36 (.t 6) (.t 37)⟩,
              ⟨(some 7), none, .mv (.t 38)⟩])
            (.seq (.drw drw4_0 [⟨(some 39), none, .mv (.t 7)⟩,
               ⟨(some 40), none, .un .not (.t 39)⟩,
               ⟨(some 41), none, .mv (.t 40)⟩,
               ⟨(some 42), (some (41, false)), .mv (.t 5)⟩,
               ⟨(some 43), (some (41, false)), .bin .gtr 3 (.t 42) (.i .i64 0)⟩,
               ⟨(some 44), (some (41, false)), .mv (.t 43)⟩,
               ⟨(some 45), (some (44, true)), .mv (.t 4)⟩,
               ⟨(some 46), (some (44, true)), .mv (.t 5)⟩,
               ⟨(some 47), (some (44, true)), .bin .sub 3 (.t 46) (.i .i64 1)⟩,
               ⟨(some 48), (some (44, true)), .ia 32 (.t 45) (.t 47)⟩,
               ⟨(some 49), (some (44, true)), .ld 9 (.t 48)⟩,
               ⟨(some 50), (some (44, true)), .mv (.t 4)⟩,
               ⟨(some 51), (some (44, true)), .mv (.t 5)⟩,
               ⟨(some 52), (some (44, true)), .ia 32 (.t 50) (.t 51)⟩,
               ⟨(some 53), (some (44, true)), .ld 9 (.t 52)⟩,
               ⟨(some 54), (some (44, true)), .bin .geq 9 (.t 49) (.t 53)⟩,
               ⟨(some 55), (some (41, false)), .pk (.t 44) (.t 54) (.b false)⟩,
               ⟨(some 56), none, .pk (.t 41) (.b true) (.t 55)⟩])
             (.cond (.t 56)
              (.seq (.reg [⟨(some 2), none, .mv (.b false)⟩])
               (.ret))
              (.skip)))))
          (.reg [⟨(some 28), none, .mv (.t 5)⟩,
            ⟨(some 29), none, .bin .add 3 (.t 28) (.i .i64 1)⟩,
            ⟨(some 5), none, .mv (.t 29)⟩]))))))
     (.seq (.seq (.reg [⟨(some 8), none, .mv (.i .i64 0)⟩])
       (.block 2 (.loop (.seq (.seq (.reg [⟨(some 57), none, .mv (.t 8)⟩,
             ⟨(some 58), none, .mv (.t 0)⟩,
             ⟨(some 59), none, .bi .len [31] [.t 58]⟩,
             ⟨(some 60), none, .bin .lss 3 (.t 57) (.t 59)⟩])
           (.cond (.t 60)
            (.skip)
            (.exit 2)))
          (.seq (.block 3 (.seq (.reg [⟨(some 64), none, .mv (.t 0)⟩,
               ⟨(some 65), none, .mv (.t 0)⟩,
               ⟨(some 66), none, .mv (.t 8)⟩,
               ⟨(some 67), none, .ia 31 (.t 65) (.t 66)⟩,
               ⟨(some 68), none, .fa 36 (.t 67) 0⟩,
               ⟨(some 69), none, .ld 9 (.t 68)⟩,
               ⟨(some 70), none, .call (.fn 18) [.t 64, .t 69]⟩,
               ⟨(some 63), none, .mv (.t 70)⟩,
               ⟨(some 71), none, .ex (.t 63) 0⟩,
               ⟨(some 72), none, .ex (.t 63) 1⟩,
               ⟨(some 9), none, .al 36⟩,
               ⟨none, none, .st 36 (.t 9) (.t 71)⟩,
               ⟨(some 10), none, .mv (.t 72)⟩])
             (.seq (.reg [⟨(some 11), none, .mv (.b false)⟩])
              (.seq (.seq (.reg [⟨(some 12), none, .mv (.i .i64 0)⟩])
                (.block 4 (.loop (.seq (.seq (.reg [⟨(some 73), none, .mv (.t 12)⟩,
                      ⟨(some 74), none, .mv (.t 4)⟩,
                      ⟨(some 75), none, .bi .len [32] [.t 74]⟩,
                      ⟨(some 76), none, .bin .lss 3 (.t 73) (.t 75)⟩])
                    (.cond (.t 76)
                     (.skip)
                     (.exit 4)))
                   (.seq (.block 5 (.drw drw4_1 [⟨(some 79), none, .mv (.t 11)⟩,
                       ⟨(some 80), none, .mv (.t 79)⟩,
                       ⟨(some 81), (some (80, false)), .mv (.t 4)⟩,
                       ⟨(some 82), (some (80, false)), .mv (.t 12)⟩,
                       ⟨(some 83), (some (80, false)), .ia 32 (.t 81) (.t 82)⟩,
                       ⟨(some 84), (some (80, false)), .ld 9 (.t 83)⟩,
                       ⟨(some 85), (some (80, false)), .mv (.t 0)⟩,
                       ⟨(some 86), (some (80, false)), .mv (.t 8)⟩,
                       ⟨(some 87), (some (80, false)), .ia 31 (.t 85) (.t 86)⟩,
                       ⟨(some 88), (some (80, false)), .fa 36 (.t 87) 0⟩,
                       ⟨(some 89), (some (80, false)), .ld 9 (.t 88)⟩,
                       ⟨(some 90), (some (80, false)), .bin .eql 9 (.t 84) (.t 89)⟩,
                       ⟨(some 91), none, .pk (.t 80) (.b true) (.t 90)⟩,
                       ⟨(some 11), none, .mv (.t 91)⟩]))
                    (.reg [⟨(some 77), none, .mv (.t 12)⟩,
                      ⟨(some 78), none, .bin .add 3 (.t 77) (.i .i64 1)⟩,
                      ⟨(some 12), none, .mv (.t 78)⟩]))))))
               (.seq (.reg [⟨(some 92), none, .mv (.t 11)⟩,
                  ⟨(some 93), none, .mv (.t 10)⟩,
                  ⟨(some 94), none, .bin .neq 4 (.t 92) (.t 93)⟩])
                (.cond (.t 94)
                 (.seq (.reg [⟨(some 2), none, .mv (.b false)⟩])
                  (.ret))
                 (.skip)))))))
           (.reg [⟨(some 61), none, .mv (.t 8)⟩,
             ⟨(some 62), none, .bin .add 3 (.t 61) (.i .i64 1)⟩,
             ⟨(some 8), none, .mv (.t 62)⟩]))))))
      (.seq (.reg [⟨(some 2), none, .mv (.b true)⟩])
       (.ret)))))))
theorem b4 : Body Try.prog 4 95 [2] k4 := ⟨Enters.of Try.func4 (by kernel_rfl) (by kernel_rfl), _, _, Try.func4, rfl, by kernel_rfl, rfl, rfl⟩

/-- cartridge/cartridgelaw18.alive -/
def k16 : KC :=
 .seq (.reg [⟨(some 0), none, .mv (.b false)⟩])
 (.seq (.reg [⟨(some 4), none, .bld 36 [(0, .s ⟨#[97]⟩), (1, .i .i64 3)]⟩,
    ⟨(some 5), none, .bsl 31 1 [(0, .t 4)]⟩,
    ⟨(some 6), none, .call (.fn 18) [.t 5, .s ⟨#[97]⟩]⟩,
    ⟨(some 3), none, .mv (.t 6)⟩,
    ⟨(some 7), none, .ex (.t 3) 0⟩,
    ⟨(some 8), none, .ex (.t 3) 1⟩,
    ⟨(some 1), none, .al 36⟩,
    ⟨none, none, .st 36 (.t 1) (.t 7)⟩,
    ⟨(some 2), none, .mv (.t 8)⟩])
  (.seq (.reg [⟨(some 9), none, .call (.fn 23) [.ns, .s ⟨#[97]⟩]⟩,
     ⟨(some 10), none, .bin .eql 3 (.t 9) (.i .i64 1)⟩,
     ⟨(some 11), none, .mv (.t 10)⟩,
     ⟨(some 12), (some (11, true)), .call (.fn 25) [.ns]⟩,
     ⟨(some 13), (some (11, true)), .bin .eql 3 (.t 12) (.i .i64 1)⟩,
     ⟨(some 14), none, .pk (.t 11) (.t 13) (.b false)⟩,
     ⟨(some 15), none, .mv (.t 14)⟩,
     ⟨(some 16), (some (15, true)), .mv (.t 2)⟩,
     ⟨(some 17), none, .pk (.t 15) (.t 16) (.b false)⟩,
     ⟨(some 18), none, .mv (.t 17)⟩,
     ⟨(some 19), (some (18, true)), .fa 36 (.t 1) 1⟩,
     ⟨(some 20), (some (18, true)), .ld 3 (.t 19)⟩,
     ⟨(some 21), (some (18, true)), .bin .eql 3 (.t 20) (.i .i64 3)⟩,
     ⟨(some 22), none, .pk (.t 18) (.t 21) (.b false)⟩,
     ⟨(some 23), none, .mv (.t 22)⟩,
     ⟨(some 24), (some (23, true)), .call (.fn 17) [.ns]⟩,
     ⟨(some 25), (some (23, true)), .bi .len [32] [.t 24]⟩,
     ⟨(some 26), (some (23, true)), .bin .eql 3 (.t 25) (.i .i64 0)⟩,
     ⟨(some 27), none, .pk (.t 23) (.t 26) (.b false)⟩,
     ⟨(some 0), none, .mv (.t 27)⟩])
   (.ret)))
theorem b16 : Body Try.prog 16 28 [0] k16 := ⟨Enters.of Try.func16 (by kernel_rfl) (by kernel_rfl), _, _, Try.func16, rfl, by kernel_rfl, rfl, rfl⟩

/-- cartridge/listing.Names -/
def k17 : KC :=
 .seq (.reg [⟨(some 2), none, .mv (.ns)⟩])
 (.seq (.reg [⟨(some 3), none, .mv (.ns)⟩])
  (.seq (.seq (.reg [⟨(some 8), none, .mv (.t 0)⟩,
      ⟨(some 9), none, .bi .len [31] [.t 8]⟩,
      ⟨(some 10), none, .mv (.i .i64 0)⟩])
    (.block 0 (.loop (.seq (.reg [⟨(some 11), none, .bin .lss 3 (.t 10) (.t 9)⟩])
       (.seq (.cond (.t 11)
         (.skip)
         (.exit 0))
        (.seq (.block 1 (.seq (.reg [⟨(some 12), none, .ia 31 (.t 8) (.t 10)⟩,
             ⟨(some 13), none, .ld 36 (.t 12)⟩,
             ⟨(some 5), none, .al 36⟩,
             ⟨none, none, .st 36 (.t 5) (.t 13)⟩])
           (.seq (.reg [⟨(some 15), none, .mv (.t 0)⟩,
              ⟨(some 16), none, .fa 36 (.t 5) 0⟩,
              ⟨(some 17), none, .ld 9 (.t 16)⟩,
              ⟨(some 18), none, .call (.fn 18) [.t 15, .t 17]⟩,
              ⟨(some 14), none, .mv (.t 18)⟩,
              ⟨(some 19), none, .ex (.t 14) 0⟩,
              ⟨(some 20), none, .ex (.t 14) 1⟩,
              ⟨(some 6), none, .al 36⟩,
              ⟨none, none, .st 36 (.t 6) (.t 19)⟩,
              ⟨(some 7), none, .mv (.t 20)⟩])
            (.seq (.reg [⟨(some 21), none, .mv (.t 7)⟩])
             (.cond (.t 21)
              (.reg [⟨(some 22), none, .mv (.t 3)⟩,
                ⟨(some 23), none, .fa 36 (.t 5) 0⟩,
                ⟨(some 24), none, .ld 9 (.t 23)⟩,
                ⟨(some 25), none, .bsl 32 1 [(0, .t 24)]⟩,
                ⟨(some 26), none, .bi .append [32, 32] [.t 22, .t 25]⟩,
                ⟨(some 3), none, .mv (.t 26)⟩])
              (.skip))))))
         (.reg [⟨(some 27), none, .bin .add 3 (.t 10) (.i .i64 1)⟩,
           ⟨(some 10), none, .mv (.t 27)⟩])))))))
   (.seq (.reg [⟨(some 28), none, .mv (.t 3)⟩,
      ⟨(some 29), none, .call (.fn 46) [.t 28]⟩])
    (.seq (.reg [⟨(some 30), none, .mv (.t 3)⟩,
       ⟨(some 31), none, .call (.fn 47) [.t 30]⟩,
       ⟨(some 2), none, .mv (.t 31)⟩])
     (.ret)))))
theorem b17 : Body Try.prog 17 32 [2] k17 := ⟨Enters.of Try.func17 (by kernel_rfl) (by kernel_rfl), _, _, Try.func17, rfl, by kernel_rfl, rfl, rfl⟩

/-- cartridge/listing.Newest -/
def k18 : KC :=
 .seq (.reg [⟨(some 4), none, .al 36⟩,
   ⟨(some 5), none, .mv (.b false)⟩])
 (.seq (.reg [⟨(some 6), none, .mv (.t 0)⟩,
    ⟨(some 7), none, .mv (.t 1)⟩,
    ⟨(some 8), none, .call (.fn 49) [.t 6, .t 7]⟩,
    ⟨(some 9), none, .ex (.t 8) 0⟩,
    ⟨(some 10), none, .ex (.t 8) 1⟩,
    ⟨(some 11), none, .call (.fn 48) [.t 9, .t 10]⟩,
    ⟨(some 12), none, .ex (.t 11) 0⟩,
    ⟨(some 13), none, .ex (.t 11) 1⟩,
    ⟨none, none, .st 36 (.t 4) (.t 12)⟩,
    ⟨(some 5), none, .mv (.t 13)⟩])
  (.ret))

/-- cartridge/listing.Next -/
def k23 : KC :=
 .seq (.reg [⟨(some 4), none, .mv (.i .i64 0)⟩])
 (.seq (.reg [⟨(some 8), none, .mv (.t 0)⟩,
    ⟨(some 9), none, .mv (.t 1)⟩,
    ⟨(some 10), none, .call (.fn 49) [.t 8, .t 9]⟩,
    ⟨(some 7), none, .mv (.t 10)⟩,
    ⟨(some 11), none, .ex (.t 7) 0⟩,
    ⟨(some 12), none, .ex (.t 7) 1⟩,
    ⟨(some 5), none, .al 36⟩,
    ⟨none, none, .st 36 (.t 5) (.t 11)⟩,
    ⟨(some 6), none, .mv (.t 12)⟩])
  (.seq (.seq (.reg [⟨(some 13), none, .mv (.t 6)⟩,
      ⟨(some 14), none, .un .not (.t 13)⟩])
    (.cond (.t 14)
     (.seq (.reg [⟨(some 4), none, .mv (.i .i64 1)⟩])
      (.ret))
     (.skip)))
   (.seq (.reg [⟨(some 15), none, .fa 36 (.t 5) 1⟩,
      ⟨(some 16), none, .ld 3 (.t 15)⟩,
      ⟨(some 17), none, .bin .add 3 (.t 16) (.i .i64 1)⟩,
      ⟨(some 4), none, .mv (.t 17)⟩])
    (.ret))))
theorem b23 : Body Try.prog 23 18 [4] k23 := ⟨Enters.of Try.func23 (by kernel_rfl) (by kernel_rfl), _, _, Try.func23, rfl, by kernel_rfl, rfl, rfl⟩

/-- cartridge/listing.Serial -/
def k25 : KC :=
 .seq (.reg [⟨(some 2), none, .mv (.i .i64 0)⟩])
 (.seq (.seq (.reg [⟨(some 6), none, .mv (.t 0)⟩,
     ⟨(some 7), none, .bi .len [31] [.t 6]⟩,
     ⟨(some 8), none, .bin .eql 3 (.t 7) (.i .i64 0)⟩])
   (.cond (.t 8)
    (.seq (.reg [⟨(some 2), none, .mv (.i .i64 1)⟩])
     (.ret))
    (.skip)))
  (.seq (.reg [⟨(some 9), none, .mv (.t 0)⟩,
     ⟨(some 10), none, .ia 31 (.t 9) (.i .i64 0)⟩,
     ⟨(some 11), none, .fa 36 (.t 10) 4⟩,
     ⟨(some 12), none, .ld 3 (.t 11)⟩,
     ⟨(some 3), none, .mv (.t 12)⟩])
   (.seq (.seq (.reg [⟨(some 13), none, .mv (.t 0)⟩,
       ⟨(some 14), none, .bi .len [31] [.t 13]⟩,
       ⟨(some 15), none, .mv (.i .i64 0)⟩])
     (.block 0 (.loop (.seq (.reg [⟨(some 16), none, .bin .lss 3 (.t 15) (.t 14)⟩])
        (.seq (.cond (.t 16)
          (.skip)
          (.exit 0))
         (.seq (.block 1 (.seq (.reg [⟨(some 17), none, .ia 31 (.t 13) (.t 15)⟩,
              ⟨(some 18), none, .ld 36 (.t 17)⟩,
              ⟨(some 5), none, .al 36⟩,
              ⟨none, none, .st 36 (.t 5) (.t 18)⟩])
            (.reg [⟨(some 19), none, .mv (.t 3)⟩,
              ⟨(some 20), none, .fa 36 (.t 5) 4⟩,
              ⟨(some 21), none, .ld 3 (.t 20)⟩,
              ⟨(some 22), none, .bi .max [3, 3] [.t 19, .t 21]⟩,
              ⟨(some 3), none, .mv (.t 22)⟩])))
          (.reg [⟨(some 23), none, .bin .add 3 (.t 15) (.i .i64 1)⟩,
            ⟨(some 15), none, .mv (.t 23)⟩])))))))
    (.seq (.reg [⟨(some 24), none, .mv (.t 3)⟩,
       ⟨(some 25), none, .bin .add 3 (.t 24) (.i .i64 1)⟩,
       ⟨(some 2), none, .mv (.t 25)⟩])
     (.ret)))))
theorem b25 : Body Try.prog 25 26 [2] k25 := ⟨Enters.of Try.func25 (by kernel_rfl) (by kernel_rfl), _, _, Try.func25, rfl, by kernel_rfl, rfl, rfl⟩

/-- slices.Sort[[]string,string] -/
def k46 : KC :=
 .seq (.reg [⟨(some 3), none, .mv (.t 0)⟩,
   ⟨(some 4), none, .bi .len [32] [.t 3]⟩,
   ⟨(some 2), none, .mv (.t 4)⟩])
 (.reg [⟨(some 5), none, .mv (.t 0)⟩,
   ⟨(some 6), none, .mv (.t 2)⟩,
   ⟨(some 7), none, .mv (.t 2)⟩,
   ⟨(some 8), none, .cvt 3 105 (.t 7)⟩,
   ⟨(some 9), none, .call (.fn 86) [.t 8]⟩,
   ⟨(some 10), none, .call (.fn 85) [.t 5, .i .i64 0, .t 6, .t 9]⟩])
theorem b46 : Body Try.prog 46 11 [] k46 := ⟨Enters.of Try.func46 (by kernel_rfl) (by kernel_rfl), _, _, Try.func46, rfl, by kernel_rfl, rfl, rfl⟩

/-- slices.Compact[[]string,string] -/
noncomputable def drw47_0 : Array Oper := ((Try.f47.body.map regs).getD []).getD 0 #[]
noncomputable def drw47_1 : Array Oper := ((Try.f47.body.map regs).getD []).getD 1 #[]
noncomputable def k47 : KC :=
 .seq (.reg [⟨(some 2), none, .mv (.ns)⟩])
 (.seq (.seq (.reg [⟨(some 6), none, .mv (.t 0)⟩,
     ⟨(some 7), none, .bi .len [32] [.t 6]⟩,
     ⟨(some 8), none, .bin .lss 3 (.t 7) (.i .i64 2)⟩])
   (.cond (.t 8)
    (.seq (.reg [⟨(some 9), none, .mv (.t 0)⟩,
       ⟨(some 2), none, .mv (.t 9)⟩])
     (.ret))
    (.skip)))
  (.seq (.seq (.reg [⟨(some 3), none, .mv (.i .i64 1)⟩])
    (.block 0 (.loop (.seq (.seq (.reg [⟨(some 10), none, .mv (.t 3)⟩,
          ⟨(some 11), none, .mv (.t 0)⟩,
          ⟨(some 12), none, .bi .len [32] [.t 11]⟩,
          ⟨(some 13), none, .bin .lss 3 (.t 10) (.t 12)⟩])
        (.cond (.t 13)
         (.skip)
         (.exit 0)))
       (.seq (.block 1 (.seq (.drw drw47_0 [⟨(some 16), none, .mv (.t 0)⟩,
            ⟨(some 17), none, .mv (.t 3)⟩,
            ⟨(some 18), none, .ia 32 (.t 16) (.t 17)⟩,
            ⟨(some 19), none, .ld 9 (.t 18)⟩,
            ⟨(some 20), none, .mv (.t 0)⟩,
            ⟨(some 21), none, .mv (.t 3)⟩,
            ⟨(some 22), none, .bin .sub 3 (.t 21) (.i .i64 1)⟩,
            ⟨(some 23), none, .ia 32 (.t 20) (.t 22)⟩,
            ⟨(some 24), none, .ld 9 (.t 23)⟩,
            ⟨(some 25), none, .bin .eql 9 (.t 19) (.t 24)⟩])
          (.cond (.t 25)
           (.seq (.reg [⟨(some 26), none, .mv (.t 0)⟩,
              ⟨(some 27), none, .mv (.t 3)⟩,
              ⟨(some 28), none, .sli 32 (.t 26) (some (.t 27)) none none⟩,
              ⟨(some 4), none, .mv (.t 28)⟩])
            (.seq (.seq (.reg [⟨(some 5), none, .mv (.i .i64 1)⟩])
              (.block 2 (.loop (.seq (.seq (.reg [⟨(some 29), none, .mv (.t 5)⟩,
                    ⟨(some 30), none, .mv (.t 4)⟩,
                    ⟨(some 31), none, .bi .len [32] [.t 30]⟩,
                    ⟨(some 32), none, .bin .lss 3 (.t 29) (.t 31)⟩])
                  (.cond (.t 32)
                   (.skip)
                   (.exit 2)))
                 (.seq (.block 3 (.seq (.drw drw47_1 [⟨(some 35), none, .mv (.t 4)⟩,
                      ⟨(some 36), none, .mv (.t 5)⟩,
                      ⟨(some 37), none, .ia 32 (.t 35) (.t 36)⟩,
                      ⟨(some 38), none, .ld 9 (.t 37)⟩,
                      ⟨(some 39), none, .mv (.t 4)⟩,
                      ⟨(some 40), none, .mv (.t 5)⟩,
                      ⟨(some 41), none, .bin .sub 3 (.t 40) (.i .i64 1)⟩,
                      ⟨(some 42), none, .ia 32 (.t 39) (.t 41)⟩,
                      ⟨(some 43), none, .ld 9 (.t 42)⟩,
                      ⟨(some 44), none, .bin .neq 9 (.t 38) (.t 43)⟩])
                    (.cond (.t 44)
                     (.seq (.reg [⟨(some 45), none, .mv (.t 0)⟩,
                        ⟨(some 46), none, .mv (.t 3)⟩,
                        ⟨(some 47), none, .mv (.t 4)⟩,
                        ⟨(some 48), none, .mv (.t 5)⟩,
                        ⟨(some 49), none, .ia 32 (.t 47) (.t 48)⟩,
                        ⟨(some 50), none, .ld 9 (.t 49)⟩,
                        ⟨(some 51), none, .ia 32 (.t 45) (.t 46)⟩,
                        ⟨none, none, .st 9 (.t 51) (.t 50)⟩])
                      (.reg [⟨(some 52), none, .mv (.t 3)⟩,
                        ⟨(some 53), none, .bin .add 3 (.t 52) (.i .i64 1)⟩,
                        ⟨(some 3), none, .mv (.t 53)⟩]))
                     (.skip))))
                  (.reg [⟨(some 33), none, .mv (.t 5)⟩,
                    ⟨(some 34), none, .bin .add 3 (.t 33) (.i .i64 1)⟩,
                    ⟨(some 5), none, .mv (.t 34)⟩]))))))
             (.seq (.reg [⟨(some 54), none, .mv (.t 0)⟩,
                ⟨(some 55), none, .mv (.t 3)⟩,
                ⟨(some 56), none, .sli 32 (.t 54) (some (.t 55)) none none⟩,
                ⟨none, none, .bi .clear [32] [.t 56]⟩])
              (.seq (.reg [⟨(some 57), none, .mv (.t 0)⟩,
                 ⟨(some 58), none, .mv (.t 3)⟩,
                 ⟨(some 59), none, .sli 32 (.t 57) none (some (.t 58)) none⟩,
                 ⟨(some 2), none, .mv (.t 59)⟩])
               (.ret)))))
           (.skip))))
        (.reg [⟨(some 14), none, .mv (.t 3)⟩,
          ⟨(some 15), none, .bin .add 3 (.t 14) (.i .i64 1)⟩,
          ⟨(some 3), none, .mv (.t 15)⟩]))))))
   (.seq (.reg [⟨(some 60), none, .mv (.t 0)⟩,
      ⟨(some 2), none, .mv (.t 60)⟩])
    (.ret))))
theorem b47 : Body Try.prog 47 61 [2] k47 := ⟨Enters.of Try.func47 (by kernel_rfl) (by kernel_rfl), _, _, Try.func47, rfl, by kernel_rfl, rfl, rfl⟩

/-- cartridge/listing.there -/
def k48 : KC :=
 .seq (.reg [⟨(some 2), none, .box 36 (.t 0)⟩,
   ⟨(some 4), none, .al 36⟩,
   ⟨(some 5), none, .mv (.b false)⟩])
 (.seq (.seq (.reg [⟨(some 6), none, .mv (.t 1)⟩,
     ⟨(some 7), none, .un .not (.t 6)⟩,
     ⟨(some 8), none, .mv (.t 7)⟩,
     ⟨(some 9), (some (8, false)), .fa 36 (.t 2) 5⟩,
     ⟨(some 10), (some (8, false)), .ld 4 (.t 9)⟩,
     ⟨(some 11), none, .pk (.t 8) (.b true) (.t 10)⟩])
   (.cond (.t 11)
    (.seq (.reg [⟨(some 12), none, .bld 36 []⟩,
       ⟨none, none, .st 36 (.t 4) (.t 12)⟩,
       ⟨(some 5), none, .mv (.b false)⟩])
     (.ret))
    (.skip)))
  (.seq (.reg [⟨(some 13), none, .ld 36 (.t 2)⟩,
     ⟨(some 14), none, .call (.fn 87) [.t 13]⟩,
     ⟨none, none, .st 36 (.t 4) (.t 14)⟩,
     ⟨(some 5), none, .mv (.b true)⟩])
   (.ret)))

/-- cartridge/listing.newest -/
def k49 : KC :=
 .seq (.reg [⟨(some 4), none, .al 36⟩,
   ⟨(some 5), none, .mv (.b false)⟩])
 (.seq (.reg [⟨(some 6), none, .al 36⟩])
  (.seq (.reg [⟨(some 7), none, .mv (.b false)⟩])
   (.seq (.seq (.reg [⟨(some 10), none, .mv (.t 0)⟩,
       ⟨(some 11), none, .bi .len [31] [.t 10]⟩,
       ⟨(some 12), none, .mv (.i .i64 0)⟩])
     (.block 0 (.loop (.seq (.reg [⟨(some 13), none, .bin .lss 3 (.t 12) (.t 11)⟩])
        (.seq (.cond (.t 13)
          (.skip)
          (.exit 0))
         (.seq (.block 1 (.seq (.reg [⟨(some 14), none, .ia 31 (.t 10) (.t 12)⟩,
              ⟨(some 15), none, .ld 36 (.t 14)⟩,
              ⟨(some 9), none, .al 36⟩,
              ⟨none, none, .st 36 (.t 9) (.t 15)⟩])
            (.seq (.reg [⟨(some 16), none, .fa 36 (.t 9) 0⟩,
               ⟨(some 17), none, .ld 9 (.t 16)⟩,
               ⟨(some 18), none, .mv (.t 1)⟩,
               ⟨(some 19), none, .bin .eql 9 (.t 17) (.t 18)⟩,
               ⟨(some 20), none, .mv (.t 19)⟩,
               ⟨(some 21), (some (20, true)), .mv (.t 7)⟩,
               ⟨(some 22), (some (20, true)), .un .not (.t 21)⟩,
               ⟨(some 23), (some (20, true)), .mv (.t 22)⟩,
               ⟨(some 24), (some (23, false)), .fa 36 (.t 9) 1⟩,
               ⟨(some 25), (some (23, false)), .ld 3 (.t 24)⟩,
               ⟨(some 26), (some (23, false)), .fa 36 (.t 6) 1⟩,
               ⟨(some 27), (some (23, false)), .ld 3 (.t 26)⟩,
               ⟨(some 28), (some (23, false)), .bin .gtr 3 (.t 25) (.t 27)⟩,
               ⟨(some 29), (some (20, true)), .pk (.t 23) (.b true) (.t 28)⟩,
               ⟨(some 30), none, .pk (.t 20) (.t 29) (.b false)⟩])
             (.cond (.t 30)
              (.reg [⟨(some 31), none, .ld 36 (.t 9)⟩,
                ⟨none, none, .st 36 (.t 6) (.t 31)⟩,
                ⟨(some 7), none, .mv (.b true)⟩])
              (.skip)))))
          (.reg [⟨(some 32), none, .bin .add 3 (.t 12) (.i .i64 1)⟩,
            ⟨(some 12), none, .mv (.t 32)⟩])))))))
    (.seq (.reg [⟨(some 33), none, .ld 36 (.t 6)⟩,
       ⟨(some 34), none, .mv (.t 7)⟩,
       ⟨none, none, .st 36 (.t 4) (.t 33)⟩,
       ⟨(some 5), none, .mv (.t 34)⟩])
     (.ret)))))

/-- cartridge/listing.Clone -/
def k87 : KC :=
 .seq (.reg [⟨(some 1), none, .box 36 (.t 0)⟩,
   ⟨(some 2), none, .al 36⟩])
 (.seq (.reg [⟨(some 3), none, .fa 36 (.t 1) 6⟩,
    ⟨(some 4), none, .ld 34 (.t 3)⟩,
    ⟨(some 5), none, .call (.fn 139) [.t 4]⟩,
    ⟨(some 6), none, .fa 36 (.t 1) 6⟩,
    ⟨none, none, .st 34 (.t 6) (.t 5)⟩])
  (.seq (.reg [⟨(some 7), none, .ld 36 (.t 1)⟩,
     ⟨none, none, .st 36 (.t 2) (.t 7)⟩])
   (.ret)))

/-- slices.Clone[[]cartridge/api.Part,cartridge/api.Part] -/
def k139 : KC :=
 .seq (.reg [⟨(some 2), none, .mv (.ns)⟩])
 (.seq (.seq (.reg [⟨(some 3), none, .mv (.t 0)⟩,
     ⟨(some 4), none, .bin .eql 34 (.t 3) (.ns)⟩])
   (.cond (.t 4)
    (.seq (.reg [⟨(some 2), none, .mv (.ns)⟩])
     (.ret))
    (.skip)))
  (.seq (.reg [⟨(some 5), none, .bsl 34 0 []⟩,
     ⟨(some 6), none, .mv (.t 0)⟩,
     ⟨(some 7), none, .bi .append [34, 34] [.t 5, .t 6]⟩,
     ⟨(some 2), none, .mv (.t 7)⟩])
   (.ret)))
theorem b139 : Body Try.prog 139 8 [2] k139 := ⟨Enters.of Try.func139 (by kernel_rfl) (by kernel_rfl), _, _, Try.func139, rfl, by kernel_rfl, rfl, rfl⟩

end Go.Proofs.Ytndjbcnpgggddaa
