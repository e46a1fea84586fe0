import Derived.Test.YtliahlgkinhjlaaDoorAmT
/- The code, cooked, and tied to the program's; written by gen.py. -/
namespace Go.Proofs.YtliahlgkinhjlaaDoor
open Go.AM

/-- cartridge/cartridgelaw17.CatalogGaps -/
def k11 : KC :=
 .seq (.reg [⟨(some 6), none, .mv (.b false)⟩])
 (.seq (.reg [⟨(some 13), none, .call (.fn 37) []⟩,
    ⟨(some 7), none, .mv (.t 13)⟩])
  (.seq (.seq (.reg [⟨(some 14), none, .mv (.t 7)⟩,
      ⟨(some 15), none, .un .not (.t 14)⟩,
      ⟨(some 16), none, .mv (.t 15)⟩,
      ⟨(some 17), (some (16, false)), .mv (.t 0)⟩,
      ⟨(some 18), (some (16, false)), .bin .lss 3 (.t 17) (.i .i64 1)⟩,
      ⟨(some 19), none, .pk (.t 16) (.b true) (.t 18)⟩,
      ⟨(some 20), none, .mv (.t 19)⟩,
      ⟨(some 21), (some (20, false)), .mv (.t 0)⟩,
      ⟨(some 22), (some (20, false)), .bin .gtr 3 (.t 21) (.i .i64 10)⟩,
      ⟨(some 23), none, .pk (.t 20) (.b true) (.t 22)⟩,
      ⟨(some 24), none, .mv (.t 23)⟩,
      ⟨(some 25), (some (24, false)), .mv (.t 1)⟩,
      ⟨(some 26), (some (24, false)), .bin .lss 3 (.t 25) (.i .i64 0)⟩,
      ⟨(some 27), none, .pk (.t 24) (.b true) (.t 26)⟩,
      ⟨(some 28), none, .mv (.t 27)⟩,
      ⟨(some 29), (some (28, false)), .mv (.t 1)⟩,
      ⟨(some 30), (some (28, false)), .mv (.t 0)⟩,
      ⟨(some 31), (some (28, false)), .bin .geq 3 (.t 29) (.t 30)⟩,
      ⟨(some 32), none, .pk (.t 28) (.b true) (.t 31)⟩])
    (.cond (.t 32)
     (.seq (.reg [⟨(some 33), none, .mv (.t 7)⟩,
        ⟨(some 6), none, .mv (.t 33)⟩])
      (.ret))
     (.skip)))
   (.seq (.reg [⟨(some 8), none, .mv (.ns)⟩])
    (.seq (.seq (.reg [⟨(some 9), none, .mv (.i .i64 0)⟩])
      (.block 0 (.loop (.seq (.seq (.reg [⟨(some 34), none, .mv (.t 9)⟩,
            ⟨(some 35), none, .mv (.t 0)⟩,
            ⟨(some 36), none, .bin .lss 3 (.t 34) (.t 35)⟩])
          (.cond (.t 36)
           (.skip)
           (.exit 0)))
         (.seq (.block 1 (.seq (.seq (.reg [⟨(some 39), none, .mv (.t 9)⟩,
               ⟨(some 40), none, .mv (.t 1)⟩,
               ⟨(some 41), none, .bin .eql 3 (.t 39) (.t 40)⟩,
               ⟨(some 42), none, .mv (.t 41)⟩,
               ⟨(some 43), (some (42, true)), .mv (.t 2)⟩,
               ⟨(some 44), (some (42, true)), .un .not (.t 43)⟩,
               ⟨(some 45), none, .pk (.t 42) (.t 44) (.b false)⟩])
             (.cond (.t 45)
              (.exit 1)
              (.skip)))
            (.reg [⟨(some 46), none, .mv (.t 0)⟩,
              ⟨(some 47), none, .bin .mul 3 (.i .i64 10) (.t 46)⟩,
              ⟨(some 48), none, .mv (.t 9)⟩,
              ⟨(some 49), none, .bin .mul 3 (.i .i64 10) (.t 48)⟩,
              ⟨(some 50), none, .bld 23 [(0, .s ⟨#[97]⟩), (1, .i .i64 1), (5, .i .i64 1), (2, .t 47), (3, .t 49), (4, .i .i64 10)]⟩,
              ⟨(some 51), none, .mv (.t 9)⟩,
              ⟨(some 52), none, .bin .add 3 (.t 51) (.i .i64 1)⟩,
              ⟨(some 53), none, .bld 48 [(0, .t 50), (1, .t 52), (2, .i .i64 1)]⟩,
              ⟨(some 54), none, .bsl 44 1 [(0, .t 53)]⟩,
              ⟨(some 55), none, .mv (.t 8)⟩,
              ⟨(some 56), none, .bi .append [44, 44] [.t 54, .t 55]⟩,
              ⟨(some 8), none, .mv (.t 56)⟩])))
          (.reg [⟨(some 37), none, .mv (.t 9)⟩,
            ⟨(some 38), none, .bin .add 3 (.t 37) (.i .i64 1)⟩,
            ⟨(some 9), none, .mv (.t 38)⟩]))))))
     (.seq (.reg [⟨(some 58), none, .mv (.t 8)⟩,
        ⟨(some 59), none, .call (.fn 40) [.t 58]⟩,
        ⟨(some 57), none, .mv (.t 59)⟩,
        ⟨(some 60), none, .ex (.t 57) 0⟩,
        ⟨(some 61), none, .ex (.t 57) 1⟩,
        ⟨(some 10), none, .al 91⟩,
        ⟨none, none, .st 91 (.t 10) (.t 60)⟩,
        ⟨(some 11), none, .mv (.t 61)⟩])
      (.seq (.seq (.reg [⟨(some 62), none, .mv (.t 2)⟩,
          ⟨(some 63), none, .un .not (.t 62)⟩])
        (.cond (.t 63)
         (.seq (.reg [⟨(some 64), none, .mv (.t 11)⟩,
            ⟨(some 65), none, .un .not (.t 64)⟩,
            ⟨(some 66), none, .mv (.t 65)⟩,
            ⟨(some 67), (some (66, true)), .fa 91 (.t 10) 6⟩,
            ⟨(some 68), (some (66, true)), .ld 44 (.t 67)⟩,
            ⟨(some 69), (some (66, true)), .bi .len [44] [.t 68]⟩,
            ⟨(some 70), (some (66, true)), .bin .eql 3 (.t 69) (.i .i64 0)⟩,
            ⟨(some 71), none, .pk (.t 66) (.t 70) (.b false)⟩,
            ⟨(some 6), none, .mv (.t 71)⟩])
          (.ret))
         (.skip)))
       (.seq (.seq (.reg [⟨(some 72), none, .mv (.t 11)⟩,
           ⟨(some 73), none, .un .not (.t 72)⟩,
           ⟨(some 74), none, .mv (.t 73)⟩,
           ⟨(some 75), (some (74, false)), .fa 91 (.t 10) 6⟩,
           ⟨(some 76), (some (74, false)), .ld 44 (.t 75)⟩,
           ⟨(some 77), (some (74, false)), .bi .len [44] [.t 76]⟩,
           ⟨(some 78), (some (74, false)), .mv (.t 0)⟩,
           ⟨(some 79), (some (74, false)), .bin .neq 3 (.t 77) (.t 78)⟩,
           ⟨(some 80), none, .pk (.t 74) (.b true) (.t 79)⟩])
         (.cond (.t 80)
          (.seq (.reg [⟨(some 6), none, .mv (.b false)⟩])
           (.ret))
          (.skip)))
        (.seq (.seq (.reg [⟨(some 12), none, .mv (.i .i64 0)⟩])
          (.block 2 (.loop (.seq (.seq (.reg [⟨(some 81), none, .mv (.t 12)⟩,
                ⟨(some 82), none, .mv (.t 0)⟩,
                ⟨(some 83), none, .bin .lss 3 (.t 81) (.t 82)⟩])
              (.cond (.t 83)
               (.skip)
               (.exit 2)))
             (.seq (.block 3 (.seq (.reg [⟨(some 86), none, .fa 91 (.t 10) 6⟩,
                  ⟨(some 87), none, .ld 44 (.t 86)⟩,
                  ⟨(some 88), none, .mv (.t 12)⟩,
                  ⟨(some 89), none, .ia 44 (.t 87) (.t 88)⟩,
                  ⟨(some 90), none, .fa 48 (.t 89) 1⟩,
                  ⟨(some 91), none, .ld 3 (.t 90)⟩,
                  ⟨(some 92), none, .mv (.t 12)⟩,
                  ⟨(some 93), none, .bin .add 3 (.t 92) (.i .i64 1)⟩,
                  ⟨(some 94), none, .bin .neq 3 (.t 91) (.t 93)⟩])
                (.cond (.t 94)
                 (.seq (.reg [⟨(some 6), none, .mv (.b false)⟩])
                  (.ret))
                 (.skip))))
              (.reg [⟨(some 84), none, .mv (.t 12)⟩,
                ⟨(some 85), none, .bin .add 3 (.t 84) (.i .i64 1)⟩,
                ⟨(some 12), none, .mv (.t 85)⟩]))))))
         (.seq (.reg [⟨(some 6), none, .mv (.b true)⟩])
          (.ret))))))))))
theorem b11 : Body Tryd.prog 11 95 [6] k11 := ⟨Enters.of Tryd.func11 (by kernel_rfl) (by kernel_rfl), _, _, Tryd.func11, rfl, by kernel_rfl, rfl, rfl⟩

/-- cartridge/cartridgelaw17.alive -/
def k37 : KC :=
 .seq (.reg [⟨(some 0), none, .mv (.b false)⟩])
 (.seq (.reg [⟨(some 4), none, .bld 23 [(0, .s ⟨#[97]⟩), (1, .i .i64 1), (5, .i .i64 1)]⟩,
    ⟨(some 5), none, .bld 48 [(0, .t 4), (1, .i .i64 1), (2, .i .i64 1)]⟩,
    ⟨(some 6), none, .bsl 44 1 [(0, .t 5)]⟩,
    ⟨(some 7), none, .call (.fn 40) [.t 6]⟩,
    ⟨(some 3), none, .mv (.t 7)⟩,
    ⟨(some 8), none, .ex (.t 3) 0⟩,
    ⟨(some 9), none, .ex (.t 3) 1⟩,
    ⟨(some 1), none, .al 91⟩,
    ⟨none, none, .st 91 (.t 1) (.t 8)⟩,
    ⟨(some 2), none, .mv (.t 9)⟩])
  (.seq (.reg [⟨(some 10), none, .call (.fn 38) [.ns]⟩,
     ⟨(some 11), none, .bi .len [87] [.t 10]⟩,
     ⟨(some 12), none, .bin .eql 3 (.t 11) (.i .i64 0)⟩,
     ⟨(some 13), none, .mv (.t 12)⟩,
     ⟨(some 14), (some (13, true)), .mv (.t 2)⟩,
     ⟨(some 15), none, .pk (.t 13) (.t 14) (.b false)⟩,
     ⟨(some 16), none, .mv (.t 15)⟩,
     ⟨(some 17), (some (16, true)), .fa 91 (.t 1) 0⟩,
     ⟨(some 18), (some (16, true)), .ld 9 (.t 17)⟩,
     ⟨(some 19), (some (16, true)), .bin .eql 9 (.t 18) (.s ⟨#[97]⟩)⟩,
     ⟨(some 20), none, .pk (.t 16) (.t 19) (.b false)⟩,
     ⟨(some 21), none, .mv (.t 20)⟩,
     ⟨(some 22), (some (21, true)), .fa 91 (.t 1) 6⟩,
     ⟨(some 23), (some (21, true)), .ld 44 (.t 22)⟩,
     ⟨(some 24), (some (21, true)), .bi .len [44] [.t 23]⟩,
     ⟨(some 25), (some (21, true)), .bin .eql 3 (.t 24) (.i .i64 1)⟩,
     ⟨(some 26), none, .pk (.t 21) (.t 25) (.b false)⟩,
     ⟨(some 0), none, .mv (.t 26)⟩])
   (.ret)))
theorem b37 : Body Tryd.prog 37 27 [0] k37 := ⟨Enters.of Tryd.func37 (by kernel_rfl) (by kernel_rfl), _, _, Tryd.func37, rfl, by kernel_rfl, rfl, rfl⟩

/-- cartridge/catalog.From -/
noncomputable def drw38_0 : Array Oper := ((Tryd.f38.body.map regs).getD []).getD 0 #[]
noncomputable def k38 : KC :=
 .seq (.reg [⟨(some 2), none, .mv (.ns)⟩])
 (.seq (.reg [⟨(some 17), none, .mm⟩,
    ⟨(some 3), none, .mv (.t 17)⟩])
  (.seq (.reg [⟨(some 4), none, .mv (.ns)⟩])
   (.seq (.seq (.reg [⟨(some 18), none, .mv (.t 0)⟩,
       ⟨(some 19), none, .bi .len [57] [.t 18]⟩,
       ⟨(some 20), none, .mv (.i .i64 0)⟩])
     (.block 0 (.loop (.seq (.reg [⟨(some 21), none, .bin .lss 3 (.t 20) (.t 19)⟩])
        (.seq (.cond (.t 21)
          (.skip)
          (.exit 0))
         (.seq (.block 1 (.seq (.reg [⟨(some 22), none, .ia 57 (.t 18) (.t 20)⟩,
              ⟨(some 23), none, .ld 38 (.t 22)⟩,
              ⟨(some 6), none, .al 38⟩,
              ⟨none, none, .st 38 (.t 6) (.t 23)⟩])
            (.seq (.reg [⟨(some 24), none, .ld 38 (.t 6)⟩,
               ⟨(some 25), none, .call (.fn 21) [.t 24]⟩,
               ⟨(some 26), none, .bi .len [44] [.t 25]⟩,
               ⟨(some 27), none, .mv (.i .i64 0)⟩])
             (.block 2 (.loop (.seq (.reg [⟨(some 28), none, .bin .lss 3 (.t 27) (.t 26)⟩])
                (.seq (.cond (.t 28)
                  (.skip)
                  (.exit 2))
                 (.seq (.block 3 (.seq (.reg [⟨(some 29), none, .ia 44 (.t 25) (.t 27)⟩,
                      ⟨(some 30), none, .ld 48 (.t 29)⟩,
                      ⟨(some 8), none, .al 48⟩,
                      ⟨none, none, .st 48 (.t 8) (.t 30)⟩])
                    (.seq (.reg [⟨(some 31), none, .fa 48 (.t 8) 0⟩,
                       ⟨(some 32), none, .ld 23 (.t 31)⟩,
                       ⟨(some 33), none, .call (.fn 72) [.t 32]⟩,
                       ⟨(some 9), none, .al 23⟩,
                       ⟨none, none, .st 23 (.t 9) (.t 33)⟩])
                     (.seq (.seq (.reg [⟨(some 34), none, .mv (.t 3)⟩,
                         ⟨(some 35), none, .ld 23 (.t 9)⟩,
                         ⟨(some 36), none, .unk⟩,
                         ⟨(some 37), none, .bi .len [44] [.t 36]⟩,
                         ⟨(some 38), none, .bin .eql 3 (.t 37) (.i .i64 0)⟩])
                       (.cond (.t 38)
                        (.reg [⟨(some 39), none, .mv (.t 4)⟩,
                          ⟨(some 40), none, .ld 23 (.t 9)⟩,
                          ⟨(some 41), none, .bsl 134 1 [(0, .t 40)]⟩,
                          ⟨(some 42), none, .bi .append [134, 134] [.t 39, .t 41]⟩,
                          ⟨(some 4), none, .mv (.t 42)⟩])
                        (.skip)))
                      (.reg [⟨(some 43), none, .mv (.t 3)⟩,
                        ⟨(some 44), none, .ld 23 (.t 9)⟩,
                        ⟨(some 46), none, .ld 48 (.t 8)⟩,
                        ⟨(some 47), none, .bsl 44 1 [(0, .t 46)]⟩,
                        ⟨(some 48), none, .unk⟩,
                        ⟨(some 45), none, .ex (.t 48) 0⟩,
                        ⟨(some 49), none, .bi .append [44, 44] [.t 45, .t 47]⟩,
                        ⟨(some 50), none, .ex (.t 48) 1⟩,
                        ⟨none, none, .unk⟩])))))
                  (.reg [⟨(some 51), none, .bin .add 3 (.t 27) (.i .i64 1)⟩,
                    ⟨(some 27), none, .mv (.t 51)⟩])))))))))
          (.reg [⟨(some 52), none, .bin .add 3 (.t 20) (.i .i64 1)⟩,
            ⟨(some 20), none, .mv (.t 52)⟩])))))))
    (.seq (.reg [⟨(some 10), none, .mv (.ns)⟩])
     (.seq (.seq (.reg [⟨(some 53), none, .mv (.t 4)⟩,
         ⟨(some 54), none, .bi .len [134] [.t 53]⟩,
         ⟨(some 55), none, .mv (.i .i64 0)⟩])
       (.block 4 (.loop (.seq (.reg [⟨(some 56), none, .bin .lss 3 (.t 55) (.t 54)⟩])
          (.seq (.cond (.t 56)
            (.skip)
            (.exit 4))
           (.seq (.block 5 (.seq (.reg [⟨(some 57), none, .ia 134 (.t 53) (.t 55)⟩,
                ⟨(some 58), none, .ld 23 (.t 57)⟩,
                ⟨(some 12), none, .al 23⟩,
                ⟨none, none, .st 23 (.t 12) (.t 58)⟩])
              (.seq (.reg [⟨(some 60), none, .mv (.t 3)⟩,
                 ⟨(some 61), none, .ld 23 (.t 12)⟩,
                 ⟨(some 62), none, .unk⟩,
                 ⟨(some 63), none, .call (.fn 40) [.t 62]⟩,
                 ⟨(some 59), none, .mv (.t 63)⟩,
                 ⟨(some 64), none, .ex (.t 59) 0⟩,
                 ⟨(some 65), none, .ex (.t 59) 1⟩,
                 ⟨(some 13), none, .al 91⟩,
                 ⟨none, none, .st 91 (.t 13) (.t 64)⟩,
                 ⟨(some 14), none, .mv (.t 65)⟩])
               (.seq (.seq (.reg [⟨(some 66), none, .mv (.t 14)⟩,
                   ⟨(some 67), none, .un .not (.t 66)⟩])
                 (.cond (.t 67)
                  (.exit 5)
                  (.skip)))
                (.seq (.reg [⟨(some 69), none, .mv (.t 10)⟩,
                   ⟨(some 70), none, .ld 91 (.t 13)⟩,
                   ⟨(some 71), none, .call (.fn 73) [.t 69, .t 70, .fn 74]⟩,
                   ⟨(some 68), none, .mv (.t 71)⟩,
                   ⟨(some 72), none, .ex (.t 68) 0⟩,
                   ⟨(some 73), none, .ex (.t 68) 1⟩,
                   ⟨(some 15), none, .mv (.t 72)⟩,
                   ⟨(some 16), none, .mv (.t 73)⟩])
                 (.seq (.drw drw38_0 [⟨(some 74), none, .mv (.t 16)⟩,
                    ⟨(some 75), none, .un .not (.t 74)⟩,
                    ⟨(some 76), none, .mv (.t 75)⟩,
                    ⟨(some 77), (some (76, false)), .mv (.t 10)⟩,
                    ⟨(some 78), (some (76, false)), .mv (.t 15)⟩,
                    ⟨(some 79), (some (76, false)), .ia 87 (.t 77) (.t 78)⟩,
                    ⟨(some 80), (some (76, false)), .fa 91 (.t 79) 4⟩,
                    ⟨(some 81), (some (76, false)), .ld 3 (.t 80)⟩,
                    ⟨(some 82), (some (76, false)), .fa 91 (.t 13) 4⟩,
                    ⟨(some 83), (some (76, false)), .ld 3 (.t 82)⟩,
                    ⟨(some 84), (some (76, false)), .bin .lss 3 (.t 81) (.t 83)⟩,
                    ⟨(some 85), none, .pk (.t 76) (.b true) (.t 84)⟩])
                  (.cond (.t 85)
                   (.reg [⟨(some 86), none, .mv (.t 10)⟩,
                     ⟨(some 87), none, .ld 91 (.t 13)⟩,
                     ⟨(some 88), none, .call (.fn 75) [.t 86, .t 87]⟩,
                     ⟨(some 10), none, .mv (.t 88)⟩])
                   (.skip))))))))
            (.reg [⟨(some 89), none, .bin .add 3 (.t 55) (.i .i64 1)⟩,
              ⟨(some 55), none, .mv (.t 89)⟩])))))))
      (.seq (.reg [⟨(some 90), none, .mv (.t 10)⟩,
         ⟨(some 2), none, .mv (.t 90)⟩])
       (.ret)))))))
theorem b38 : Body Tryd.prog 38 91 [2] k38 := ⟨Enters.of Tryd.func38 (by kernel_rfl) (by kernel_rfl), _, _, Tryd.func38, rfl, by kernel_rfl, rfl, rfl⟩

/-- cartridge/catalog.Whole -/
def k40 : KC :=
 .seq (.reg [⟨(some 1), none, .box 44 (.t 0)⟩,
   ⟨(some 2), none, .al 91⟩,
   ⟨(some 3), none, .mv (.b false)⟩])
 (.seq (.seq (.reg [⟨(some 7), none, .ld 44 (.t 1)⟩,
     ⟨(some 8), none, .bi .len [44] [.t 7]⟩,
     ⟨(some 9), none, .bin .eql 3 (.t 8) (.i .i64 0)⟩,
     ⟨(some 10), none, .mv (.t 9)⟩,
     ⟨(some 11), (some (10, false)), .ld 44 (.t 1)⟩,
     ⟨(some 12), (some (10, false)), .mf 78 [.t 1]⟩,
     ⟨(some 13), (some (10, false)), .call (.fn 77) [.t 11, .t 12]⟩,
     ⟨(some 14), none, .pk (.t 10) (.b true) (.t 13)⟩])
   (.cond (.t 14)
    (.seq (.reg [⟨(some 15), none, .bld 91 []⟩,
       ⟨none, none, .st 91 (.t 2) (.t 15)⟩,
       ⟨(some 3), none, .mv (.b false)⟩])
     (.ret))
    (.skip)))
  (.seq (.reg [⟨(some 17), none, .ld 44 (.t 1)⟩,
     ⟨(some 18), none, .call (.fn 79) [.t 17]⟩,
     ⟨(some 16), none, .mv (.t 18)⟩,
     ⟨(some 19), none, .ex (.t 16) 0⟩,
     ⟨(some 20), none, .ex (.t 16) 1⟩,
     ⟨(some 4), none, .mv (.t 19)⟩,
     ⟨(some 5), none, .mv (.t 20)⟩])
   (.seq (.seq (.reg [⟨(some 21), none, .mv (.t 5)⟩,
       ⟨(some 22), none, .un .not (.t 21)⟩])
     (.cond (.t 22)
      (.seq (.reg [⟨(some 23), none, .bld 91 []⟩,
         ⟨none, none, .st 91 (.t 2) (.t 23)⟩,
         ⟨(some 3), none, .mv (.b false)⟩])
       (.ret))
      (.skip)))
    (.seq (.reg [⟨(some 24), none, .ld 44 (.t 1)⟩,
       ⟨(some 25), none, .ia 44 (.t 24) (.i .i64 0)⟩,
       ⟨(some 26), none, .fa 48 (.t 25) 0⟩,
       ⟨(some 27), none, .ld 23 (.t 26)⟩,
       ⟨(some 6), none, .al 23⟩,
       ⟨none, none, .st 23 (.t 6) (.t 27)⟩])
     (.seq (.reg [⟨(some 28), none, .fa 23 (.t 6) 0⟩,
        ⟨(some 29), none, .ld 9 (.t 28)⟩,
        ⟨(some 30), none, .fa 23 (.t 6) 1⟩,
        ⟨(some 31), none, .ld 3 (.t 30)⟩,
        ⟨(some 32), none, .fa 23 (.t 6) 2⟩,
        ⟨(some 33), none, .ld 3 (.t 32)⟩,
        ⟨(some 34), none, .fa 23 (.t 6) 6⟩,
        ⟨(some 35), none, .ld 3 (.t 34)⟩,
        ⟨(some 36), none, .fa 23 (.t 6) 5⟩,
        ⟨(some 37), none, .ld 3 (.t 36)⟩,
        ⟨(some 38), none, .fa 23 (.t 6) 7⟩,
        ⟨(some 39), none, .ld 4 (.t 38)⟩,
        ⟨(some 40), none, .mv (.t 4)⟩,
        ⟨(some 41), none, .bld 91 [(0, .t 29), (1, .t 31), (2, .t 33), (3, .t 35), (4, .t 37), (5, .t 39), (6, .t 40)]⟩,
        ⟨none, none, .st 91 (.t 2) (.t 41)⟩,
        ⟨(some 3), none, .mv (.b true)⟩])
      (.ret))))))

/-- cartridge/catalog.key -/
def k72 : KC :=
 .seq (.reg [⟨(some 1), none, .box 23 (.t 0)⟩,
   ⟨(some 2), none, .al 23⟩])
 (.seq (.reg [⟨(some 3), none, .fa 23 (.t 1) 3⟩,
    ⟨none, none, .st 3 (.t 3) (.i .i64 0)⟩,
    ⟨(some 4), none, .fa 23 (.t 1) 4⟩,
    ⟨none, none, .st 3 (.t 4) (.i .i64 0)⟩])
  (.seq (.reg [⟨(some 5), none, .ld 23 (.t 1)⟩,
     ⟨none, none, .st 23 (.t 2) (.t 5)⟩])
   (.ret)))

/-- slices.ContainsFunc[[]cartridge/api.Part,cartridge/api.Part] -/
def k77 : KC :=
 .seq (.reg [⟨(some 4), none, .mv (.b false)⟩])
 (.seq (.reg [⟨(some 5), none, .mv (.t 0)⟩,
    ⟨(some 6), none, .mv (.t 1)⟩,
    ⟨(some 7), none, .call (.fn 108) [.t 5, .t 6]⟩,
    ⟨(some 8), none, .bin .geq 3 (.t 7) (.i .i64 0)⟩,
    ⟨(some 4), none, .mv (.t 8)⟩])
  (.ret))
theorem b77 : Body Tryd.prog 77 9 [4] k77 := ⟨Enters.of Tryd.func77 (by kernel_rfl) (by kernel_rfl), _, _, Tryd.func77, rfl, by kernel_rfl, rfl, rfl⟩

/-- cartridge/catalog.Whole$1 -/
noncomputable def drw78_0 : Array Oper := ((Tryd.f78.body.map regs).getD []).getD 0 #[]
noncomputable def k78 : KC :=
 .seq (.reg [⟨(some 2), none, .box 48 (.t 0)⟩,
   ⟨(some 3), none, .mv (.b false)⟩])
 (.seq (.drw drw78_0 [⟨(some 4), none, .fa 48 (.t 2) 0⟩,
    ⟨(some 5), none, .ld 23 (.t 4)⟩,
    ⟨(some 6), none, .call (.fn 72) [.t 5]⟩,
    ⟨(some 7), none, .ld 44 (.t 1)⟩,
    ⟨(some 8), none, .ia 44 (.t 7) (.i .i64 0)⟩,
    ⟨(some 9), none, .fa 48 (.t 8) 0⟩,
    ⟨(some 10), none, .ld 23 (.t 9)⟩,
    ⟨(some 11), none, .call (.fn 72) [.t 10]⟩,
    ⟨(some 12), none, .bin .neq 23 (.t 6) (.t 11)⟩,
    ⟨(some 3), none, .mv (.t 12)⟩])
  (.ret))
theorem b78 : Body Tryd.prog 78 13 [3] k78 := ⟨Enters.of Tryd.func78 (by kernel_rfl) (by kernel_rfl), _, _, Tryd.func78, rfl, by kernel_rfl, rfl, rfl⟩

/-- cartridge/catalog.chain -/
def k79 : KC :=
 .seq (.reg [⟨(some 2), none, .mv (.ns)⟩,
   ⟨(some 3), none, .mv (.b false)⟩])
 (.seq (.reg [⟨(some 8), none, .mv (.t 0)⟩,
    ⟨(some 9), none, .ia 44 (.t 8) (.i .i64 0)⟩,
    ⟨(some 10), none, .fa 48 (.t 9) 0⟩,
    ⟨(some 11), none, .fa 23 (.t 10) 2⟩,
    ⟨(some 12), none, .ld 3 (.t 11)⟩,
    ⟨(some 4), none, .mv (.t 12)⟩])
  (.seq (.reg [⟨(some 5), none, .mv (.ns)⟩])
   (.seq (.seq (.reg [⟨(some 6), none, .mv (.i .i64 0)⟩])
     (.block 0 (.loop (.seq (.seq (.reg [⟨(some 13), none, .mv (.t 4)⟩,
           ⟨(some 14), none, .bin .geq 3 (.t 13) (.i .i64 0)⟩])
         (.cond (.t 14)
          (.skip)
          (.exit 0)))
        (.block 1 (.seq (.reg [⟨(some 15), none, .mv (.t 0)⟩,
            ⟨(some 16), none, .mv (.t 6)⟩,
            ⟨(some 17), none, .call (.fn 109) [.t 15, .t 16]⟩,
            ⟨(some 7), none, .mv (.t 17)⟩])
          (.seq (.seq (.reg [⟨(some 18), none, .mv (.t 7)⟩,
              ⟨(some 19), none, .bin .lss 3 (.t 18) (.i .i64 0)⟩,
              ⟨(some 20), none, .mv (.t 19)⟩,
              ⟨(some 21), (some (20, false)), .mv (.t 0)⟩,
              ⟨(some 22), (some (20, false)), .mv (.t 7)⟩,
              ⟨(some 23), (some (20, false)), .ia 44 (.t 21) (.t 22)⟩,
              ⟨(some 24), (some (20, false)), .fa 48 (.t 23) 0⟩,
              ⟨(some 25), (some (20, false)), .fa 23 (.t 24) 4⟩,
              ⟨(some 26), (some (20, false)), .ld 3 (.t 25)⟩,
              ⟨(some 27), (some (20, false)), .mv (.t 4)⟩,
              ⟨(some 28), (some (20, false)), .mv (.t 6)⟩,
              ⟨(some 29), (some (20, false)), .bin .sub 3 (.t 27) (.t 28)⟩,
              ⟨(some 30), (some (20, false)), .bin .gtr 3 (.t 26) (.t 29)⟩,
              ⟨(some 31), none, .pk (.t 20) (.b true) (.t 30)⟩])
            (.cond (.t 31)
             (.seq (.reg [⟨(some 2), none, .mv (.ns)⟩,
                ⟨(some 3), none, .mv (.b false)⟩])
              (.ret))
             (.skip)))
           (.seq (.reg [⟨(some 32), none, .mv (.t 5)⟩,
              ⟨(some 33), none, .mv (.t 0)⟩,
              ⟨(some 34), none, .mv (.t 7)⟩,
              ⟨(some 35), none, .ia 44 (.t 33) (.t 34)⟩,
              ⟨(some 36), none, .ld 48 (.t 35)⟩,
              ⟨(some 37), none, .bsl 44 1 [(0, .t 36)]⟩,
              ⟨(some 38), none, .bi .append [44, 44] [.t 32, .t 37]⟩,
              ⟨(some 5), none, .mv (.t 38)⟩])
            (.seq (.seq (.reg [⟨(some 39), none, .mv (.t 6)⟩,
                ⟨(some 40), none, .mv (.t 0)⟩,
                ⟨(some 41), none, .mv (.t 7)⟩,
                ⟨(some 42), none, .ia 44 (.t 40) (.t 41)⟩,
                ⟨(some 43), none, .fa 48 (.t 42) 0⟩,
                ⟨(some 44), none, .fa 23 (.t 43) 4⟩,
                ⟨(some 45), none, .ld 3 (.t 44)⟩,
                ⟨(some 46), none, .bin .add 3 (.t 39) (.t 45)⟩,
                ⟨(some 6), none, .mv (.t 46)⟩])
              (.seq (.reg [⟨(some 47), none, .mv (.t 6)⟩,
                 ⟨(some 48), none, .mv (.t 4)⟩,
                 ⟨(some 49), none, .bin .eql 3 (.t 47) (.t 48)⟩])
               (.cond (.t 49)
                (.seq (.reg [⟨(some 50), none, .mv (.t 5)⟩,
                   ⟨(some 2), none, .mv (.t 50)⟩,
                   ⟨(some 3), none, .mv (.b true)⟩])
                 (.ret))
                (.skip))))
             (.seq (.reg [⟨(some 51), none, .mv (.t 0)⟩,
                ⟨(some 52), none, .mv (.t 7)⟩,
                ⟨(some 53), none, .ia 44 (.t 51) (.t 52)⟩,
                ⟨(some 54), none, .fa 48 (.t 53) 0⟩,
                ⟨(some 55), none, .fa 23 (.t 54) 4⟩,
                ⟨(some 56), none, .ld 3 (.t 55)⟩,
                ⟨(some 57), none, .bin .leq 3 (.t 56) (.i .i64 0)⟩])
              (.cond (.t 57)
               (.seq (.reg [⟨(some 2), none, .mv (.ns)⟩,
                  ⟨(some 3), none, .mv (.b false)⟩])
                (.ret))
               (.skip))))))))))))
    (.seq (.reg [⟨(some 2), none, .mv (.ns)⟩,
       ⟨(some 3), none, .mv (.b false)⟩])
     (.ret)))))
theorem b79 : Body Tryd.prog 79 58 [2, 3] k79 := ⟨Enters.of Tryd.func79 (by kernel_rfl) (by kernel_rfl), _, _, Tryd.func79, rfl, by kernel_rfl, rfl, rfl⟩

/-- slices.IndexFunc[[]cartridge/api.Part,cartridge/api.Part] -/
def k108 : KC :=
 .seq (.reg [⟨(some 4), none, .mv (.i .i64 0)⟩])
 (.seq (.seq (.reg [⟨(some 6), none, .mv (.t 0)⟩,
     ⟨(some 7), none, .bi .len [44] [.t 6]⟩,
     ⟨(some 8), none, .mv (.i .i64 0)⟩])
   (.block 0 (.loop (.seq (.reg [⟨(some 9), none, .bin .lss 3 (.t 8) (.t 7)⟩])
      (.seq (.cond (.t 9)
        (.skip)
        (.exit 0))
       (.seq (.block 1 (.seq (.reg [⟨(some 10), none, .mv (.t 8)⟩,
            ⟨(some 5), none, .mv (.t 10)⟩])
          (.seq (.reg [⟨(some 11), none, .mv (.t 1)⟩,
             ⟨(some 12), none, .mv (.t 0)⟩,
             ⟨(some 13), none, .mv (.t 5)⟩,
             ⟨(some 14), none, .ia 44 (.t 12) (.t 13)⟩,
             ⟨(some 15), none, .ld 48 (.t 14)⟩,
             ⟨(some 16), none, .call (.t 11) [.t 15]⟩])
           (.cond (.t 16)
            (.seq (.reg [⟨(some 17), none, .mv (.t 5)⟩,
               ⟨(some 4), none, .mv (.t 17)⟩])
             (.ret))
            (.skip)))))
        (.reg [⟨(some 18), none, .bin .add 3 (.t 8) (.i .i64 1)⟩,
          ⟨(some 8), none, .mv (.t 18)⟩])))))))
  (.seq (.reg [⟨(some 4), none, .mv (.i .i64 (-1))⟩])
   (.ret)))
theorem b108 : Body Tryd.prog 108 19 [4] k108 := ⟨Enters.of Tryd.func108 (by kernel_rfl) (by kernel_rfl), _, _, Tryd.func108, rfl, by kernel_rfl, rfl, rfl⟩

/-- cartridge/catalog.next -/
def k109 : KC :=
 .seq (.reg [⟨(some 3), none, .box 3 (.t 1)⟩,
   ⟨(some 4), none, .mv (.i .i64 0)⟩])
 (.seq (.reg [⟨(some 5), none, .mv (.t 0)⟩,
    ⟨(some 6), none, .mf 145 [.t 3]⟩,
    ⟨(some 7), none, .call (.fn 108) [.t 5, .t 6]⟩,
    ⟨(some 4), none, .mv (.t 7)⟩])
  (.ret))
theorem b109 : Body Tryd.prog 109 8 [4] k109 := ⟨Enters.of Tryd.func109 (by kernel_rfl) (by kernel_rfl), _, _, Tryd.func109, rfl, by kernel_rfl, rfl, rfl⟩

/-- cartridge/catalog.next$1 -/
def k145 : KC :=
 .seq (.reg [⟨(some 2), none, .box 48 (.t 0)⟩,
   ⟨(some 3), none, .mv (.b false)⟩])
 (.seq (.reg [⟨(some 4), none, .fa 48 (.t 2) 0⟩,
    ⟨(some 5), none, .fa 23 (.t 4) 3⟩,
    ⟨(some 6), none, .ld 3 (.t 5)⟩,
    ⟨(some 7), none, .ld 3 (.t 1)⟩,
    ⟨(some 8), none, .bin .eql 3 (.t 6) (.t 7)⟩,
    ⟨(some 9), none, .mv (.t 8)⟩,
    ⟨(some 10), (some (9, true)), .fa 48 (.t 2) 0⟩,
    ⟨(some 11), (some (9, true)), .fa 23 (.t 10) 2⟩,
    ⟨(some 12), (some (9, true)), .ld 3 (.t 11)⟩,
    ⟨(some 13), (some (9, true)), .bin .eql 3 (.t 12) (.i .i64 0)⟩,
    ⟨(some 14), (some (9, true)), .mv (.t 13)⟩,
    ⟨(some 15), (some (14, false)), .fa 48 (.t 2) 0⟩,
    ⟨(some 16), (some (14, false)), .fa 23 (.t 15) 4⟩,
    ⟨(some 17), (some (14, false)), .ld 3 (.t 16)⟩,
    ⟨(some 18), (some (14, false)), .bin .gtr 3 (.t 17) (.i .i64 0)⟩,
    ⟨(some 19), (some (9, true)), .pk (.t 14) (.b true) (.t 18)⟩,
    ⟨(some 20), none, .pk (.t 9) (.t 19) (.b false)⟩,
    ⟨(some 3), none, .mv (.t 20)⟩])
  (.ret))
theorem b145 : Body Tryd.prog 145 21 [3] k145 := ⟨Enters.of Tryd.func145 (by kernel_rfl) (by kernel_rfl), _, _, Tryd.func145, rfl, by kernel_rfl, rfl, rfl⟩

end Go.Proofs.YtliahlgkinhjlaaDoor
