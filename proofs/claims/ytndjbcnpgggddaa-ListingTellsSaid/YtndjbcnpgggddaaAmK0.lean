import Derived.Test.YtndjbcnpgggddaaAmT
/- The code, cooked, and tied to the program's; written by gen.py. -/
namespace Go.Proofs.Ytndjbcnpgggddaa
open Go.AM

/-- cartridge/cartridgelaw18.ListingTells -/
def k5 : KC :=
 .seq (.reg [⟨(some 6), none, .mv (.b false)⟩])
 (.seq (.reg [⟨(some 17), none, .call (.fn 16) []⟩,
    ⟨(some 7), none, .mv (.t 17)⟩])
  (.seq (.seq (.reg [⟨(some 18), none, .mv (.t 7)⟩,
      ⟨(some 19), none, .un .not (.t 18)⟩,
      ⟨(some 20), none, .mv (.t 19)⟩,
      ⟨(some 21), (some (20, false)), .mv (.t 0)⟩,
      ⟨(some 22), (some (20, false)), .bi .len [31] [.t 21]⟩,
      ⟨(some 23), (some (20, false)), .bin .gtr 3 (.t 22) (.i .i64 40)⟩,
      ⟨(some 24), none, .pk (.t 20) (.b true) (.t 23)⟩])
    (.cond (.t 24)
     (.seq (.reg [⟨(some 25), none, .mv (.t 7)⟩,
        ⟨(some 6), none, .mv (.t 25)⟩])
      (.ret))
     (.skip)))
   (.seq (.seq (.reg [⟨(some 8), none, .mv (.i .i64 0)⟩])
     (.block 0 (.loop (.seq (.seq (.reg [⟨(some 26), none, .mv (.t 8)⟩,
           ⟨(some 27), none, .mv (.t 0)⟩,
           ⟨(some 28), none, .bi .len [31] [.t 27]⟩,
           ⟨(some 29), none, .bin .lss 3 (.t 26) (.t 28)⟩])
         (.cond (.t 29)
          (.skip)
          (.exit 0)))
        (.seq (.block 1 (.seq (.reg [⟨(some 32), none, .mv (.t 0)⟩,
             ⟨(some 33), none, .mv (.t 8)⟩,
             ⟨(some 34), none, .ia 31 (.t 32) (.t 33)⟩,
             ⟨(some 35), none, .fa 36 (.t 34) 6⟩,
             ⟨(some 36), none, .ld 34 (.t 35)⟩,
             ⟨(some 37), none, .bi .len [34] [.t 36]⟩,
             ⟨(some 38), none, .bin .gtr 3 (.t 37) (.i .i64 20)⟩,
             ⟨(some 39), none, .mv (.t 38)⟩,
             ⟨(some 40), (some (39, false)), .mv (.t 0)⟩,
             ⟨(some 41), (some (39, false)), .mv (.t 8)⟩,
             ⟨(some 42), (some (39, false)), .ia 31 (.t 40) (.t 41)⟩,
             ⟨(some 43), (some (39, false)), .fa 36 (.t 42) 1⟩,
             ⟨(some 44), (some (39, false)), .ld 3 (.t 43)⟩,
             ⟨(some 45), (some (39, false)), .bin .gtr 3 (.t 44) (.i .i64 1099511627776)⟩,
             ⟨(some 46), none, .pk (.t 39) (.b true) (.t 45)⟩,
             ⟨(some 47), none, .mv (.t 46)⟩,
             ⟨(some 48), (some (47, false)), .mv (.t 0)⟩,
             ⟨(some 49), (some (47, false)), .mv (.t 8)⟩,
             ⟨(some 50), (some (47, false)), .ia 31 (.t 48) (.t 49)⟩,
             ⟨(some 51), (some (47, false)), .fa 36 (.t 50) 4⟩,
             ⟨(some 52), (some (47, false)), .ld 3 (.t 51)⟩,
             ⟨(some 53), (some (47, false)), .bin .gtr 3 (.t 52) (.i .i64 1099511627776)⟩,
             ⟨(some 54), none, .pk (.t 47) (.b true) (.t 53)⟩])
           (.cond (.t 54)
            (.seq (.reg [⟨(some 6), none, .mv (.b true)⟩])
             (.ret))
            (.skip))))
         (.reg [⟨(some 30), none, .mv (.t 8)⟩,
           ⟨(some 31), none, .bin .add 3 (.t 30) (.i .i64 1)⟩,
           ⟨(some 8), none, .mv (.t 31)⟩]))))))
    (.seq (.reg [⟨(some 56), none, .mv (.t 0)⟩,
       ⟨(some 57), none, .mv (.t 1)⟩,
       ⟨(some 58), none, .call (.fn 18) [.t 56, .t 57]⟩,
       ⟨(some 55), none, .mv (.t 58)⟩,
       ⟨(some 59), none, .ex (.t 55) 0⟩,
       ⟨(some 60), none, .ex (.t 55) 1⟩,
       ⟨(some 9), none, .al 36⟩,
       ⟨none, none, .st 36 (.t 9) (.t 59)⟩,
       ⟨(some 10), none, .mv (.t 60)⟩])
     (.seq (.reg [⟨(some 62), none, .mv (.t 0)⟩,
        ⟨(some 63), none, .mv (.t 1)⟩,
        ⟨(some 64), none, .call (.fn 19) [.t 62, .t 63]⟩,
        ⟨(some 61), none, .mv (.t 64)⟩,
        ⟨(some 65), none, .ex (.t 61) 0⟩,
        ⟨(some 66), none, .ex (.t 61) 1⟩,
        ⟨(some 11), none, .al 36⟩,
        ⟨none, none, .st 36 (.t 11) (.t 65)⟩,
        ⟨(some 12), none, .mv (.t 66)⟩])
      (.seq (.reg [⟨(some 68), none, .mv (.t 0)⟩,
         ⟨(some 69), none, .mv (.t 1)⟩,
         ⟨(some 70), none, .mv (.t 2)⟩,
         ⟨(some 71), none, .call (.fn 20) [.t 68, .t 69, .t 70]⟩,
         ⟨(some 67), none, .mv (.t 71)⟩,
         ⟨(some 72), none, .ex (.t 67) 0⟩,
         ⟨(some 73), none, .ex (.t 67) 1⟩,
         ⟨(some 13), none, .al 36⟩,
         ⟨none, none, .st 36 (.t 13) (.t 72)⟩,
         ⟨(some 14), none, .mv (.t 73)⟩])
       (.seq (.reg [⟨(some 75), none, .mv (.t 0)⟩,
          ⟨(some 76), none, .mv (.t 1)⟩,
          ⟨(some 77), none, .mv (.t 2)⟩,
          ⟨(some 78), none, .call (.fn 21) [.t 75, .t 76, .t 77]⟩,
          ⟨(some 74), none, .mv (.t 78)⟩,
          ⟨(some 79), none, .ex (.t 74) 0⟩,
          ⟨(some 80), none, .ex (.t 74) 1⟩,
          ⟨(some 15), none, .al 36⟩,
          ⟨none, none, .st 36 (.t 15) (.t 79)⟩,
          ⟨(some 16), none, .mv (.t 80)⟩])
        (.seq (.reg [⟨(some 81), none, .ld 36 (.t 9)⟩,
           ⟨(some 82), none, .ld 36 (.t 11)⟩,
           ⟨(some 83), none, .call (.fn 22) [.t 81, .t 82]⟩,
           ⟨(some 84), none, .mv (.t 83)⟩,
           ⟨(some 85), (some (84, true)), .mv (.t 10)⟩,
           ⟨(some 86), (some (84, true)), .mv (.t 12)⟩,
           ⟨(some 87), (some (84, true)), .bin .eql 4 (.t 85) (.t 86)⟩,
           ⟨(some 88), none, .pk (.t 84) (.t 87) (.b false)⟩,
           ⟨(some 89), none, .mv (.t 88)⟩,
           ⟨(some 90), (some (89, true)), .ld 36 (.t 13)⟩,
           ⟨(some 91), (some (89, true)), .ld 36 (.t 15)⟩,
           ⟨(some 92), (some (89, true)), .call (.fn 22) [.t 90, .t 91]⟩,
           ⟨(some 93), none, .pk (.t 89) (.t 92) (.b false)⟩,
           ⟨(some 94), none, .mv (.t 93)⟩,
           ⟨(some 95), (some (94, true)), .mv (.t 14)⟩,
           ⟨(some 96), (some (94, true)), .mv (.t 16)⟩,
           ⟨(some 97), (some (94, true)), .bin .eql 4 (.t 95) (.t 96)⟩,
           ⟨(some 98), none, .pk (.t 94) (.t 97) (.b false)⟩,
           ⟨(some 99), none, .mv (.t 98)⟩,
           ⟨(some 100), (some (99, true)), .mv (.t 0)⟩,
           ⟨(some 101), (some (99, true)), .mv (.t 1)⟩,
           ⟨(some 102), (some (99, true)), .call (.fn 23) [.t 100, .t 101]⟩,
           ⟨(some 103), (some (99, true)), .mv (.t 0)⟩,
           ⟨(some 104), (some (99, true)), .mv (.t 1)⟩,
           ⟨(some 105), (some (99, true)), .call (.fn 24) [.t 103, .t 104]⟩,
           ⟨(some 106), (some (99, true)), .bin .eql 3 (.t 102) (.t 105)⟩,
           ⟨(some 107), none, .pk (.t 99) (.t 106) (.b false)⟩,
           ⟨(some 108), none, .mv (.t 107)⟩,
           ⟨(some 109), (some (108, true)), .mv (.t 0)⟩,
           ⟨(some 110), (some (108, true)), .call (.fn 25) [.t 109]⟩,
           ⟨(some 111), (some (108, true)), .mv (.t 0)⟩,
           ⟨(some 112), (some (108, true)), .call (.fn 26) [.t 111]⟩,
           ⟨(some 113), (some (108, true)), .bin .eql 3 (.t 110) (.t 112)⟩,
           ⟨(some 114), none, .pk (.t 108) (.t 113) (.b false)⟩,
           ⟨(some 115), none, .mv (.t 114)⟩,
           ⟨(some 116), (some (115, true)), .mv (.t 0)⟩,
           ⟨(some 117), (some (115, true)), .call (.fn 17) [.t 116]⟩,
           ⟨(some 118), (some (115, true)), .mv (.t 0)⟩,
           ⟨(some 119), (some (115, true)), .call (.fn 28) [.t 118]⟩,
           ⟨(some 120), (some (115, true)), .call (.fn 27) [.t 117, .t 119]⟩,
           ⟨(some 121), none, .pk (.t 115) (.t 120) (.b false)⟩,
           ⟨(some 6), none, .mv (.t 121)⟩])
         (.ret)))))))))
theorem b5 : Body Try.prog 5 122 [6] k5 := ⟨Enters.of Try.func5 (by kernel_rfl) (by kernel_rfl), _, _, Try.func5, rfl, by kernel_rfl, rfl, rfl⟩

/-- cartridge/cartridgelaw18.alive -/
def k16 : KC :=
 .seq (.reg [⟨(some 0), none, .mv (.b false)⟩])
 (.seq (.reg [⟨(some 4), none, .bld 36 [(0, .s ⟨#[97]⟩), (1, .i .i64 3)]⟩,
    ⟨(some 5), none, .bsl 31 1 [(0, .t 4)]⟩,
    ⟨(some 6), none, .call (.fn 18) [.t 5, .s ⟨#[97]⟩]⟩,
    ⟨(some 3), none, .mv (.t 6)⟩,
    ⟨(some 7), none, .ex (.t 3) 0⟩,
    ⟨(some 8), none, .ex (.t 3) 1⟩,
    ⟨(some 1), none, .al 36⟩,
    ⟨none, none, .st 36 (.t 1) (.t 7)⟩,
    ⟨(some 2), none, .mv (.t 8)⟩])
  (.seq (.reg [⟨(some 9), none, .call (.fn 23) [.ns, .s ⟨#[97]⟩]⟩,
     ⟨(some 10), none, .bin .eql 3 (.t 9) (.i .i64 1)⟩,
     ⟨(some 11), none, .mv (.t 10)⟩,
     ⟨(some 12), (some (11, true)), .call (.fn 25) [.ns]⟩,
     ⟨(some 13), (some (11, true)), .bin .eql 3 (.t 12) (.i .i64 1)⟩,
     ⟨(some 14), none, .pk (.t 11) (.t 13) (.b false)⟩,
     ⟨(some 15), none, .mv (.t 14)⟩,
     ⟨(some 16), (some (15, true)), .mv (.t 2)⟩,
     ⟨(some 17), none, .pk (.t 15) (.t 16) (.b false)⟩,
     ⟨(some 18), none, .mv (.t 17)⟩,
     ⟨(some 19), (some (18, true)), .fa 36 (.t 1) 1⟩,
     ⟨(some 20), (some (18, true)), .ld 3 (.t 19)⟩,
     ⟨(some 21), (some (18, true)), .bin .eql 3 (.t 20) (.i .i64 3)⟩,
     ⟨(some 22), none, .pk (.t 18) (.t 21) (.b false)⟩,
     ⟨(some 23), none, .mv (.t 22)⟩,
     ⟨(some 24), (some (23, true)), .call (.fn 17) [.ns]⟩,
     ⟨(some 25), (some (23, true)), .bi .len [32] [.t 24]⟩,
     ⟨(some 26), (some (23, true)), .bin .eql 3 (.t 25) (.i .i64 0)⟩,
     ⟨(some 27), none, .pk (.t 23) (.t 26) (.b false)⟩,
     ⟨(some 0), none, .mv (.t 27)⟩])
   (.ret)))
theorem b16 : Body Try.prog 16 28 [0] k16 := ⟨Enters.of Try.func16 (by kernel_rfl) (by kernel_rfl), _, _, Try.func16, rfl, by kernel_rfl, rfl, rfl⟩

/-- cartridge/listing.Names -/
def k17 : KC :=
 .seq (.reg [⟨(some 2), none, .mv (.ns)⟩])
 (.seq (.reg [⟨(some 3), none, .mv (.ns)⟩])
  (.seq (.seq (.reg [⟨(some 8), none, .mv (.t 0)⟩,
      ⟨(some 9), none, .bi .len [31] [.t 8]⟩,
      ⟨(some 10), none, .mv (.i .i64 0)⟩])
    (.block 0 (.loop (.seq (.reg [⟨(some 11), none, .bin .lss 3 (.t 10) (.t 9)⟩])
       (.seq (.cond (.t 11)
         (.skip)
         (.exit 0))
        (.seq (.block 1 (.seq (.reg [⟨(some 12), none, .ia 31 (.t 8) (.t 10)⟩,
             ⟨(some 13), none, .ld 36 (.t 12)⟩,
             ⟨(some 5), none, .al 36⟩,
             ⟨none, none, .st 36 (.t 5) (.t 13)⟩])
           (.seq (.reg [⟨(some 15), none, .mv (.t 0)⟩,
              ⟨(some 16), none, .fa 36 (.t 5) 0⟩,
              ⟨(some 17), none, .ld 9 (.t 16)⟩,
              ⟨(some 18), none, .call (.fn 18) [.t 15, .t 17]⟩,
              ⟨(some 14), none, .mv (.t 18)⟩,
              ⟨(some 19), none, .ex (.t 14) 0⟩,
              ⟨(some 20), none, .ex (.t 14) 1⟩,
              ⟨(some 6), none, .al 36⟩,
              ⟨none, none, .st 36 (.t 6) (.t 19)⟩,
              ⟨(some 7), none, .mv (.t 20)⟩])
            (.seq (.reg [⟨(some 21), none, .mv (.t 7)⟩])
             (.cond (.t 21)
              (.reg [⟨(some 22), none, .mv (.t 3)⟩,
                ⟨(some 23), none, .fa 36 (.t 5) 0⟩,
                ⟨(some 24), none, .ld 9 (.t 23)⟩,
                ⟨(some 25), none, .bsl 32 1 [(0, .t 24)]⟩,
                ⟨(some 26), none, .bi .append [32, 32] [.t 22, .t 25]⟩,
                ⟨(some 3), none, .mv (.t 26)⟩])
              (.skip))))))
         (.reg [⟨(some 27), none, .bin .add 3 (.t 10) (.i .i64 1)⟩,
           ⟨(some 10), none, .mv (.t 27)⟩])))))))
   (.seq (.reg [⟨(some 28), none, .mv (.t 3)⟩,
      ⟨(some 29), none, .call (.fn 46) [.t 28]⟩])
    (.seq (.reg [⟨(some 30), none, .mv (.t 3)⟩,
       ⟨(some 31), none, .call (.fn 47) [.t 30]⟩,
       ⟨(some 2), none, .mv (.t 31)⟩])
     (.ret)))))
theorem b17 : Body Try.prog 17 32 [2] k17 := ⟨Enters.of Try.func17 (by kernel_rfl) (by kernel_rfl), _, _, Try.func17, rfl, by kernel_rfl, rfl, rfl⟩

/-- cartridge/listing.Newest -/
def k18 : KC :=
 .seq (.reg [⟨(some 4), none, .al 36⟩,
   ⟨(some 5), none, .mv (.b false)⟩])
 (.seq (.reg [⟨(some 6), none, .mv (.t 0)⟩,
    ⟨(some 7), none, .mv (.t 1)⟩,
    ⟨(some 8), none, .call (.fn 49) [.t 6, .t 7]⟩,
    ⟨(some 9), none, .ex (.t 8) 0⟩,
    ⟨(some 10), none, .ex (.t 8) 1⟩,
    ⟨(some 11), none, .call (.fn 48) [.t 9, .t 10]⟩,
    ⟨(some 12), none, .ex (.t 11) 0⟩,
    ⟨(some 13), none, .ex (.t 11) 1⟩,
    ⟨none, none, .st 36 (.t 4) (.t 12)⟩,
    ⟨(some 5), none, .mv (.t 13)⟩])
  (.ret))

/-- cartridge/cartridgeref10.Newest -/
noncomputable def drw19_0 : Array Oper := ((Try.f19.body.map regs).getD []).getD 0 #[]
noncomputable def k19 : KC :=
 .seq (.reg [⟨(some 4), none, .al 36⟩,
   ⟨(some 5), none, .mv (.b false)⟩])
 (.seq (.reg [⟨(some 6), none, .mv (.i .i64 (-1))⟩])
  (.seq (.seq (.reg [⟨(some 7), none, .mv (.i .i64 0)⟩])
    (.block 0 (.loop (.seq (.seq (.reg [⟨(some 8), none, .mv (.t 7)⟩,
          ⟨(some 9), none, .mv (.t 0)⟩,
          ⟨(some 10), none, .bi .len [31] [.t 9]⟩,
          ⟨(some 11), none, .bin .lss 3 (.t 8) (.t 10)⟩])
        (.cond (.t 11)
         (.skip)
         (.exit 0)))
       (.seq (.block 1 (.seq (.drw drw19_0 [⟨(some 14), none, .mv (.t 0)⟩,
            ⟨(some 15), none, .mv (.t 7)⟩,
            ⟨(some 16), none, .ia 31 (.t 14) (.t 15)⟩,
            ⟨(some 17), none, .fa 36 (.t 16) 0⟩,
            ⟨(some 18), none, .ld 9 (.t 17)⟩,
            ⟨(some 19), none, .mv (.t 1)⟩,
            ⟨(some 20), none, .bin .eql 9 (.t 18) (.t 19)⟩,
            ⟨(some 21), none, .mv (.t 20)⟩,
            ⟨(some 22), (some (21, true)), .mv (.t 6)⟩,
            ⟨(some 23), (some (21, true)), .bin .lss 3 (.t 22) (.i .i64 0)⟩,
            ⟨(some 24), (some (21, true)), .mv (.t 23)⟩,
            ⟨(some 25), (some (24, false)), .mv (.t 0)⟩,
            ⟨(some 26), (some (24, false)), .mv (.t 7)⟩,
            ⟨(some 27), (some (24, false)), .ia 31 (.t 25) (.t 26)⟩,
            ⟨(some 28), (some (24, false)), .fa 36 (.t 27) 1⟩,
            ⟨(some 29), (some (24, false)), .ld 3 (.t 28)⟩,
            ⟨(some 30), (some (24, false)), .mv (.t 0)⟩,
            ⟨(some 31), (some (24, false)), .mv (.t 6)⟩,
            ⟨(some 32), (some (24, false)), .ia 31 (.t 30) (.t 31)⟩,
            ⟨(some 33), (some (24, false)), .fa 36 (.t 32) 1⟩,
            ⟨(some 34), (some (24, false)), .ld 3 (.t 33)⟩,
            ⟨(some 35), (some (24, false)), .bin .gtr 3 (.t 29) (.t 34)⟩,
            ⟨(some 36), (some (21, true)), .pk (.t 24) (.b true) (.t 35)⟩,
            ⟨(some 37), none, .pk (.t 21) (.t 36) (.b false)⟩])
          (.cond (.t 37)
           (.reg [⟨(some 38), none, .mv (.t 7)⟩,
             ⟨(some 6), none, .mv (.t 38)⟩])
           (.skip))))
        (.reg [⟨(some 12), none, .mv (.t 7)⟩,
          ⟨(some 13), none, .bin .add 3 (.t 12) (.i .i64 1)⟩,
          ⟨(some 7), none, .mv (.t 13)⟩]))))))
   (.seq (.seq (.reg [⟨(some 39), none, .mv (.t 6)⟩,
       ⟨(some 40), none, .bin .lss 3 (.t 39) (.i .i64 0)⟩,
       ⟨(some 41), none, .mv (.t 40)⟩,
       ⟨(some 42), (some (41, false)), .mv (.t 0)⟩,
       ⟨(some 43), (some (41, false)), .mv (.t 6)⟩,
       ⟨(some 44), (some (41, false)), .ia 31 (.t 42) (.t 43)⟩,
       ⟨(some 45), (some (41, false)), .fa 36 (.t 44) 5⟩,
       ⟨(some 46), (some (41, false)), .ld 4 (.t 45)⟩,
       ⟨(some 47), none, .pk (.t 41) (.b true) (.t 46)⟩])
     (.cond (.t 47)
      (.seq (.reg [⟨(some 48), none, .bld 36 []⟩,
         ⟨none, none, .st 36 (.t 4) (.t 48)⟩,
         ⟨(some 5), none, .mv (.b false)⟩])
       (.ret))
      (.skip)))
    (.seq (.reg [⟨(some 49), none, .mv (.t 0)⟩,
       ⟨(some 50), none, .mv (.t 6)⟩,
       ⟨(some 51), none, .ia 31 (.t 49) (.t 50)⟩,
       ⟨(some 52), none, .ld 36 (.t 51)⟩,
       ⟨none, none, .st 36 (.t 4) (.t 52)⟩,
       ⟨(some 5), none, .mv (.b true)⟩])
     (.ret)))))

/-- cartridge/listing.Get -/
def k20 : KC :=
 .seq (.reg [⟨(some 4), none, .box 9 (.t 1)⟩,
   ⟨(some 5), none, .box 3 (.t 2)⟩,
   ⟨(some 6), none, .al 36⟩,
   ⟨(some 7), none, .mv (.b false)⟩])
 (.seq (.seq (.reg [⟨(some 9), none, .ld 3 (.t 5)⟩,
     ⟨(some 10), none, .bin .eql 3 (.t 9) (.i .i64 0)⟩])
   (.cond (.t 10)
    (.seq (.reg [⟨(some 11), none, .mv (.t 0)⟩,
       ⟨(some 12), none, .ld 9 (.t 4)⟩,
       ⟨(some 13), none, .call (.fn 18) [.t 11, .t 12]⟩,
       ⟨(some 14), none, .ex (.t 13) 0⟩,
       ⟨(some 15), none, .ex (.t 13) 1⟩,
       ⟨none, none, .st 36 (.t 6) (.t 14)⟩,
       ⟨(some 7), none, .mv (.t 15)⟩])
     (.ret))
    (.skip)))
  (.seq (.reg [⟨(some 16), none, .mv (.t 0)⟩,
     ⟨(some 17), none, .mf 51 [.t 4, .t 5]⟩,
     ⟨(some 18), none, .call (.fn 50) [.t 16, .t 17]⟩,
     ⟨(some 8), none, .mv (.t 18)⟩])
   (.seq (.seq (.reg [⟨(some 19), none, .mv (.t 8)⟩,
       ⟨(some 20), none, .bin .lss 3 (.t 19) (.i .i64 0)⟩])
     (.cond (.t 20)
      (.seq (.reg [⟨(some 21), none, .bld 36 []⟩,
         ⟨none, none, .st 36 (.t 6) (.t 21)⟩,
         ⟨(some 7), none, .mv (.b false)⟩])
       (.ret))
      (.skip)))
    (.seq (.reg [⟨(some 22), none, .mv (.t 0)⟩,
       ⟨(some 23), none, .mv (.t 8)⟩,
       ⟨(some 24), none, .ia 31 (.t 22) (.t 23)⟩,
       ⟨(some 25), none, .ld 36 (.t 24)⟩,
       ⟨(some 26), none, .call (.fn 48) [.t 25, .b true]⟩,
       ⟨(some 27), none, .ex (.t 26) 0⟩,
       ⟨(some 28), none, .ex (.t 26) 1⟩,
       ⟨none, none, .st 36 (.t 6) (.t 27)⟩,
       ⟨(some 7), none, .mv (.t 28)⟩])
     (.ret)))))

/-- cartridge/cartridgeref10.GetFile -/
def k21 : KC :=
 .seq (.reg [⟨(some 6), none, .al 36⟩,
   ⟨(some 7), none, .mv (.b false)⟩])
 (.seq (.seq (.reg [⟨(some 9), none, .mv (.t 2)⟩,
     ⟨(some 10), none, .bin .eql 3 (.t 9) (.i .i64 0)⟩])
   (.cond (.t 10)
    (.seq (.reg [⟨(some 11), none, .mv (.t 0)⟩,
       ⟨(some 12), none, .mv (.t 1)⟩,
       ⟨(some 13), none, .call (.fn 19) [.t 11, .t 12]⟩,
       ⟨(some 14), none, .ex (.t 13) 0⟩,
       ⟨(some 15), none, .ex (.t 13) 1⟩,
       ⟨none, none, .st 36 (.t 6) (.t 14)⟩,
       ⟨(some 7), none, .mv (.t 15)⟩])
     (.ret))
    (.skip)))
  (.seq (.seq (.reg [⟨(some 8), none, .mv (.i .i64 0)⟩])
    (.block 0 (.loop (.seq (.seq (.reg [⟨(some 16), none, .mv (.t 8)⟩,
          ⟨(some 17), none, .mv (.t 0)⟩,
          ⟨(some 18), none, .bi .len [31] [.t 17]⟩,
          ⟨(some 19), none, .bin .lss 3 (.t 16) (.t 18)⟩])
        (.cond (.t 19)
         (.skip)
         (.exit 0)))
       (.seq (.block 1 (.seq (.reg [⟨(some 22), none, .mv (.t 0)⟩,
            ⟨(some 23), none, .mv (.t 8)⟩,
            ⟨(some 24), none, .ia 31 (.t 22) (.t 23)⟩,
            ⟨(some 25), none, .fa 36 (.t 24) 0⟩,
            ⟨(some 26), none, .ld 9 (.t 25)⟩,
            ⟨(some 27), none, .mv (.t 1)⟩,
            ⟨(some 28), none, .bin .eql 9 (.t 26) (.t 27)⟩,
            ⟨(some 29), none, .mv (.t 28)⟩,
            ⟨(some 30), (some (29, true)), .mv (.t 0)⟩,
            ⟨(some 31), (some (29, true)), .mv (.t 8)⟩,
            ⟨(some 32), (some (29, true)), .ia 31 (.t 30) (.t 31)⟩,
            ⟨(some 33), (some (29, true)), .fa 36 (.t 32) 1⟩,
            ⟨(some 34), (some (29, true)), .ld 3 (.t 33)⟩,
            ⟨(some 35), (some (29, true)), .mv (.t 2)⟩,
            ⟨(some 36), (some (29, true)), .bin .eql 3 (.t 34) (.t 35)⟩,
            ⟨(some 37), none, .pk (.t 29) (.t 36) (.b false)⟩])
          (.cond (.t 37)
           (.seq (.seq (.reg [⟨(some 38), none, .mv (.t 0)⟩,
               ⟨(some 39), none, .mv (.t 8)⟩,
               ⟨(some 40), none, .ia 31 (.t 38) (.t 39)⟩,
               ⟨(some 41), none, .fa 36 (.t 40) 5⟩,
               ⟨(some 42), none, .ld 4 (.t 41)⟩])
             (.cond (.t 42)
              (.seq (.reg [⟨(some 43), none, .bld 36 []⟩,
                 ⟨none, none, .st 36 (.t 6) (.t 43)⟩,
                 ⟨(some 7), none, .mv (.b false)⟩])
               (.ret))
              (.skip)))
            (.seq (.reg [⟨(some 44), none, .mv (.t 0)⟩,
               ⟨(some 45), none, .mv (.t 8)⟩,
               ⟨(some 46), none, .ia 31 (.t 44) (.t 45)⟩,
               ⟨(some 47), none, .ld 36 (.t 46)⟩,
               ⟨none, none, .st 36 (.t 6) (.t 47)⟩,
               ⟨(some 7), none, .mv (.b true)⟩])
             (.ret)))
           (.skip))))
        (.reg [⟨(some 20), none, .mv (.t 8)⟩,
          ⟨(some 21), none, .bin .add 3 (.t 20) (.i .i64 1)⟩,
          ⟨(some 8), none, .mv (.t 21)⟩]))))))
   (.seq (.reg [⟨(some 48), none, .bld 36 []⟩,
      ⟨none, none, .st 36 (.t 6) (.t 48)⟩,
      ⟨(some 7), none, .mv (.b false)⟩])
    (.ret))))

/-- cartridge/cartridgeref10.SameFile -/
noncomputable def drw22_0 : Array Oper := ((Try.f22.body.map regs).getD []).getD 0 #[]
noncomputable def k22 : KC :=
 .seq (.reg [⟨(some 2), none, .box 36 (.t 0)⟩,
   ⟨(some 3), none, .box 36 (.t 1)⟩,
   ⟨(some 4), none, .mv (.b false)⟩])
 (.seq (.seq (.reg [⟨(some 6), none, .fa 36 (.t 2) 0⟩,
     ⟨(some 7), none, .ld 9 (.t 6)⟩,
     ⟨(some 8), none, .fa 36 (.t 3) 0⟩,
     ⟨(some 9), none, .ld 9 (.t 8)⟩,
     ⟨(some 10), none, .bin .neq 9 (.t 7) (.t 9)⟩,
     ⟨(some 11), none, .mv (.t 10)⟩,
     ⟨(some 12), (some (11, false)), .fa 36 (.t 2) 1⟩,
     ⟨(some 13), (some (11, false)), .ld 3 (.t 12)⟩,
     ⟨(some 14), (some (11, false)), .fa 36 (.t 3) 1⟩,
     ⟨(some 15), (some (11, false)), .ld 3 (.t 14)⟩,
     ⟨(some 16), (some (11, false)), .bin .neq 3 (.t 13) (.t 15)⟩,
     ⟨(some 17), none, .pk (.t 11) (.b true) (.t 16)⟩,
     ⟨(some 18), none, .mv (.t 17)⟩,
     ⟨(some 19), (some (18, false)), .fa 36 (.t 2) 2⟩,
     ⟨(some 20), (some (18, false)), .ld 3 (.t 19)⟩,
     ⟨(some 21), (some (18, false)), .fa 36 (.t 3) 2⟩,
     ⟨(some 22), (some (18, false)), .ld 3 (.t 21)⟩,
     ⟨(some 23), (some (18, false)), .bin .neq 3 (.t 20) (.t 22)⟩,
     ⟨(some 24), none, .pk (.t 18) (.b true) (.t 23)⟩,
     ⟨(some 25), none, .mv (.t 24)⟩,
     ⟨(some 26), (some (25, false)), .fa 36 (.t 2) 3⟩,
     ⟨(some 27), (some (25, false)), .ld 3 (.t 26)⟩,
     ⟨(some 28), (some (25, false)), .fa 36 (.t 3) 3⟩,
     ⟨(some 29), (some (25, false)), .ld 3 (.t 28)⟩,
     ⟨(some 30), (some (25, false)), .bin .neq 3 (.t 27) (.t 29)⟩,
     ⟨(some 31), none, .pk (.t 25) (.b true) (.t 30)⟩,
     ⟨(some 32), none, .mv (.t 31)⟩,
     ⟨(some 33), (some (32, false)), .fa 36 (.t 2) 4⟩,
     ⟨(some 34), (some (32, false)), .ld 3 (.t 33)⟩,
     ⟨(some 35), (some (32, false)), .fa 36 (.t 3) 4⟩,
     ⟨(some 36), (some (32, false)), .ld 3 (.t 35)⟩,
     ⟨(some 37), (some (32, false)), .bin .neq 3 (.t 34) (.t 36)⟩,
     ⟨(some 38), none, .pk (.t 32) (.b true) (.t 37)⟩,
     ⟨(some 39), none, .mv (.t 38)⟩,
     ⟨(some 40), (some (39, false)), .fa 36 (.t 2) 5⟩,
     ⟨(some 41), (some (39, false)), .ld 4 (.t 40)⟩,
     ⟨(some 42), (some (39, false)), .fa 36 (.t 3) 5⟩,
     ⟨(some 43), (some (39, false)), .ld 4 (.t 42)⟩,
     ⟨(some 44), (some (39, false)), .bin .neq 4 (.t 41) (.t 43)⟩,
     ⟨(some 45), none, .pk (.t 39) (.b true) (.t 44)⟩,
     ⟨(some 46), none, .mv (.t 45)⟩,
     ⟨(some 47), (some (46, false)), .fa 36 (.t 2) 6⟩,
     ⟨(some 48), (some (46, false)), .ld 34 (.t 47)⟩,
     ⟨(some 49), (some (46, false)), .bi .len [34] [.t 48]⟩,
     ⟨(some 50), (some (46, false)), .fa 36 (.t 3) 6⟩,
     ⟨(some 51), (some (46, false)), .ld 34 (.t 50)⟩,
     ⟨(some 52), (some (46, false)), .bi .len [34] [.t 51]⟩,
     ⟨(some 53), (some (46, false)), .bin .neq 3 (.t 49) (.t 52)⟩,
     ⟨(some 54), none, .pk (.t 46) (.b true) (.t 53)⟩])
   (.cond (.t 54)
    (.seq (.reg [⟨(some 4), none, .mv (.b false)⟩])
     (.ret))
    (.skip)))
  (.seq (.seq (.reg [⟨(some 5), none, .mv (.i .i64 0)⟩])
    (.block 0 (.loop (.seq (.seq (.reg [⟨(some 55), none, .mv (.t 5)⟩,
          ⟨(some 56), none, .fa 36 (.t 2) 6⟩,
          ⟨(some 57), none, .ld 34 (.t 56)⟩,
          ⟨(some 58), none, .bi .len [34] [.t 57]⟩,
          ⟨(some 59), none, .bin .lss 3 (.t 55) (.t 58)⟩])
        (.cond (.t 59)
         (.skip)
         (.exit 0)))
       (.seq (.block 1 (.seq (.drw drw22_0 [⟨(some 62), none, .fa 36 (.t 2) 6⟩,
            ⟨(some 63), none, .ld 34 (.t 62)⟩,
            ⟨(some 64), none, .mv (.t 5)⟩,
            ⟨(some 65), none, .ia 34 (.t 63) (.t 64)⟩,
            ⟨(some 66), none, .ld 87 (.t 65)⟩,
            ⟨(some 67), none, .fa 36 (.t 3) 6⟩,
            ⟨(some 68), none, .ld 34 (.t 67)⟩,
            ⟨(some 69), none, .mv (.t 5)⟩,
            ⟨(some 70), none, .ia 34 (.t 68) (.t 69)⟩,
            ⟨(some 71), none, .ld 87 (.t 70)⟩,
            ⟨(some 72), none, .bin .neq 87 (.t 66) (.t 71)⟩])
          (.cond (.t 72)
           (.seq (.reg [⟨(some 4), none, .mv (.b false)⟩])
            (.ret))
           (.skip))))
        (.reg [⟨(some 60), none, .mv (.t 5)⟩,
          ⟨(some 61), none, .bin .add 3 (.t 60) (.i .i64 1)⟩,
          ⟨(some 5), none, .mv (.t 61)⟩]))))))
   (.seq (.reg [⟨(some 4), none, .mv (.b true)⟩])
    (.ret))))
theorem b22 : Body Try.prog 22 73 [4] k22 := ⟨Enters.of Try.func22 (by kernel_rfl) (by kernel_rfl), _, _, Try.func22, rfl, by kernel_rfl, rfl, rfl⟩

/-- cartridge/listing.Next -/
def k23 : KC :=
 .seq (.reg [⟨(some 4), none, .mv (.i .i64 0)⟩])
 (.seq (.reg [⟨(some 8), none, .mv (.t 0)⟩,
    ⟨(some 9), none, .mv (.t 1)⟩,
    ⟨(some 10), none, .call (.fn 49) [.t 8, .t 9]⟩,
    ⟨(some 7), none, .mv (.t 10)⟩,
    ⟨(some 11), none, .ex (.t 7) 0⟩,
    ⟨(some 12), none, .ex (.t 7) 1⟩,
    ⟨(some 5), none, .al 36⟩,
    ⟨none, none, .st 36 (.t 5) (.t 11)⟩,
    ⟨(some 6), none, .mv (.t 12)⟩])
  (.seq (.seq (.reg [⟨(some 13), none, .mv (.t 6)⟩,
      ⟨(some 14), none, .un .not (.t 13)⟩])
    (.cond (.t 14)
     (.seq (.reg [⟨(some 4), none, .mv (.i .i64 1)⟩])
      (.ret))
     (.skip)))
   (.seq (.reg [⟨(some 15), none, .fa 36 (.t 5) 1⟩,
      ⟨(some 16), none, .ld 3 (.t 15)⟩,
      ⟨(some 17), none, .bin .add 3 (.t 16) (.i .i64 1)⟩,
      ⟨(some 4), none, .mv (.t 17)⟩])
    (.ret))))
theorem b23 : Body Try.prog 23 18 [4] k23 := ⟨Enters.of Try.func23 (by kernel_rfl) (by kernel_rfl), _, _, Try.func23, rfl, by kernel_rfl, rfl, rfl⟩

/-- cartridge/cartridgeref10.Next -/
noncomputable def drw24_0 : Array Oper := ((Try.f24.body.map regs).getD []).getD 0 #[]
noncomputable def k24 : KC :=
 .seq (.reg [⟨(some 4), none, .mv (.i .i64 0)⟩])
 (.seq (.reg [⟨(some 5), none, .mv (.i .i64 (-1))⟩])
  (.seq (.seq (.reg [⟨(some 6), none, .mv (.i .i64 0)⟩])
    (.block 0 (.loop (.seq (.seq (.reg [⟨(some 7), none, .mv (.t 6)⟩,
          ⟨(some 8), none, .mv (.t 0)⟩,
          ⟨(some 9), none, .bi .len [31] [.t 8]⟩,
          ⟨(some 10), none, .bin .lss 3 (.t 7) (.t 9)⟩])
        (.cond (.t 10)
         (.skip)
         (.exit 0)))
       (.seq (.block 1 (.seq (.drw drw24_0 [⟨(some 13), none, .mv (.t 0)⟩,
            ⟨(some 14), none, .mv (.t 6)⟩,
            ⟨(some 15), none, .ia 31 (.t 13) (.t 14)⟩,
            ⟨(some 16), none, .fa 36 (.t 15) 0⟩,
            ⟨(some 17), none, .ld 9 (.t 16)⟩,
            ⟨(some 18), none, .mv (.t 1)⟩,
            ⟨(some 19), none, .bin .eql 9 (.t 17) (.t 18)⟩,
            ⟨(some 20), none, .mv (.t 19)⟩,
            ⟨(some 21), (some (20, true)), .mv (.t 5)⟩,
            ⟨(some 22), (some (20, true)), .bin .lss 3 (.t 21) (.i .i64 0)⟩,
            ⟨(some 23), (some (20, true)), .mv (.t 22)⟩,
            ⟨(some 24), (some (23, false)), .mv (.t 0)⟩,
            ⟨(some 25), (some (23, false)), .mv (.t 6)⟩,
            ⟨(some 26), (some (23, false)), .ia 31 (.t 24) (.t 25)⟩,
            ⟨(some 27), (some (23, false)), .fa 36 (.t 26) 1⟩,
            ⟨(some 28), (some (23, false)), .ld 3 (.t 27)⟩,
            ⟨(some 29), (some (23, false)), .mv (.t 0)⟩,
            ⟨(some 30), (some (23, false)), .mv (.t 5)⟩,
            ⟨(some 31), (some (23, false)), .ia 31 (.t 29) (.t 30)⟩,
            ⟨(some 32), (some (23, false)), .fa 36 (.t 31) 1⟩,
            ⟨(some 33), (some (23, false)), .ld 3 (.t 32)⟩,
            ⟨(some 34), (some (23, false)), .bin .gtr 3 (.t 28) (.t 33)⟩,
            ⟨(some 35), (some (20, true)), .pk (.t 23) (.b true) (.t 34)⟩,
            ⟨(some 36), none, .pk (.t 20) (.t 35) (.b false)⟩])
          (.cond (.t 36)
           (.reg [⟨(some 37), none, .mv (.t 6)⟩,
             ⟨(some 5), none, .mv (.t 37)⟩])
           (.skip))))
        (.reg [⟨(some 11), none, .mv (.t 6)⟩,
          ⟨(some 12), none, .bin .add 3 (.t 11) (.i .i64 1)⟩,
          ⟨(some 6), none, .mv (.t 12)⟩]))))))
   (.seq (.seq (.reg [⟨(some 38), none, .mv (.t 5)⟩,
       ⟨(some 39), none, .bin .lss 3 (.t 38) (.i .i64 0)⟩])
     (.cond (.t 39)
      (.seq (.reg [⟨(some 4), none, .mv (.i .i64 1)⟩])
       (.ret))
      (.skip)))
    (.seq (.reg [⟨(some 40), none, .mv (.t 0)⟩,
       ⟨(some 41), none, .mv (.t 5)⟩,
       ⟨(some 42), none, .ia 31 (.t 40) (.t 41)⟩,
       ⟨(some 43), none, .fa 36 (.t 42) 1⟩,
       ⟨(some 44), none, .ld 3 (.t 43)⟩,
       ⟨(some 45), none, .bin .add 3 (.t 44) (.i .i64 1)⟩,
       ⟨(some 4), none, .mv (.t 45)⟩])
     (.ret)))))
theorem b24 : Body Try.prog 24 46 [4] k24 := ⟨Enters.of Try.func24 (by kernel_rfl) (by kernel_rfl), _, _, Try.func24, rfl, by kernel_rfl, rfl, rfl⟩

/-- cartridge/listing.Serial -/
def k25 : KC :=
 .seq (.reg [⟨(some 2), none, .mv (.i .i64 0)⟩])
 (.seq (.seq (.reg [⟨(some 6), none, .mv (.t 0)⟩,
     ⟨(some 7), none, .bi .len [31] [.t 6]⟩,
     ⟨(some 8), none, .bin .eql 3 (.t 7) (.i .i64 0)⟩])
   (.cond (.t 8)
    (.seq (.reg [⟨(some 2), none, .mv (.i .i64 1)⟩])
     (.ret))
    (.skip)))
  (.seq (.reg [⟨(some 9), none, .mv (.t 0)⟩,
     ⟨(some 10), none, .ia 31 (.t 9) (.i .i64 0)⟩,
     ⟨(some 11), none, .fa 36 (.t 10) 4⟩,
     ⟨(some 12), none, .ld 3 (.t 11)⟩,
     ⟨(some 3), none, .mv (.t 12)⟩])
   (.seq (.seq (.reg [⟨(some 13), none, .mv (.t 0)⟩,
       ⟨(some 14), none, .bi .len [31] [.t 13]⟩,
       ⟨(some 15), none, .mv (.i .i64 0)⟩])
     (.block 0 (.loop (.seq (.reg [⟨(some 16), none, .bin .lss 3 (.t 15) (.t 14)⟩])
        (.seq (.cond (.t 16)
          (.skip)
          (.exit 0))
         (.seq (.block 1 (.seq (.reg [⟨(some 17), none, .ia 31 (.t 13) (.t 15)⟩,
              ⟨(some 18), none, .ld 36 (.t 17)⟩,
              ⟨(some 5), none, .al 36⟩,
              ⟨none, none, .st 36 (.t 5) (.t 18)⟩])
            (.reg [⟨(some 19), none, .mv (.t 3)⟩,
              ⟨(some 20), none, .fa 36 (.t 5) 4⟩,
              ⟨(some 21), none, .ld 3 (.t 20)⟩,
              ⟨(some 22), none, .bi .max [3, 3] [.t 19, .t 21]⟩,
              ⟨(some 3), none, .mv (.t 22)⟩])))
          (.reg [⟨(some 23), none, .bin .add 3 (.t 15) (.i .i64 1)⟩,
            ⟨(some 15), none, .mv (.t 23)⟩])))))))
    (.seq (.reg [⟨(some 24), none, .mv (.t 3)⟩,
       ⟨(some 25), none, .bin .add 3 (.t 24) (.i .i64 1)⟩,
       ⟨(some 2), none, .mv (.t 25)⟩])
     (.ret)))))
theorem b25 : Body Try.prog 25 26 [2] k25 := ⟨Enters.of Try.func25 (by kernel_rfl) (by kernel_rfl), _, _, Try.func25, rfl, by kernel_rfl, rfl, rfl⟩

/-- cartridge/cartridgeref10.Serial -/
noncomputable def drw26_0 : Array Oper := ((Try.f26.body.map regs).getD []).getD 0 #[]
noncomputable def k26 : KC :=
 .seq (.reg [⟨(some 2), none, .mv (.i .i64 0)⟩])
 (.seq (.reg [⟨(some 3), none, .mv (.i .i64 (-1))⟩])
  (.seq (.seq (.reg [⟨(some 4), none, .mv (.i .i64 0)⟩])
    (.block 0 (.loop (.seq (.seq (.reg [⟨(some 5), none, .mv (.t 4)⟩,
          ⟨(some 6), none, .mv (.t 0)⟩,
          ⟨(some 7), none, .bi .len [31] [.t 6]⟩,
          ⟨(some 8), none, .bin .lss 3 (.t 5) (.t 7)⟩])
        (.cond (.t 8)
         (.skip)
         (.exit 0)))
       (.seq (.block 1 (.seq (.drw drw26_0 [⟨(some 11), none, .mv (.t 3)⟩,
            ⟨(some 12), none, .bin .lss 3 (.t 11) (.i .i64 0)⟩,
            ⟨(some 13), none, .mv (.t 12)⟩,
            ⟨(some 14), (some (13, false)), .mv (.t 0)⟩,
            ⟨(some 15), (some (13, false)), .mv (.t 4)⟩,
            ⟨(some 16), (some (13, false)), .ia 31 (.t 14) (.t 15)⟩,
            ⟨(some 17), (some (13, false)), .fa 36 (.t 16) 4⟩,
            ⟨(some 18), (some (13, false)), .ld 3 (.t 17)⟩,
            ⟨(some 19), (some (13, false)), .mv (.t 0)⟩,
            ⟨(some 20), (some (13, false)), .mv (.t 3)⟩,
            ⟨(some 21), (some (13, false)), .ia 31 (.t 19) (.t 20)⟩,
            ⟨(some 22), (some (13, false)), .fa 36 (.t 21) 4⟩,
            ⟨(some 23), (some (13, false)), .ld 3 (.t 22)⟩,
            ⟨(some 24), (some (13, false)), .bin .gtr 3 (.t 18) (.t 23)⟩,
            ⟨(some 25), none, .pk (.t 13) (.b true) (.t 24)⟩])
          (.cond (.t 25)
           (.reg [⟨(some 26), none, .mv (.t 4)⟩,
             ⟨(some 3), none, .mv (.t 26)⟩])
           (.skip))))
        (.reg [⟨(some 9), none, .mv (.t 4)⟩,
          ⟨(some 10), none, .bin .add 3 (.t 9) (.i .i64 1)⟩,
          ⟨(some 4), none, .mv (.t 10)⟩]))))))
   (.seq (.seq (.reg [⟨(some 27), none, .mv (.t 3)⟩,
       ⟨(some 28), none, .bin .lss 3 (.t 27) (.i .i64 0)⟩])
     (.cond (.t 28)
      (.seq (.reg [⟨(some 2), none, .mv (.i .i64 1)⟩])
       (.ret))
      (.skip)))
    (.seq (.reg [⟨(some 29), none, .mv (.t 0)⟩,
       ⟨(some 30), none, .mv (.t 3)⟩,
       ⟨(some 31), none, .ia 31 (.t 29) (.t 30)⟩,
       ⟨(some 32), none, .fa 36 (.t 31) 4⟩,
       ⟨(some 33), none, .ld 3 (.t 32)⟩,
       ⟨(some 34), none, .bin .add 3 (.t 33) (.i .i64 1)⟩,
       ⟨(some 2), none, .mv (.t 34)⟩])
     (.ret)))))
theorem b26 : Body Try.prog 26 35 [2] k26 := ⟨Enters.of Try.func26 (by kernel_rfl) (by kernel_rfl), _, _, Try.func26, rfl, by kernel_rfl, rfl, rfl⟩

/-- cartridge/cartridgeref1.SameTexts -/
noncomputable def drw27_0 : Array Oper := ((Try.f27.body.map regs).getD []).getD 0 #[]
noncomputable def k27 : KC :=
 .seq (.reg [⟨(some 4), none, .mv (.b false)⟩])
 (.seq (.seq (.reg [⟨(some 6), none, .mv (.t 0)⟩,
     ⟨(some 7), none, .bi .len [32] [.t 6]⟩,
     ⟨(some 8), none, .mv (.t 1)⟩,
     ⟨(some 9), none, .bi .len [32] [.t 8]⟩,
     ⟨(some 10), none, .bin .neq 3 (.t 7) (.t 9)⟩])
   (.cond (.t 10)
    (.seq (.reg [⟨(some 4), none, .mv (.b false)⟩])
     (.ret))
    (.skip)))
  (.seq (.seq (.reg [⟨(some 5), none, .mv (.i .i64 0)⟩])
    (.block 0 (.loop (.seq (.seq (.reg [⟨(some 11), none, .mv (.t 5)⟩,
          ⟨(some 12), none, .mv (.t 0)⟩,
          ⟨(some 13), none, .bi .len [32] [.t 12]⟩,
          ⟨(some 14), none, .bin .lss 3 (.t 11) (.t 13)⟩])
        (.cond (.t 14)
         (.skip)
         (.exit 0)))
       (.seq (.block 1 (.seq (.drw drw27_0 [⟨(some 17), none, .mv (.t 0)⟩,
            ⟨(some 18), none, .mv (.t 5)⟩,
            ⟨(some 19), none, .ia 32 (.t 17) (.t 18)⟩,
            ⟨(some 20), none, .ld 9 (.t 19)⟩,
            ⟨(some 21), none, .mv (.t 1)⟩,
            ⟨(some 22), none, .mv (.t 5)⟩,
            ⟨(some 23), none, .ia 32 (.t 21) (.t 22)⟩,
            ⟨(some 24), none, .ld 9 (.t 23)⟩,
            ⟨(some 25), none, .bin .neq 9 (.t 20) (.t 24)⟩])
          (.cond (.t 25)
           (.seq (.reg [⟨(some 4), none, .mv (.b false)⟩])
            (.ret))
           (.skip))))
        (.reg [⟨(some 15), none, .mv (.t 5)⟩,
          ⟨(some 16), none, .bin .add 3 (.t 15) (.i .i64 1)⟩,
          ⟨(some 5), none, .mv (.t 16)⟩]))))))
   (.seq (.reg [⟨(some 4), none, .mv (.b true)⟩])
    (.ret))))
theorem b27 : Body Try.prog 27 26 [4] k27 := ⟨Enters.of Try.func27 (by kernel_rfl) (by kernel_rfl), _, _, Try.func27, rfl, by kernel_rfl, rfl, rfl⟩

/-- cartridge/cartridgeref10.Names -/
noncomputable def drw28_0 : Array Oper := ((Try.f28.body.map regs).getD []).getD 0 #[]
noncomputable def drw28_1 : Array Oper := ((Try.f28.body.map regs).getD []).getD 1 #[]
noncomputable def drw28_2 : Array Oper := ((Try.f28.body.map regs).getD []).getD 2 #[]
noncomputable def k28 : KC :=
 .seq (.reg [⟨(some 2), none, .mv (.ns)⟩])
 (.seq (.reg [⟨(some 3), none, .mv (.ns)⟩])
  (.seq (.seq (.reg [⟨(some 4), none, .mv (.i .i64 0)⟩])
    (.block 0 (.loop (.seq (.seq (.reg [⟨(some 8), none, .mv (.t 4)⟩,
          ⟨(some 9), none, .mv (.t 0)⟩,
          ⟨(some 10), none, .bi .len [31] [.t 9]⟩,
          ⟨(some 11), none, .bin .lss 3 (.t 8) (.t 10)⟩])
        (.cond (.t 11)
         (.skip)
         (.exit 0)))
       (.seq (.block 1 (.seq (.reg [⟨(some 15), none, .mv (.t 0)⟩,
            ⟨(some 16), none, .mv (.t 0)⟩,
            ⟨(some 17), none, .mv (.t 4)⟩,
            ⟨(some 18), none, .ia 31 (.t 16) (.t 17)⟩,
            ⟨(some 19), none, .fa 36 (.t 18) 0⟩,
            ⟨(some 20), none, .ld 9 (.t 19)⟩,
            ⟨(some 21), none, .call (.fn 19) [.t 15, .t 20]⟩,
            ⟨(some 14), none, .mv (.t 21)⟩,
            ⟨(some 22), none, .ex (.t 14) 0⟩,
            ⟨(some 23), none, .ex (.t 14) 1⟩,
            ⟨(some 5), none, .al 36⟩,
            ⟨none, none, .st 36 (.t 5) (.t 22)⟩,
            ⟨(some 6), none, .mv (.t 23)⟩])
          (.seq (.reg [⟨(some 7), none, .mv (.i .i64 0)⟩])
           (.seq (.block 2 (.loop (.seq (.seq (.drw drw28_0 [⟨(some 24), none, .mv (.t 7)⟩,
                  ⟨(some 25), none, .mv (.t 3)⟩,
                  ⟨(some 26), none, .bi .len [32] [.t 25]⟩,
                  ⟨(some 27), none, .bin .lss 3 (.t 24) (.t 26)⟩,
                  ⟨(some 28), none, .mv (.t 27)⟩,
                  ⟨(some 29), (some (28, true)), .mv (.t 3)⟩,
                  ⟨(some 30), (some (28, true)), .mv (.t 7)⟩,
                  ⟨(some 31), (some (28, true)), .ia 32 (.t 29) (.t 30)⟩,
                  ⟨(some 32), (some (28, true)), .ld 9 (.t 31)⟩,
                  ⟨(some 33), (some (28, true)), .mv (.t 0)⟩,
                  ⟨(some 34), (some (28, true)), .mv (.t 4)⟩,
                  ⟨(some 35), (some (28, true)), .ia 31 (.t 33) (.t 34)⟩,
                  ⟨(some 36), (some (28, true)), .fa 36 (.t 35) 0⟩,
                  ⟨(some 37), (some (28, true)), .ld 9 (.t 36)⟩,
                  ⟨(some 38), (some (28, true)), .bin .lss 9 (.t 32) (.t 37)⟩,
                  ⟨(some 39), none, .pk (.t 28) (.t 38) (.b false)⟩])
                (.cond (.t 39)
                 (.skip)
                 (.exit 2)))
               (.block 3 (.reg [⟨(some 40), none, .mv (.t 7)⟩,
                  ⟨(some 41), none, .bin .add 3 (.t 40) (.i .i64 1)⟩,
                  ⟨(some 7), none, .mv (.t 41)⟩])))))
            (.seq (.seq (.drw drw28_1 [⟨(some 42), none, .mv (.t 6)⟩,
                ⟨(some 43), none, .un .not (.t 42)⟩,
                ⟨(some 44), none, .mv (.t 43)⟩,
                ⟨(some 45), (some (44, false)), .mv (.t 7)⟩,
                ⟨(some 46), (some (44, false)), .mv (.t 3)⟩,
                ⟨(some 47), (some (44, false)), .bi .len [32] [.t 46]⟩,
                ⟨(some 48), (some (44, false)), .bin .lss 3 (.t 45) (.t 47)⟩,
                ⟨(some 49), (some (44, false)), .mv (.t 48)⟩,
                ⟨(some 50), (some (49, true)), .mv (.t 3)⟩,
                ⟨(some 51), (some (49, true)), .mv (.t 7)⟩,
                ⟨(some 52), (some (49, true)), .ia 32 (.t 50) (.t 51)⟩,
                ⟨(some 53), (some (49, true)), .ld 9 (.t 52)⟩,
                ⟨(some 54), (some (49, true)), .mv (.t 0)⟩,
                ⟨(some 55), (some (49, true)), .mv (.t 4)⟩,
                ⟨(some 56), (some (49, true)), .ia 31 (.t 54) (.t 55)⟩,
                ⟨(some 57), (some (49, true)), .fa 36 (.t 56) 0⟩,
                ⟨(some 58), (some (49, true)), .ld 9 (.t 57)⟩,
                ⟨(some 59), (some (49, true)), .bin .eql 9 (.t 53) (.t 58)⟩,
                ⟨(some 60), (some (44, false)), .pk (.t 49) (.t 59) (.b false)⟩,
                ⟨(some 61), none, .pk (.t 44) (.b true) (.t 60)⟩])
              (.cond (.t 61)
               (.exit 1)
               (.skip)))
             (.drw drw28_2 [⟨(some 62), none, .mv (.t 3)⟩,
               ⟨(some 63), none, .mv (.t 7)⟩,
               ⟨(some 64), none, .sli 32 (.t 62) none (some (.t 63)) none⟩,
               ⟨(some 65), none, .bi .append [32, 32] [.ns, .t 64]⟩,
               ⟨(some 66), none, .mv (.t 0)⟩,
               ⟨(some 67), none, .mv (.t 4)⟩,
               ⟨(some 68), none, .ia 31 (.t 66) (.t 67)⟩,
               ⟨(some 69), none, .fa 36 (.t 68) 0⟩,
               ⟨(some 70), none, .ld 9 (.t 69)⟩,
               ⟨(some 71), none, .bsl 32 1 [(0, .t 70)]⟩,
               ⟨(some 72), none, .bi .append [32, 32] [.t 65, .t 71]⟩,
               ⟨(some 73), none, .mv (.t 3)⟩,
               ⟨(some 74), none, .mv (.t 7)⟩,
               ⟨(some 75), none, .sli 32 (.t 73) (some (.t 74)) none none⟩,
               ⟨(some 76), none, .bi .append [32, 32] [.t 72, .t 75]⟩,
               ⟨(some 3), none, .mv (.t 76)⟩]))))))
        (.reg [⟨(some 12), none, .mv (.t 4)⟩,
          ⟨(some 13), none, .bin .add 3 (.t 12) (.i .i64 1)⟩,
          ⟨(some 4), none, .mv (.t 13)⟩]))))))
   (.seq (.reg [⟨(some 77), none, .mv (.t 3)⟩,
      ⟨(some 2), none, .mv (.t 77)⟩])
    (.ret))))
theorem b28 : Body Try.prog 28 78 [2] k28 := ⟨Enters.of Try.func28 (by kernel_rfl) (by kernel_rfl), _, _, Try.func28, rfl, by kernel_rfl, rfl, rfl⟩

/-- slices.Sort[[]string,string] -/
def k46 : KC :=
 .seq (.reg [⟨(some 3), none, .mv (.t 0)⟩,
   ⟨(some 4), none, .bi .len [32] [.t 3]⟩,
   ⟨(some 2), none, .mv (.t 4)⟩])
 (.reg [⟨(some 5), none, .mv (.t 0)⟩,
   ⟨(some 6), none, .mv (.t 2)⟩,
   ⟨(some 7), none, .mv (.t 2)⟩,
   ⟨(some 8), none, .cvt 3 105 (.t 7)⟩,
   ⟨(some 9), none, .call (.fn 86) [.t 8]⟩,
   ⟨(some 10), none, .call (.fn 85) [.t 5, .i .i64 0, .t 6, .t 9]⟩])
theorem b46 : Body Try.prog 46 11 [] k46 := ⟨Enters.of Try.func46 (by kernel_rfl) (by kernel_rfl), _, _, Try.func46, rfl, by kernel_rfl, rfl, rfl⟩

/-- slices.Compact[[]string,string] -/
noncomputable def drw47_0 : Array Oper := ((Try.f47.body.map regs).getD []).getD 0 #[]
noncomputable def drw47_1 : Array Oper := ((Try.f47.body.map regs).getD []).getD 1 #[]
noncomputable def k47 : KC :=
 .seq (.reg [⟨(some 2), none, .mv (.ns)⟩])
 (.seq (.seq (.reg [⟨(some 6), none, .mv (.t 0)⟩,
     ⟨(some 7), none, .bi .len [32] [.t 6]⟩,
     ⟨(some 8), none, .bin .lss 3 (.t 7) (.i .i64 2)⟩])
   (.cond (.t 8)
    (.seq (.reg [⟨(some 9), none, .mv (.t 0)⟩,
       ⟨(some 2), none, .mv (.t 9)⟩])
     (.ret))
    (.skip)))
  (.seq (.seq (.reg [⟨(some 3), none, .mv (.i .i64 1)⟩])
    (.block 0 (.loop (.seq (.seq (.reg [⟨(some 10), none, .mv (.t 3)⟩,
          ⟨(some 11), none, .mv (.t 0)⟩,
          ⟨(some 12), none, .bi .len [32] [.t 11]⟩,
          ⟨(some 13), none, .bin .lss 3 (.t 10) (.t 12)⟩])
        (.cond (.t 13)
         (.skip)
         (.exit 0)))
       (.seq (.block 1 (.seq (.drw drw47_0 [⟨(some 16), none, .mv (.t 0)⟩,
            ⟨(some 17), none, .mv (.t 3)⟩,
            ⟨(some 18), none, .ia 32 (.t 16) (.t 17)⟩,
            ⟨(some 19), none, .ld 9 (.t 18)⟩,
            ⟨(some 20), none, .mv (.t 0)⟩,
            ⟨(some 21), none, .mv (.t 3)⟩,
            ⟨(some 22), none, .bin .sub 3 (.t 21) (.i .i64 1)⟩,
            ⟨(some 23), none, .ia 32 (.t 20) (.t 22)⟩,
            ⟨(some 24), none, .ld 9 (.t 23)⟩,
            ⟨(some 25), none, .bin .eql 9 (.t 19) (.t 24)⟩])
          (.cond (.t 25)
           (.seq (.reg [⟨(some 26), none, .mv (.t 0)⟩,
              ⟨(some 27), none, .mv (.t 3)⟩,
              ⟨(some 28), none, .sli 32 (.t 26) (some (.t 27)) none none⟩,
              ⟨(some 4), none, .mv (.t 28)⟩])
            (.seq (.seq (.reg [⟨(some 5), none, .mv (.i .i64 1)⟩])
              (.block 2 (.loop (.seq (.seq (.reg [⟨(some 29), none, .mv (.t 5)⟩,
                    ⟨(some 30), none, .mv (.t 4)⟩,
                    ⟨(some 31), none, .bi .len [32] [.t 30]⟩,
                    ⟨(some 32), none, .bin .lss 3 (.t 29) (.t 31)⟩])
                  (.cond (.t 32)
                   (.skip)
                   (.exit 2)))
                 (.seq (.block 3 (.seq (.drw drw47_1 [⟨(some 35), none, .mv (.t 4)⟩,
                      ⟨(some 36), none, .mv (.t 5)⟩,
                      ⟨(some 37), none, .ia 32 (.t 35) (.t 36)⟩,
                      ⟨(some 38), none, .ld 9 (.t 37)⟩,
                      ⟨(some 39), none, .mv (.t 4)⟩,
                      ⟨(some 40), none, .mv (.t 5)⟩,
                      ⟨(some 41), none, .bin .sub 3 (.t 40) (.i .i64 1)⟩,
                      ⟨(some 42), none, .ia 32 (.t 39) (.t 41)⟩,
                      ⟨(some 43), none, .ld 9 (.t 42)⟩,
                      ⟨(some 44), none, .bin .neq 9 (.t 38) (.t 43)⟩])
                    (.cond (.t 44)
                     (.seq (.reg [⟨(some 45), none, .mv (.t 0)⟩,
                        ⟨(some 46), none, .mv (.t 3)⟩,
                        ⟨(some 47), none, .mv (.t 4)⟩,
                        ⟨(some 48), none, .mv (.t 5)⟩,
                        ⟨(some 49), none, .ia 32 (.t 47) (.t 48)⟩,
                        ⟨(some 50), none, .ld 9 (.t 49)⟩,
                        ⟨(some 51), none, .ia 32 (.t 45) (.t 46)⟩,
                        ⟨none, none, .st 9 (.t 51) (.t 50)⟩])
                      (.reg [⟨(some 52), none, .mv (.t 3)⟩,
                        ⟨(some 53), none, .bin .add 3 (.t 52) (.i .i64 1)⟩,
                        ⟨(some 3), none, .mv (.t 53)⟩]))
                     (.skip))))
                  (.reg [⟨(some 33), none, .mv (.t 5)⟩,
                    ⟨(some 34), none, .bin .add 3 (.t 33) (.i .i64 1)⟩,
                    ⟨(some 5), none, .mv (.t 34)⟩]))))))
             (.seq (.reg [⟨(some 54), none, .mv (.t 0)⟩,
                ⟨(some 55), none, .mv (.t 3)⟩,
                ⟨(some 56), none, .sli 32 (.t 54) (some (.t 55)) none none⟩,
                ⟨none, none, .bi .clear [32] [.t 56]⟩])
              (.seq (.reg [⟨(some 57), none, .mv (.t 0)⟩,
                 ⟨(some 58), none, .mv (.t 3)⟩,
                 ⟨(some 59), none, .sli 32 (.t 57) none (some (.t 58)) none⟩,
                 ⟨(some 2), none, .mv (.t 59)⟩])
               (.ret)))))
           (.skip))))
        (.reg [⟨(some 14), none, .mv (.t 3)⟩,
          ⟨(some 15), none, .bin .add 3 (.t 14) (.i .i64 1)⟩,
          ⟨(some 3), none, .mv (.t 15)⟩]))))))
   (.seq (.reg [⟨(some 60), none, .mv (.t 0)⟩,
      ⟨(some 2), none, .mv (.t 60)⟩])
    (.ret))))
theorem b47 : Body Try.prog 47 61 [2] k47 := ⟨Enters.of Try.func47 (by kernel_rfl) (by kernel_rfl), _, _, Try.func47, rfl, by kernel_rfl, rfl, rfl⟩

/-- cartridge/listing.there -/
def k48 : KC :=
 .seq (.reg [⟨(some 2), none, .box 36 (.t 0)⟩,
   ⟨(some 4), none, .al 36⟩,
   ⟨(some 5), none, .mv (.b false)⟩])
 (.seq (.seq (.reg [⟨(some 6), none, .mv (.t 1)⟩,
     ⟨(some 7), none, .un .not (.t 6)⟩,
     ⟨(some 8), none, .mv (.t 7)⟩,
     ⟨(some 9), (some (8, false)), .fa 36 (.t 2) 5⟩,
     ⟨(some 10), (some (8, false)), .ld 4 (.t 9)⟩,
     ⟨(some 11), none, .pk (.t 8) (.b true) (.t 10)⟩])
   (.cond (.t 11)
    (.seq (.reg [⟨(some 12), none, .bld 36 []⟩,
       ⟨none, none, .st 36 (.t 4) (.t 12)⟩,
       ⟨(some 5), none, .mv (.b false)⟩])
     (.ret))
    (.skip)))
  (.seq (.reg [⟨(some 13), none, .ld 36 (.t 2)⟩,
     ⟨(some 14), none, .call (.fn 87) [.t 13]⟩,
     ⟨none, none, .st 36 (.t 4) (.t 14)⟩,
     ⟨(some 5), none, .mv (.b true)⟩])
   (.ret)))

/-- cartridge/listing.newest -/
def k49 : KC :=
 .seq (.reg [⟨(some 4), none, .al 36⟩,
   ⟨(some 5), none, .mv (.b false)⟩])
 (.seq (.reg [⟨(some 6), none, .al 36⟩])
  (.seq (.reg [⟨(some 7), none, .mv (.b false)⟩])
   (.seq (.seq (.reg [⟨(some 10), none, .mv (.t 0)⟩,
       ⟨(some 11), none, .bi .len [31] [.t 10]⟩,
       ⟨(some 12), none, .mv (.i .i64 0)⟩])
     (.block 0 (.loop (.seq (.reg [⟨(some 13), none, .bin .lss 3 (.t 12) (.t 11)⟩])
        (.seq (.cond (.t 13)
          (.skip)
          (.exit 0))
         (.seq (.block 1 (.seq (.reg [⟨(some 14), none, .ia 31 (.t 10) (.t 12)⟩,
              ⟨(some 15), none, .ld 36 (.t 14)⟩,
              ⟨(some 9), none, .al 36⟩,
              ⟨none, none, .st 36 (.t 9) (.t 15)⟩])
            (.seq (.reg [⟨(some 16), none, .fa 36 (.t 9) 0⟩,
               ⟨(some 17), none, .ld 9 (.t 16)⟩,
               ⟨(some 18), none, .mv (.t 1)⟩,
               ⟨(some 19), none, .bin .eql 9 (.t 17) (.t 18)⟩,
               ⟨(some 20), none, .mv (.t 19)⟩,
               ⟨(some 21), (some (20, true)), .mv (.t 7)⟩,
               ⟨(some 22), (some (20, true)), .un .not (.t 21)⟩,
               ⟨(some 23), (some (20, true)), .mv (.t 22)⟩,
               ⟨(some 24), (some (23, false)), .fa 36 (.t 9) 1⟩,
               ⟨(some 25), (some (23, false)), .ld 3 (.t 24)⟩,
               ⟨(some 26), (some (23, false)), .fa 36 (.t 6) 1⟩,
               ⟨(some 27), (some (23, false)), .ld 3 (.t 26)⟩,
               ⟨(some 28), (some (23, false)), .bin .gtr 3 (.t 25) (.t 27)⟩,
               ⟨(some 29), (some (20, true)), .pk (.t 23) (.b true) (.t 28)⟩,
               ⟨(some 30), none, .pk (.t 20) (.t 29) (.b false)⟩])
             (.cond (.t 30)
              (.reg [⟨(some 31), none, .ld 36 (.t 9)⟩,
                ⟨none, none, .st 36 (.t 6) (.t 31)⟩,
                ⟨(some 7), none, .mv (.b true)⟩])
              (.skip)))))
          (.reg [⟨(some 32), none, .bin .add 3 (.t 12) (.i .i64 1)⟩,
            ⟨(some 12), none, .mv (.t 32)⟩])))))))
    (.seq (.reg [⟨(some 33), none, .ld 36 (.t 6)⟩,
       ⟨(some 34), none, .mv (.t 7)⟩,
       ⟨none, none, .st 36 (.t 4) (.t 33)⟩,
       ⟨(some 5), none, .mv (.t 34)⟩])
     (.ret)))))

/-- slices.IndexFunc[[]cartridge/api.File,cartridge/api.File] -/
def k50 : KC :=
 .seq (.reg [⟨(some 4), none, .mv (.i .i64 0)⟩])
 (.seq (.seq (.reg [⟨(some 6), none, .mv (.t 0)⟩,
     ⟨(some 7), none, .bi .len [31] [.t 6]⟩,
     ⟨(some 8), none, .mv (.i .i64 0)⟩])
   (.block 0 (.loop (.seq (.reg [⟨(some 9), none, .bin .lss 3 (.t 8) (.t 7)⟩])
      (.seq (.cond (.t 9)
        (.skip)
        (.exit 0))
       (.seq (.block 1 (.seq (.reg [⟨(some 10), none, .mv (.t 8)⟩,
            ⟨(some 5), none, .mv (.t 10)⟩])
          (.seq (.reg [⟨(some 11), none, .mv (.t 1)⟩,
             ⟨(some 12), none, .mv (.t 0)⟩,
             ⟨(some 13), none, .mv (.t 5)⟩,
             ⟨(some 14), none, .ia 31 (.t 12) (.t 13)⟩,
             ⟨(some 15), none, .ld 36 (.t 14)⟩,
             ⟨(some 16), none, .call (.t 11) [.t 15]⟩])
           (.cond (.t 16)
            (.seq (.reg [⟨(some 17), none, .mv (.t 5)⟩,
               ⟨(some 4), none, .mv (.t 17)⟩])
             (.ret))
            (.skip)))))
        (.reg [⟨(some 18), none, .bin .add 3 (.t 8) (.i .i64 1)⟩,
          ⟨(some 8), none, .mv (.t 18)⟩])))))))
  (.seq (.reg [⟨(some 4), none, .mv (.i .i64 (-1))⟩])
   (.ret)))
theorem b50 : Body Try.prog 50 19 [4] k50 := ⟨Enters.of Try.func50 (by kernel_rfl) (by kernel_rfl), _, _, Try.func50, rfl, by kernel_rfl, rfl, rfl⟩

/-- cartridge/listing.Get$1 -/
def k51 : KC :=
 .seq (.reg [⟨(some 3), none, .box 36 (.t 0)⟩,
   ⟨(some 4), none, .mv (.b false)⟩])
 (.seq (.reg [⟨(some 5), none, .fa 36 (.t 3) 0⟩,
    ⟨(some 6), none, .ld 9 (.t 5)⟩,
    ⟨(some 7), none, .ld 9 (.t 1)⟩,
    ⟨(some 8), none, .bin .eql 9 (.t 6) (.t 7)⟩,
    ⟨(some 9), none, .mv (.t 8)⟩,
    ⟨(some 10), (some (9, true)), .fa 36 (.t 3) 1⟩,
    ⟨(some 11), (some (9, true)), .ld 3 (.t 10)⟩,
    ⟨(some 12), (some (9, true)), .ld 3 (.t 2)⟩,
    ⟨(some 13), (some (9, true)), .bin .eql 3 (.t 11) (.t 12)⟩,
    ⟨(some 14), none, .pk (.t 9) (.t 13) (.b false)⟩,
    ⟨(some 4), none, .mv (.t 14)⟩])
  (.ret))
theorem b51 : Body Try.prog 51 15 [4] k51 := ⟨Enters.of Try.func51 (by kernel_rfl) (by kernel_rfl), _, _, Try.func51, rfl, by kernel_rfl, rfl, rfl⟩

/-- cartridge/listing.Clone -/
def k87 : KC :=
 .seq (.reg [⟨(some 1), none, .box 36 (.t 0)⟩,
   ⟨(some 2), none, .al 36⟩])
 (.seq (.reg [⟨(some 3), none, .fa 36 (.t 1) 6⟩,
    ⟨(some 4), none, .ld 34 (.t 3)⟩,
    ⟨(some 5), none, .call (.fn 139) [.t 4]⟩,
    ⟨(some 6), none, .fa 36 (.t 1) 6⟩,
    ⟨none, none, .st 34 (.t 6) (.t 5)⟩])
  (.seq (.reg [⟨(some 7), none, .ld 36 (.t 1)⟩,
     ⟨none, none, .st 36 (.t 2) (.t 7)⟩])
   (.ret)))

/-- slices.Clone[[]cartridge/api.Part,cartridge/api.Part] -/
def k139 : KC :=
 .seq (.reg [⟨(some 2), none, .mv (.ns)⟩])
 (.seq (.seq (.reg [⟨(some 3), none, .mv (.t 0)⟩,
     ⟨(some 4), none, .bin .eql 34 (.t 3) (.ns)⟩])
   (.cond (.t 4)
    (.seq (.reg [⟨(some 2), none, .mv (.ns)⟩])
     (.ret))
    (.skip)))
  (.seq (.reg [⟨(some 5), none, .bsl 34 0 []⟩,
     ⟨(some 6), none, .mv (.t 0)⟩,
     ⟨(some 7), none, .bi .append [34, 34] [.t 5, .t 6]⟩,
     ⟨(some 2), none, .mv (.t 7)⟩])
   (.ret)))
theorem b139 : Body Try.prog 139 8 [2] k139 := ⟨Enters.of Try.func139 (by kernel_rfl) (by kernel_rfl), _, _, Try.func139, rfl, by kernel_rfl, rfl, rfl⟩

end Go.Proofs.Ytndjbcnpgggddaa
