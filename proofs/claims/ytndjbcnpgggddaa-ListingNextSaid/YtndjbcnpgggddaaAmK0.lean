import Derived.Test.YtndjbcnpgggddaaAmT
/- The code, cooked, and tied to the program's; written by gen.py. -/
namespace Go.Proofs.Ytndjbcnpgggddaa
open Go.AM

/-- cartridge/cartridgelaw18.ListingNext -/
def k6 : KC :=
 .seq (.reg [⟨(some 6), none, .mv (.b false)⟩])
 (.seq (.reg [⟨(some 17), none, .call (.fn 16) []⟩,
    ⟨(some 7), none, .mv (.t 17)⟩])
  (.seq (.seq (.reg [⟨(some 18), none, .mv (.t 7)⟩,
      ⟨(some 19), none, .un .not (.t 18)⟩,
      ⟨(some 20), none, .mv (.t 19)⟩,
      ⟨(some 21), (some (20, false)), .mv (.t 0)⟩,
      ⟨(some 22), (some (20, false)), .bin .lss 3 (.t 21) (.i .i64 1)⟩,
      ⟨(some 23), none, .pk (.t 20) (.b true) (.t 22)⟩,
      ⟨(some 24), none, .mv (.t 23)⟩,
      ⟨(some 25), (some (24, false)), .mv (.t 0)⟩,
      ⟨(some 26), (some (24, false)), .bin .gtr 3 (.t 25) (.i .i64 20)⟩,
      ⟨(some 27), none, .pk (.t 24) (.b true) (.t 26)⟩,
      ⟨(some 28), none, .mv (.t 27)⟩,
      ⟨(some 29), (some (28, false)), .mv (.t 1)⟩,
      ⟨(some 30), (some (28, false)), .bin .lss 3 (.t 29) (.i .i64 1)⟩,
      ⟨(some 31), none, .pk (.t 28) (.b true) (.t 30)⟩,
      ⟨(some 32), none, .mv (.t 31)⟩,
      ⟨(some 33), (some (32, false)), .mv (.t 1)⟩,
      ⟨(some 34), (some (32, false)), .bin .gtr 3 (.t 33) (.i .i64 20)⟩,
      ⟨(some 35), none, .pk (.t 32) (.b true) (.t 34)⟩])
    (.cond (.t 35)
     (.seq (.reg [⟨(some 36), none, .mv (.t 7)⟩,
        ⟨(some 6), none, .mv (.t 36)⟩])
      (.ret))
     (.skip)))
   (.seq (.reg [⟨(some 8), none, .mv (.ns)⟩])
    (.seq (.seq (.reg [⟨(some 9), none, .mv (.i .i64 0)⟩])
      (.block 0 (.loop (.seq (.seq (.reg [⟨(some 37), none, .mv (.t 9)⟩,
            ⟨(some 38), none, .mv (.t 0)⟩,
            ⟨(some 39), none, .bin .lss 3 (.t 37) (.t 38)⟩])
          (.cond (.t 39)
           (.skip)
           (.exit 0)))
         (.seq (.block 1 (.reg [⟨(some 42), none, .mv (.t 8)⟩,
             ⟨(some 43), none, .mv (.t 9)⟩,
             ⟨(some 44), none, .bin .add 3 (.t 43) (.i .i64 1)⟩,
             ⟨(some 45), none, .mv (.t 9)⟩,
             ⟨(some 46), none, .bin .mul 3 (.i .i64 2) (.t 45)⟩,
             ⟨(some 47), none, .bin .add 3 (.t 46) (.i .i64 1)⟩,
             ⟨(some 48), none, .mv (.t 2)⟩,
             ⟨(some 49), none, .mv (.t 48)⟩,
             ⟨(some 50), (some (49, true)), .mv (.t 9)⟩,
             ⟨(some 51), (some (49, true)), .mv (.t 0)⟩,
             ⟨(some 52), (some (49, true)), .bin .sub 3 (.t 51) (.i .i64 1)⟩,
             ⟨(some 53), (some (49, true)), .bin .eql 3 (.t 50) (.t 52)⟩,
             ⟨(some 54), none, .pk (.t 49) (.t 53) (.b false)⟩,
             ⟨(some 55), none, .bld 36 [(0, .s ⟨#[97]⟩), (1, .t 44), (4, .t 47), (5, .t 54)]⟩,
             ⟨(some 56), none, .bsl 31 1 [(0, .t 55)]⟩,
             ⟨(some 57), none, .bi .append [31, 31] [.t 42, .t 56]⟩,
             ⟨(some 8), none, .mv (.t 57)⟩]))
          (.reg [⟨(some 40), none, .mv (.t 9)⟩,
            ⟨(some 41), none, .bin .add 3 (.t 40) (.i .i64 1)⟩,
            ⟨(some 9), none, .mv (.t 41)⟩]))))))
     (.seq (.seq (.reg [⟨(some 10), none, .mv (.i .i64 0)⟩])
       (.block 2 (.loop (.seq (.seq (.reg [⟨(some 58), none, .mv (.t 10)⟩,
             ⟨(some 59), none, .mv (.t 1)⟩,
             ⟨(some 60), none, .bin .lss 3 (.t 58) (.t 59)⟩])
           (.cond (.t 60)
            (.skip)
            (.exit 2)))
          (.seq (.block 3 (.reg [⟨(some 63), none, .mv (.t 8)⟩,
              ⟨(some 64), none, .mv (.t 10)⟩,
              ⟨(some 65), none, .bin .add 3 (.t 64) (.i .i64 1)⟩,
              ⟨(some 66), none, .mv (.t 10)⟩,
              ⟨(some 67), none, .bin .mul 3 (.i .i64 2) (.t 66)⟩,
              ⟨(some 68), none, .bin .add 3 (.t 67) (.i .i64 2)⟩,
              ⟨(some 69), none, .bld 36 [(0, .s ⟨#[98]⟩), (1, .t 65), (4, .t 68)]⟩,
              ⟨(some 70), none, .bsl 31 1 [(0, .t 69)]⟩,
              ⟨(some 71), none, .bi .append [31, 31] [.t 63, .t 70]⟩,
              ⟨(some 8), none, .mv (.t 71)⟩]))
           (.reg [⟨(some 61), none, .mv (.t 10)⟩,
             ⟨(some 62), none, .bin .add 3 (.t 61) (.i .i64 1)⟩,
             ⟨(some 10), none, .mv (.t 62)⟩]))))))
      (.seq (.reg [⟨(some 73), none, .mv (.t 8)⟩,
         ⟨(some 74), none, .call (.fn 18) [.t 73, .s ⟨#[97]⟩]⟩,
         ⟨(some 72), none, .mv (.t 74)⟩,
         ⟨(some 75), none, .ex (.t 72) 0⟩,
         ⟨(some 76), none, .ex (.t 72) 1⟩,
         ⟨(some 11), none, .al 36⟩,
         ⟨none, none, .st 36 (.t 11) (.t 75)⟩,
         ⟨(some 12), none, .mv (.t 76)⟩])
       (.seq (.reg [⟨(some 78), none, .mv (.t 8)⟩,
          ⟨(some 79), none, .mv (.t 0)⟩,
          ⟨(some 80), none, .call (.fn 20) [.t 78, .s ⟨#[97]⟩, .t 79]⟩,
          ⟨(some 77), none, .mv (.t 80)⟩,
          ⟨(some 81), none, .ex (.t 77) 0⟩,
          ⟨(some 82), none, .ex (.t 77) 1⟩,
          ⟨(some 13), none, .al 36⟩,
          ⟨none, none, .st 36 (.t 13) (.t 81)⟩,
          ⟨(some 14), none, .mv (.t 82)⟩])
        (.seq (.reg [⟨(some 83), none, .mv (.t 0)⟩,
           ⟨(some 84), none, .bin .mul 3 (.i .i64 2) (.t 83)⟩,
           ⟨(some 15), none, .mv (.t 84)⟩])
         (.seq (.seq (.reg [⟨(some 85), none, .mv (.t 1)⟩,
             ⟨(some 86), none, .mv (.t 0)⟩,
             ⟨(some 87), none, .bin .geq 3 (.t 85) (.t 86)⟩])
           (.cond (.t 87)
            (.reg [⟨(some 88), none, .mv (.t 1)⟩,
              ⟨(some 89), none, .bin .mul 3 (.i .i64 2) (.t 88)⟩,
              ⟨(some 90), none, .bin .add 3 (.t 89) (.i .i64 1)⟩,
              ⟨(some 15), none, .mv (.t 90)⟩])
            (.skip)))
          (.seq (.reg [⟨(some 16), none, .mv (.i .i64 2)⟩])
           (.seq (.seq (.reg [⟨(some 91), none, .mv (.t 2)⟩])
             (.cond (.t 91)
              (.reg [⟨(some 16), none, .mv (.i .i64 1)⟩])
              (.skip)))
            (.seq (.reg [⟨(some 92), none, .mv (.t 8)⟩,
               ⟨(some 93), none, .call (.fn 23) [.t 92, .s ⟨#[97]⟩]⟩,
               ⟨(some 94), none, .mv (.t 0)⟩,
               ⟨(some 95), none, .bin .add 3 (.t 94) (.i .i64 1)⟩,
               ⟨(some 96), none, .bin .eql 3 (.t 93) (.t 95)⟩,
               ⟨(some 97), none, .mv (.t 96)⟩,
               ⟨(some 98), (some (97, true)), .mv (.t 8)⟩,
               ⟨(some 99), (some (97, true)), .call (.fn 23) [.t 98, .s ⟨#[98]⟩]⟩,
               ⟨(some 100), (some (97, true)), .mv (.t 1)⟩,
               ⟨(some 101), (some (97, true)), .bin .add 3 (.t 100) (.i .i64 1)⟩,
               ⟨(some 102), (some (97, true)), .bin .eql 3 (.t 99) (.t 101)⟩,
               ⟨(some 103), none, .pk (.t 97) (.t 102) (.b false)⟩,
               ⟨(some 104), none, .mv (.t 103)⟩,
               ⟨(some 105), (some (104, true)), .mv (.t 8)⟩,
               ⟨(some 106), (some (104, true)), .call (.fn 23) [.t 105, .s ⟨#[99]⟩]⟩,
               ⟨(some 107), (some (104, true)), .bin .eql 3 (.t 106) (.i .i64 1)⟩,
               ⟨(some 108), none, .pk (.t 104) (.t 107) (.b false)⟩,
               ⟨(some 109), none, .mv (.t 108)⟩,
               ⟨(some 110), (some (109, true)), .mv (.t 8)⟩,
               ⟨(some 111), (some (109, true)), .call (.fn 25) [.t 110]⟩,
               ⟨(some 112), (some (109, true)), .mv (.t 15)⟩,
               ⟨(some 113), (some (109, true)), .bin .eql 3 (.t 111) (.t 112)⟩,
               ⟨(some 114), none, .pk (.t 109) (.t 113) (.b false)⟩,
               ⟨(some 115), none, .mv (.t 114)⟩,
               ⟨(some 116), (some (115, true)), .mv (.t 12)⟩,
               ⟨(some 117), (some (115, true)), .mv (.t 2)⟩,
               ⟨(some 118), (some (115, true)), .un .not (.t 117)⟩,
               ⟨(some 119), (some (115, true)), .bin .eql 4 (.t 116) (.t 118)⟩,
               ⟨(some 120), none, .pk (.t 115) (.t 119) (.b false)⟩,
               ⟨(some 121), none, .mv (.t 120)⟩,
               ⟨(some 122), (some (121, true)), .mv (.t 14)⟩,
               ⟨(some 123), (some (121, true)), .mv (.t 2)⟩,
               ⟨(some 124), (some (121, true)), .un .not (.t 123)⟩,
               ⟨(some 125), (some (121, true)), .bin .eql 4 (.t 122) (.t 124)⟩,
               ⟨(some 126), none, .pk (.t 121) (.t 125) (.b false)⟩,
               ⟨(some 127), none, .mv (.t 126)⟩,
               ⟨(some 128), (some (127, true)), .mv (.t 8)⟩,
               ⟨(some 129), (some (127, true)), .call (.fn 17) [.t 128]⟩,
               ⟨(some 130), (some (127, true)), .bi .len [32] [.t 129]⟩,
               ⟨(some 131), (some (127, true)), .mv (.t 16)⟩,
               ⟨(some 132), (some (127, true)), .bin .eql 3 (.t 130) (.t 131)⟩,
               ⟨(some 133), none, .pk (.t 127) (.t 132) (.b false)⟩,
               ⟨(some 6), none, .mv (.t 133)⟩])
             (.ret)))))))))))))
theorem b6 : Body Try.prog 6 134 [6] k6 := ⟨Enters.of Try.func6 (by kernel_rfl) (by kernel_rfl), _, _, Try.func6, rfl, by kernel_rfl, rfl, rfl⟩

/-- cartridge/cartridgelaw18.alive -/
def k16 : KC :=
 .seq (.reg [⟨(some 0), none, .mv (.b false)⟩])
 (.seq (.reg [⟨(some 4), none, .bld 36 [(0, .s ⟨#[97]⟩), (1, .i .i64 3)]⟩,
    ⟨(some 5), none, .bsl 31 1 [(0, .t 4)]⟩,
    ⟨(some 6), none, .call (.fn 18) [.t 5, .s ⟨#[97]⟩]⟩,
    ⟨(some 3), none, .mv (.t 6)⟩,
    ⟨(some 7), none, .ex (.t 3) 0⟩,
    ⟨(some 8), none, .ex (.t 3) 1⟩,
    ⟨(some 1), none, .al 36⟩,
    ⟨none, none, .st 36 (.t 1) (.t 7)⟩,
    ⟨(some 2), none, .mv (.t 8)⟩])
  (.seq (.reg [⟨(some 9), none, .call (.fn 23) [.ns, .s ⟨#[97]⟩]⟩,
     ⟨(some 10), none, .bin .eql 3 (.t 9) (.i .i64 1)⟩,
     ⟨(some 11), none, .mv (.t 10)⟩,
     ⟨(some 12), (some (11, true)), .call (.fn 25) [.ns]⟩,
     ⟨(some 13), (some (11, true)), .bin .eql 3 (.t 12) (.i .i64 1)⟩,
     ⟨(some 14), none, .pk (.t 11) (.t 13) (.b false)⟩,
     ⟨(some 15), none, .mv (.t 14)⟩,
     ⟨(some 16), (some (15, true)), .mv (.t 2)⟩,
     ⟨(some 17), none, .pk (.t 15) (.t 16) (.b false)⟩,
     ⟨(some 18), none, .mv (.t 17)⟩,
     ⟨(some 19), (some (18, true)), .fa 36 (.t 1) 1⟩,
     ⟨(some 20), (some (18, true)), .ld 3 (.t 19)⟩,
     ⟨(some 21), (some (18, true)), .bin .eql 3 (.t 20) (.i .i64 3)⟩,
     ⟨(some 22), none, .pk (.t 18) (.t 21) (.b false)⟩,
     ⟨(some 23), none, .mv (.t 22)⟩,
     ⟨(some 24), (some (23, true)), .call (.fn 17) [.ns]⟩,
     ⟨(some 25), (some (23, true)), .bi .len [32] [.t 24]⟩,
     ⟨(some 26), (some (23, true)), .bin .eql 3 (.t 25) (.i .i64 0)⟩,
     ⟨(some 27), none, .pk (.t 23) (.t 26) (.b false)⟩,
     ⟨(some 0), none, .mv (.t 27)⟩])
   (.ret)))
theorem b16 : Body Try.prog 16 28 [0] k16 := ⟨Enters.of Try.func16 (by kernel_rfl) (by kernel_rfl), _, _, Try.func16, rfl, by kernel_rfl, rfl, rfl⟩

/-- cartridge/listing.Names -/
def k17 : KC :=
 .seq (.reg [⟨(some 2), none, .mv (.ns)⟩])
 (.seq (.reg [⟨(some 3), none, .mv (.ns)⟩])
  (.seq (.seq (.reg [⟨(some 8), none, .mv (.t 0)⟩,
      ⟨(some 9), none, .bi .len [31] [.t 8]⟩,
      ⟨(some 10), none, .mv (.i .i64 0)⟩])
    (.block 0 (.loop (.seq (.reg [⟨(some 11), none, .bin .lss 3 (.t 10) (.t 9)⟩])
       (.seq (.cond (.t 11)
         (.skip)
         (.exit 0))
        (.seq (.block 1 (.seq (.reg [⟨(some 12), none, .ia 31 (.t 8) (.t 10)⟩,
             ⟨(some 13), none, .ld 36 (.t 12)⟩,
             ⟨(some 5), none, .al 36⟩,
             ⟨none, none, .st 36 (.t 5) (.t 13)⟩])
           (.seq (.reg [⟨(some 15), none, .mv (.t 0)⟩,
              ⟨(some 16), none, .fa 36 (.t 5) 0⟩,
              ⟨(some 17), none, .ld 9 (.t 16)⟩,
              ⟨(some 18), none, .call (.fn 18) [.t 15, .t 17]⟩,
              ⟨(some 14), none, .mv (.t 18)⟩,
              ⟨(some 19), none, .ex (.t 14) 0⟩,
              ⟨(some 20), none, .ex (.t 14) 1⟩,
              ⟨(some 6), none, .al 36⟩,
              ⟨none, none, .st 36 (.t 6) (.t 19)⟩,
              ⟨(some 7), none, .mv (.t 20)⟩])
            (.seq (.reg [⟨(some 21), none, .mv (.t 7)⟩])
             (.cond (.t 21)
              (.reg [⟨(some 22), none, .mv (.t 3)⟩,
                ⟨(some 23), none, .fa 36 (.t 5) 0⟩,
                ⟨(some 24), none, .ld 9 (.t 23)⟩,
                ⟨(some 25), none, .bsl 32 1 [(0, .t 24)]⟩,
                ⟨(some 26), none, .bi .append [32, 32] [.t 22, .t 25]⟩,
                ⟨(some 3), none, .mv (.t 26)⟩])
              (.skip))))))
         (.reg [⟨(some 27), none, .bin .add 3 (.t 10) (.i .i64 1)⟩,
           ⟨(some 10), none, .mv (.t 27)⟩])))))))
   (.seq (.reg [⟨(some 28), none, .mv (.t 3)⟩,
      ⟨(some 29), none, .call (.fn 46) [.t 28]⟩])
    (.seq (.reg [⟨(some 30), none, .mv (.t 3)⟩,
       ⟨(some 31), none, .call (.fn 47) [.t 30]⟩,
       ⟨(some 2), none, .mv (.t 31)⟩])
     (.ret)))))
theorem b17 : Body Try.prog 17 32 [2] k17 := ⟨Enters.of Try.func17 (by kernel_rfl) (by kernel_rfl), _, _, Try.func17, rfl, by kernel_rfl, rfl, rfl⟩

/-- cartridge/listing.Newest -/
def k18 : KC :=
 .seq (.reg [⟨(some 4), none, .al 36⟩,
   ⟨(some 5), none, .mv (.b false)⟩])
 (.seq (.reg [⟨(some 6), none, .mv (.t 0)⟩,
    ⟨(some 7), none, .mv (.t 1)⟩,
    ⟨(some 8), none, .call (.fn 49) [.t 6, .t 7]⟩,
    ⟨(some 9), none, .ex (.t 8) 0⟩,
    ⟨(some 10), none, .ex (.t 8) 1⟩,
    ⟨(some 11), none, .call (.fn 48) [.t 9, .t 10]⟩,
    ⟨(some 12), none, .ex (.t 11) 0⟩,
    ⟨(some 13), none, .ex (.t 11) 1⟩,
    ⟨none, none, .st 36 (.t 4) (.t 12)⟩,
    ⟨(some 5), none, .mv (.t 13)⟩])
  (.ret))

/-- cartridge/listing.Get -/
def k20 : KC :=
 .seq (.reg [⟨(some 4), none, .box 9 (.t 1)⟩,
   ⟨(some 5), none, .box 3 (.t 2)⟩,
   ⟨(some 6), none, .al 36⟩,
   ⟨(some 7), none, .mv (.b false)⟩])
 (.seq (.seq (.reg [⟨(some 9), none, .ld 3 (.t 5)⟩,
     ⟨(some 10), none, .bin .eql 3 (.t 9) (.i .i64 0)⟩])
   (.cond (.t 10)
    (.seq (.reg [⟨(some 11), none, .mv (.t 0)⟩,
       ⟨(some 12), none, .ld 9 (.t 4)⟩,
       ⟨(some 13), none, .call (.fn 18) [.t 11, .t 12]⟩,
       ⟨(some 14), none, .ex (.t 13) 0⟩,
       ⟨(some 15), none, .ex (.t 13) 1⟩,
       ⟨none, none, .st 36 (.t 6) (.t 14)⟩,
       ⟨(some 7), none, .mv (.t 15)⟩])
     (.ret))
    (.skip)))
  (.seq (.reg [⟨(some 16), none, .mv (.t 0)⟩,
     ⟨(some 17), none, .mf 51 [.t 4, .t 5]⟩,
     ⟨(some 18), none, .call (.fn 50) [.t 16, .t 17]⟩,
     ⟨(some 8), none, .mv (.t 18)⟩])
   (.seq (.seq (.reg [⟨(some 19), none, .mv (.t 8)⟩,
       ⟨(some 20), none, .bin .lss 3 (.t 19) (.i .i64 0)⟩])
     (.cond (.t 20)
      (.seq (.reg [⟨(some 21), none, .bld 36 []⟩,
         ⟨none, none, .st 36 (.t 6) (.t 21)⟩,
         ⟨(some 7), none, .mv (.b false)⟩])
       (.ret))
      (.skip)))
    (.seq (.reg [⟨(some 22), none, .mv (.t 0)⟩,
       ⟨(some 23), none, .mv (.t 8)⟩,
       ⟨(some 24), none, .ia 31 (.t 22) (.t 23)⟩,
       ⟨(some 25), none, .ld 36 (.t 24)⟩,
       ⟨(some 26), none, .call (.fn 48) [.t 25, .b true]⟩,
       ⟨(some 27), none, .ex (.t 26) 0⟩,
       ⟨(some 28), none, .ex (.t 26) 1⟩,
       ⟨none, none, .st 36 (.t 6) (.t 27)⟩,
       ⟨(some 7), none, .mv (.t 28)⟩])
     (.ret)))))

/-- cartridge/listing.Next -/
def k23 : KC :=
 .seq (.reg [⟨(some 4), none, .mv (.i .i64 0)⟩])
 (.seq (.reg [⟨(some 8), none, .mv (.t 0)⟩,
    ⟨(some 9), none, .mv (.t 1)⟩,
    ⟨(some 10), none, .call (.fn 49) [.t 8, .t 9]⟩,
    ⟨(some 7), none, .mv (.t 10)⟩,
    ⟨(some 11), none, .ex (.t 7) 0⟩,
    ⟨(some 12), none, .ex (.t 7) 1⟩,
    ⟨(some 5), none, .al 36⟩,
    ⟨none, none, .st 36 (.t 5) (.t 11)⟩,
    ⟨(some 6), none, .mv (.t 12)⟩])
  (.seq (.seq (.reg [⟨(some 13), none, .mv (.t 6)⟩,
      ⟨(some 14), none, .un .not (.t 13)⟩])
    (.cond (.t 14)
     (.seq (.reg [⟨(some 4), none, .mv (.i .i64 1)⟩])
      (.ret))
     (.skip)))
   (.seq (.reg [⟨(some 15), none, .fa 36 (.t 5) 1⟩,
      ⟨(some 16), none, .ld 3 (.t 15)⟩,
      ⟨(some 17), none, .bin .add 3 (.t 16) (.i .i64 1)⟩,
      ⟨(some 4), none, .mv (.t 17)⟩])
    (.ret))))
theorem b23 : Body Try.prog 23 18 [4] k23 := ⟨Enters.of Try.func23 (by kernel_rfl) (by kernel_rfl), _, _, Try.func23, rfl, by kernel_rfl, rfl, rfl⟩

/-- cartridge/listing.Serial -/
def k25 : KC :=
 .seq (.reg [⟨(some 2), none, .mv (.i .i64 0)⟩])
 (.seq (.seq (.reg [⟨(some 6), none, .mv (.t 0)⟩,
     ⟨(some 7), none, .bi .len [31] [.t 6]⟩,
     ⟨(some 8), none, .bin .eql 3 (.t 7) (.i .i64 0)⟩])
   (.cond (.t 8)
    (.seq (.reg [⟨(some 2), none, .mv (.i .i64 1)⟩])
     (.ret))
    (.skip)))
  (.seq (.reg [⟨(some 9), none, .mv (.t 0)⟩,
     ⟨(some 10), none, .ia 31 (.t 9) (.i .i64 0)⟩,
     ⟨(some 11), none, .fa 36 (.t 10) 4⟩,
     ⟨(some 12), none, .ld 3 (.t 11)⟩,
     ⟨(some 3), none, .mv (.t 12)⟩])
   (.seq (.seq (.reg [⟨(some 13), none, .mv (.t 0)⟩,
       ⟨(some 14), none, .bi .len [31] [.t 13]⟩,
       ⟨(some 15), none, .mv (.i .i64 0)⟩])
     (.block 0 (.loop (.seq (.reg [⟨(some 16), none, .bin .lss 3 (.t 15) (.t 14)⟩])
        (.seq (.cond (.t 16)
          (.skip)
          (.exit 0))
         (.seq (.block 1 (.seq (.reg [⟨(some 17), none, .ia 31 (.t 13) (.t 15)⟩,
              ⟨(some 18), none, .ld 36 (.t 17)⟩,
              ⟨(some 5), none, .al 36⟩,
              ⟨none, none, .st 36 (.t 5) (.t 18)⟩])
            (.reg [⟨(some 19), none, .mv (.t 3)⟩,
              ⟨(some 20), none, .fa 36 (.t 5) 4⟩,
              ⟨(some 21), none, .ld 3 (.t 20)⟩,
              ⟨(some 22), none, .bi .max [3, 3] [.t 19, .t 21]⟩,
              ⟨(some 3), none, .mv (.t 22)⟩])))
          (.reg [⟨(some 23), none, .bin .add 3 (.t 15) (.i .i64 1)⟩,
            ⟨(some 15), none, .mv (.t 23)⟩])))))))
    (.seq (.reg [⟨(some 24), none, .mv (.t 3)⟩,
       ⟨(some 25), none, .bin .add 3 (.t 24) (.i .i64 1)⟩,
       ⟨(some 2), none, .mv (.t 25)⟩])
     (.ret)))))
theorem b25 : Body Try.prog 25 26 [2] k25 := ⟨Enters.of Try.func25 (by kernel_rfl) (by kernel_rfl), _, _, Try.func25, rfl, by kernel_rfl, rfl, rfl⟩

/-- slices.Sort[[]string,string] -/
def k46 : KC :=
 .seq (.reg [⟨(some 3), none, .mv (.t 0)⟩,
   ⟨(some 4), none, .bi .len [32] [.t 3]⟩,
   ⟨(some 2), none, .mv (.t 4)⟩])
 (.reg [⟨(some 5), none, .mv (.t 0)⟩,
   ⟨(some 6), none, .mv (.t 2)⟩,
   ⟨(some 7), none, .mv (.t 2)⟩,
   ⟨(some 8), none, .cvt 3 105 (.t 7)⟩,
   ⟨(some 9), none, .call (.fn 86) [.t 8]⟩,
   ⟨(some 10), none, .call (.fn 85) [.t 5, .i .i64 0, .t 6, .t 9]⟩])
theorem b46 : Body Try.prog 46 11 [] k46 := ⟨Enters.of Try.func46 (by kernel_rfl) (by kernel_rfl), _, _, Try.func46, rfl, by kernel_rfl, rfl, rfl⟩

/-- slices.Compact[[]string,string] -/
noncomputable def drw47_0 : Array Oper := ((Try.f47.body.map regs).getD []).getD 0 #[]
noncomputable def drw47_1 : Array Oper := ((Try.f47.body.map regs).getD []).getD 1 #[]
noncomputable def k47 : KC :=
 .seq (.reg [⟨(some 2), none, .mv (.ns)⟩])
 (.seq (.seq (.reg [⟨(some 6), none, .mv (.t 0)⟩,
     ⟨(some 7), none, .bi .len [32] [.t 6]⟩,
     ⟨(some 8), none, .bin .lss 3 (.t 7) (.i .i64 2)⟩])
   (.cond (.t 8)
    (.seq (.reg [⟨(some 9), none, .mv (.t 0)⟩,
       ⟨(some 2), none, .mv (.t 9)⟩])
     (.ret))
    (.skip)))
  (.seq (.seq (.reg [⟨(some 3), none, .mv (.i .i64 1)⟩])
    (.block 0 (.loop (.seq (.seq (.reg [⟨(some 10), none, .mv (.t 3)⟩,
          ⟨(some 11), none, .mv (.t 0)⟩,
          ⟨(some 12), none, .bi .len [32] [.t 11]⟩,
          ⟨(some 13), none, .bin .lss 3 (.t 10) (.t 12)⟩])
        (.cond (.t 13)
         (.skip)
         (.exit 0)))
       (.seq (.block 1 (.seq (.drw drw47_0 [⟨(some 16), none, .mv (.t 0)⟩,
            ⟨(some 17), none, .mv (.t 3)⟩,
            ⟨(some 18), none, .ia 32 (.t 16) (.t 17)⟩,
            ⟨(some 19), none, .ld 9 (.t 18)⟩,
            ⟨(some 20), none, .mv (.t 0)⟩,
            ⟨(some 21), none, .mv (.t 3)⟩,
            ⟨(some 22), none, .bin .sub 3 (.t 21) (.i .i64 1)⟩,
            ⟨(some 23), none, .ia 32 (.t 20) (.t 22)⟩,
            ⟨(some 24), none, .ld 9 (.t 23)⟩,
            ⟨(some 25), none, .bin .eql 9 (.t 19) (.t 24)⟩])
          (.cond (.t 25)
           (.seq (.reg [⟨(some 26), none, .mv (.t 0)⟩,
              ⟨(some 27), none, .mv (.t 3)⟩,
              ⟨(some 28), none, .sli 32 (.t 26) (some (.t 27)) none none⟩,
              ⟨(some 4), none, .mv (.t 28)⟩])
            (.seq (.seq (.reg [⟨(some 5), none, .mv (.i .i64 1)⟩])
              (.block 2 (.loop (.seq (.seq (.reg [⟨(some 29), none, .mv (.t 5)⟩,
                    ⟨(some 30), none, .mv (.t 4)⟩,
                    ⟨(some 31), none, .bi .len [32] [.t 30]⟩,
                    ⟨(some 32), none, .bin .lss 3 (.t 29) (.t 31)⟩])
                  (.cond (.t 32)
                   (.skip)
                   (.exit 2)))
                 (.seq (.block 3 (.seq (.drw drw47_1 [⟨(some 35), none, .mv (.t 4)⟩,
                      ⟨(some 36), none, .mv (.t 5)⟩,
                      ⟨(some 37), none, .ia 32 (.t 35) (.t 36)⟩,
                      ⟨(some 38), none, .ld 9 (.t 37)⟩,
                      ⟨(some 39), none, .mv (.t 4)⟩,
                      ⟨(some 40), none, .mv (.t 5)⟩,
                      ⟨(some 41), none, .bin .sub 3 (.t 40) (.i .i64 1)⟩,
                      ⟨(some 42), none, .ia 32 (.t 39) (.t 41)⟩,
                      ⟨(some 43), none, .ld 9 (.t 42)⟩,
                      ⟨(some 44), none, .bin .neq 9 (.t 38) (.t 43)⟩])
                    (.cond (.t 44)
                     (.seq (.reg [⟨(some 45), none, .mv (.t 0)⟩,
                        ⟨(some 46), none, .mv (.t 3)⟩,
                        ⟨(some 47), none, .mv (.t 4)⟩,
                        ⟨(some 48), none, .mv (.t 5)⟩,
                        ⟨(some 49), none, .ia 32 (.t 47) (.t 48)⟩,
                        ⟨(some 50), none, .ld 9 (.t 49)⟩,
                        ⟨(some 51), none, .ia 32 (.t 45) (.t 46)⟩,
                        ⟨none, none, .st 9 (.t 51) (.t 50)⟩])
                      (.reg [⟨(some 52), none, .mv (.t 3)⟩,
                        ⟨(some 53), none, .bin .add 3 (.t 52) (.i .i64 1)⟩,
                        ⟨(some 3), none, .mv (.t 53)⟩]))
                     (.skip))))
                  (.reg [⟨(some 33), none, .mv (.t 5)⟩,
                    ⟨(some 34), none, .bin .add 3 (.t 33) (.i .i64 1)⟩,
                    ⟨(some 5), none, .mv (.t 34)⟩]))))))
             (.seq (.reg [⟨(some 54), none, .mv (.t 0)⟩,
                ⟨(some 55), none, .mv (.t 3)⟩,
                ⟨(some 56), none, .sli 32 (.t 54) (some (.t 55)) none none⟩,
                ⟨none, none, .bi .clear [32] [.t 56]⟩])
              (.seq (.reg [⟨(some 57), none, .mv (.t 0)⟩,
                 ⟨(some 58), none, .mv (.t 3)⟩,
                 ⟨(some 59), none, .sli 32 (.t 57) none (some (.t 58)) none⟩,
                 ⟨(some 2), none, .mv (.t 59)⟩])
               (.ret)))))
           (.skip))))
        (.reg [⟨(some 14), none, .mv (.t 3)⟩,
          ⟨(some 15), none, .bin .add 3 (.t 14) (.i .i64 1)⟩,
          ⟨(some 3), none, .mv (.t 15)⟩]))))))
   (.seq (.reg [⟨(some 60), none, .mv (.t 0)⟩,
      ⟨(some 2), none, .mv (.t 60)⟩])
    (.ret))))
theorem b47 : Body Try.prog 47 61 [2] k47 := ⟨Enters.of Try.func47 (by kernel_rfl) (by kernel_rfl), _, _, Try.func47, rfl, by kernel_rfl, rfl, rfl⟩

/-- cartridge/listing.there -/
def k48 : KC :=
 .seq (.reg [⟨(some 2), none, .box 36 (.t 0)⟩,
   ⟨(some 4), none, .al 36⟩,
   ⟨(some 5), none, .mv (.b false)⟩])
 (.seq (.seq (.reg [⟨(some 6), none, .mv (.t 1)⟩,
     ⟨(some 7), none, .un .not (.t 6)⟩,
     ⟨(some 8), none, .mv (.t 7)⟩,
     ⟨(some 9), (some (8, false)), .fa 36 (.t 2) 5⟩,
     ⟨(some 10), (some (8, false)), .ld 4 (.t 9)⟩,
     ⟨(some 11), none, .pk (.t 8) (.b true) (.t 10)⟩])
   (.cond (.t 11)
    (.seq (.reg [⟨(some 12), none, .bld 36 []⟩,
       ⟨none, none, .st 36 (.t 4) (.t 12)⟩,
       ⟨(some 5), none, .mv (.b false)⟩])
     (.ret))
    (.skip)))
  (.seq (.reg [⟨(some 13), none, .ld 36 (.t 2)⟩,
     ⟨(some 14), none, .call (.fn 87) [.t 13]⟩,
     ⟨none, none, .st 36 (.t 4) (.t 14)⟩,
     ⟨(some 5), none, .mv (.b true)⟩])
   (.ret)))

/-- cartridge/listing.newest -/
def k49 : KC :=
 .seq (.reg [⟨(some 4), none, .al 36⟩,
   ⟨(some 5), none, .mv (.b false)⟩])
 (.seq (.reg [⟨(some 6), none, .al 36⟩])
  (.seq (.reg [⟨(some 7), none, .mv (.b false)⟩])
   (.seq (.seq (.reg [⟨(some 10), none, .mv (.t 0)⟩,
       ⟨(some 11), none, .bi .len [31] [.t 10]⟩,
       ⟨(some 12), none, .mv (.i .i64 0)⟩])
     (.block 0 (.loop (.seq (.reg [⟨(some 13), none, .bin .lss 3 (.t 12) (.t 11)⟩])
        (.seq (.cond (.t 13)
          (.skip)
          (.exit 0))
         (.seq (.block 1 (.seq (.reg [⟨(some 14), none, .ia 31 (.t 10) (.t 12)⟩,
              ⟨(some 15), none, .ld 36 (.t 14)⟩,
              ⟨(some 9), none, .al 36⟩,
              ⟨none, none, .st 36 (.t 9) (.t 15)⟩])
            (.seq (.reg [⟨(some 16), none, .fa 36 (.t 9) 0⟩,
               ⟨(some 17), none, .ld 9 (.t 16)⟩,
               ⟨(some 18), none, .mv (.t 1)⟩,
               ⟨(some 19), none, .bin .eql 9 (.t 17) (.t 18)⟩,
               ⟨(some 20), none, .mv (.t 19)⟩,
               ⟨(some 21), (some (20, true)), .mv (.t 7)⟩,
               ⟨(some 22), (some (20, true)), .un .not (.t 21)⟩,
               ⟨(some 23), (some (20, true)), .mv (.t 22)⟩,
               ⟨(some 24), (some (23, false)), .fa 36 (.t 9) 1⟩,
               ⟨(some 25), (some (23, false)), .ld 3 (.t 24)⟩,
               ⟨(some 26), (some (23, false)), .fa 36 (.t 6) 1⟩,
               ⟨(some 27), (some (23, false)), .ld 3 (.t 26)⟩,
               ⟨(some 28), (some (23, false)), .bin .gtr 3 (.t 25) (.t 27)⟩,
               ⟨(some 29), (some (20, true)), .pk (.t 23) (.b true) (.t 28)⟩,
               ⟨(some 30), none, .pk (.t 20) (.t 29) (.b false)⟩])
             (.cond (.t 30)
              (.reg [⟨(some 31), none, .ld 36 (.t 9)⟩,
                ⟨none, none, .st 36 (.t 6) (.t 31)⟩,
                ⟨(some 7), none, .mv (.b true)⟩])
              (.skip)))))
          (.reg [⟨(some 32), none, .bin .add 3 (.t 12) (.i .i64 1)⟩,
            ⟨(some 12), none, .mv (.t 32)⟩])))))))
    (.seq (.reg [⟨(some 33), none, .ld 36 (.t 6)⟩,
       ⟨(some 34), none, .mv (.t 7)⟩,
       ⟨none, none, .st 36 (.t 4) (.t 33)⟩,
       ⟨(some 5), none, .mv (.t 34)⟩])
     (.ret)))))

/-- slices.IndexFunc[[]cartridge/api.File,cartridge/api.File] -/
def k50 : KC :=
 .seq (.reg [⟨(some 4), none, .mv (.i .i64 0)⟩])
 (.seq (.seq (.reg [⟨(some 6), none, .mv (.t 0)⟩,
     ⟨(some 7), none, .bi .len [31] [.t 6]⟩,
     ⟨(some 8), none, .mv (.i .i64 0)⟩])
   (.block 0 (.loop (.seq (.reg [⟨(some 9), none, .bin .lss 3 (.t 8) (.t 7)⟩])
      (.seq (.cond (.t 9)
        (.skip)
        (.exit 0))
       (.seq (.block 1 (.seq (.reg [⟨(some 10), none, .mv (.t 8)⟩,
            ⟨(some 5), none, .mv (.t 10)⟩])
          (.seq (.reg [⟨(some 11), none, .mv (.t 1)⟩,
             ⟨(some 12), none, .mv (.t 0)⟩,
             ⟨(some 13), none, .mv (.t 5)⟩,
             ⟨(some 14), none, .ia 31 (.t 12) (.t 13)⟩,
             ⟨(some 15), none, .ld 36 (.t 14)⟩,
             ⟨(some 16), none, .call (.t 11) [.t 15]⟩])
           (.cond (.t 16)
            (.seq (.reg [⟨(some 17), none, .mv (.t 5)⟩,
               ⟨(some 4), none, .mv (.t 17)⟩])
             (.ret))
            (.skip)))))
        (.reg [⟨(some 18), none, .bin .add 3 (.t 8) (.i .i64 1)⟩,
          ⟨(some 8), none, .mv (.t 18)⟩])))))))
  (.seq (.reg [⟨(some 4), none, .mv (.i .i64 (-1))⟩])
   (.ret)))
theorem b50 : Body Try.prog 50 19 [4] k50 := ⟨Enters.of Try.func50 (by kernel_rfl) (by kernel_rfl), _, _, Try.func50, rfl, by kernel_rfl, rfl, rfl⟩

/-- cartridge/listing.Get$1 -/
def k51 : KC :=
 .seq (.reg [⟨(some 3), none, .box 36 (.t 0)⟩,
   ⟨(some 4), none, .mv (.b false)⟩])
 (.seq (.reg [⟨(some 5), none, .fa 36 (.t 3) 0⟩,
    ⟨(some 6), none, .ld 9 (.t 5)⟩,
    ⟨(some 7), none, .ld 9 (.t 1)⟩,
    ⟨(some 8), none, .bin .eql 9 (.t 6) (.t 7)⟩,
    ⟨(some 9), none, .mv (.t 8)⟩,
    ⟨(some 10), (some (9, true)), .fa 36 (.t 3) 1⟩,
    ⟨(some 11), (some (9, true)), .ld 3 (.t 10)⟩,
    ⟨(some 12), (some (9, true)), .ld 3 (.t 2)⟩,
    ⟨(some 13), (some (9, true)), .bin .eql 3 (.t 11) (.t 12)⟩,
    ⟨(some 14), none, .pk (.t 9) (.t 13) (.b false)⟩,
    ⟨(some 4), none, .mv (.t 14)⟩])
  (.ret))
theorem b51 : Body Try.prog 51 15 [4] k51 := ⟨Enters.of Try.func51 (by kernel_rfl) (by kernel_rfl), _, _, Try.func51, rfl, by kernel_rfl, rfl, rfl⟩

/-- cartridge/listing.Clone -/
def k87 : KC :=
 .seq (.reg [⟨(some 1), none, .box 36 (.t 0)⟩,
   ⟨(some 2), none, .al 36⟩])
 (.seq (.reg [⟨(some 3), none, .fa 36 (.t 1) 6⟩,
    ⟨(some 4), none, .ld 34 (.t 3)⟩,
    ⟨(some 5), none, .call (.fn 139) [.t 4]⟩,
    ⟨(some 6), none, .fa 36 (.t 1) 6⟩,
    ⟨none, none, .st 34 (.t 6) (.t 5)⟩])
  (.seq (.reg [⟨(some 7), none, .ld 36 (.t 1)⟩,
     ⟨none, none, .st 36 (.t 2) (.t 7)⟩])
   (.ret)))

/-- slices.Clone[[]cartridge/api.Part,cartridge/api.Part] -/
def k139 : KC :=
 .seq (.reg [⟨(some 2), none, .mv (.ns)⟩])
 (.seq (.seq (.reg [⟨(some 3), none, .mv (.t 0)⟩,
     ⟨(some 4), none, .bin .eql 34 (.t 3) (.ns)⟩])
   (.cond (.t 4)
    (.seq (.reg [⟨(some 2), none, .mv (.ns)⟩])
     (.ret))
    (.skip)))
  (.seq (.reg [⟨(some 5), none, .bsl 34 0 []⟩,
     ⟨(some 6), none, .mv (.t 0)⟩,
     ⟨(some 7), none, .bi .append [34, 34] [.t 5, .t 6]⟩,
     ⟨(some 2), none, .mv (.t 7)⟩])
   (.ret)))
theorem b139 : Body Try.prog 139 8 [2] k139 := ⟨Enters.of Try.func139 (by kernel_rfl) (by kernel_rfl), _, _, Try.func139, rfl, by kernel_rfl, rfl, rfl⟩

end Go.Proofs.Ytndjbcnpgggddaa
