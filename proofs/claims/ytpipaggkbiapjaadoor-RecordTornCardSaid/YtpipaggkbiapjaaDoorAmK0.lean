import Derived.Test.YtpipaggkbiapjaaDoorAmT
/- The code, cooked, and tied to the program's; written by gen.py. -/
namespace Go.Proofs.YtpipaggkbiapjaaDoor
open Go.AM

/-- cartridge/cartridgelaw10.RecordTorn -/
def k9 : KC :=
 .seq (.reg [⟨(some 3), none, .box 31 (.t 0)⟩,
   ⟨(some 4), none, .box 45 (.t 1)⟩,
   ⟨(some 6), none, .mv (.b false)⟩])
 (.seq (.reg [⟨(some 18), none, .call (.fn 18) []⟩,
    ⟨(some 7), none, .mv (.t 18)⟩])
  (.seq (.seq (.reg [⟨(some 19), none, .mv (.t 7)⟩,
      ⟨(some 20), none, .un .not (.t 19)⟩,
      ⟨(some 21), none, .mv (.t 20)⟩,
      ⟨(some 22), (some (21, false)), .ld 31 (.t 3)⟩,
      ⟨(some 23), (some (21, false)), .call (.fn 19) [.t 22]⟩,
      ⟨(some 24), (some (21, false)), .un .not (.t 23)⟩,
      ⟨(some 25), none, .pk (.t 21) (.b true) (.t 24)⟩,
      ⟨(some 26), none, .mv (.t 25)⟩,
      ⟨(some 27), (some (26, false)), .ld 45 (.t 4)⟩,
      ⟨(some 28), (some (26, false)), .call (.fn 26) [.t 27]⟩,
      ⟨(some 29), (some (26, false)), .un .not (.t 28)⟩,
      ⟨(some 30), none, .pk (.t 26) (.b true) (.t 29)⟩,
      ⟨(some 31), none, .mv (.t 30)⟩,
      ⟨(some 32), (some (31, false)), .mv (.t 2)⟩,
      ⟨(some 33), (some (31, false)), .bin .lss 3 (.t 32) (.i .i64 0)⟩,
      ⟨(some 34), none, .pk (.t 31) (.b true) (.t 33)⟩])
    (.cond (.t 34)
     (.seq (.reg [⟨(some 35), none, .mv (.t 7)⟩,
        ⟨(some 6), none, .mv (.t 35)⟩])
      (.ret))
     (.skip)))
   (.seq (.reg [⟨(some 36), none, .ld 31 (.t 3)⟩,
      ⟨(some 37), none, .call (.fn 20) [.t 36]⟩,
      ⟨(some 8), none, .mv (.t 37)⟩])
    (.seq (.reg [⟨(some 38), none, .ld 45 (.t 4)⟩,
       ⟨(some 39), none, .call (.fn 27) [.t 38]⟩,
       ⟨(some 9), none, .mv (.t 39)⟩])
     (.seq (.seq (.reg [⟨(some 40), none, .mv (.t 8)⟩,
         ⟨(some 41), none, .bi .len [32] [.t 40]⟩,
         ⟨(some 42), none, .bin .eql 3 (.t 41) (.i .i64 0)⟩,
         ⟨(some 43), none, .mv (.t 42)⟩,
         ⟨(some 44), (some (43, false)), .mv (.t 9)⟩,
         ⟨(some 45), (some (43, false)), .bi .len [32] [.t 44]⟩,
         ⟨(some 46), (some (43, false)), .bin .eql 3 (.t 45) (.i .i64 0)⟩,
         ⟨(some 47), none, .pk (.t 43) (.b true) (.t 46)⟩])
       (.cond (.t 47)
        (.seq (.reg [⟨(some 6), none, .mv (.b false)⟩])
         (.ret))
        (.skip)))
      (.seq (.reg [⟨(some 49), none, .mv (.t 8)⟩,
         ⟨(some 50), none, .mv (.t 2)⟩,
         ⟨(some 51), none, .mv (.t 8)⟩,
         ⟨(some 52), none, .bi .len [32] [.t 51]⟩,
         ⟨(some 53), none, .bin .rem 3 (.t 50) (.t 52)⟩,
         ⟨(some 54), none, .sli 32 (.t 49) none (some (.t 53)) none⟩,
         ⟨(some 55), none, .call (.fn 21) [.t 54]⟩,
         ⟨(some 48), none, .mv (.t 55)⟩,
         ⟨(some 56), none, .ex (.t 48) 0⟩,
         ⟨(some 57), none, .ex (.t 48) 1⟩,
         ⟨(some 10), none, .al 31⟩,
         ⟨none, none, .st 31 (.t 10) (.t 56)⟩,
         ⟨(some 11), none, .mv (.t 57)⟩])
       (.seq (.reg [⟨(some 59), none, .mv (.t 8)⟩,
          ⟨(some 60), none, .bi .append [32, 32] [.ns, .t 59]⟩,
          ⟨(some 61), none, .bsl 32 1 [(0, .i .u8 0)]⟩,
          ⟨(some 62), none, .bi .append [32, 32] [.t 60, .t 61]⟩,
          ⟨(some 63), none, .call (.fn 21) [.t 62]⟩,
          ⟨(some 58), none, .mv (.t 63)⟩,
          ⟨(some 64), none, .ex (.t 58) 0⟩,
          ⟨(some 65), none, .ex (.t 58) 1⟩,
          ⟨(some 12), none, .al 31⟩,
          ⟨none, none, .st 31 (.t 12) (.t 64)⟩,
          ⟨(some 13), none, .mv (.t 65)⟩])
        (.seq (.reg [⟨(some 67), none, .mv (.t 9)⟩,
           ⟨(some 68), none, .mv (.t 2)⟩,
           ⟨(some 69), none, .mv (.t 9)⟩,
           ⟨(some 70), none, .bi .len [32] [.t 69]⟩,
           ⟨(some 71), none, .bin .rem 3 (.t 68) (.t 70)⟩,
           ⟨(some 72), none, .sli 32 (.t 67) none (some (.t 71)) none⟩,
           ⟨(some 73), none, .call (.fn 28) [.t 72]⟩,
           ⟨(some 66), none, .mv (.t 73)⟩,
           ⟨(some 74), none, .ex (.t 66) 0⟩,
           ⟨(some 75), none, .ex (.t 66) 1⟩,
           ⟨(some 14), none, .al 45⟩,
           ⟨none, none, .st 45 (.t 14) (.t 74)⟩,
           ⟨(some 15), none, .mv (.t 75)⟩])
         (.seq (.reg [⟨(some 77), none, .mv (.t 9)⟩,
            ⟨(some 78), none, .bi .append [32, 32] [.ns, .t 77]⟩,
            ⟨(some 79), none, .bsl 32 1 [(0, .i .u8 0)]⟩,
            ⟨(some 80), none, .bi .append [32, 32] [.t 78, .t 79]⟩,
            ⟨(some 81), none, .call (.fn 28) [.t 80]⟩,
            ⟨(some 76), none, .mv (.t 81)⟩,
            ⟨(some 82), none, .ex (.t 76) 0⟩,
            ⟨(some 83), none, .ex (.t 76) 1⟩,
            ⟨(some 16), none, .al 45⟩,
            ⟨none, none, .st 45 (.t 16) (.t 82)⟩,
            ⟨(some 17), none, .mv (.t 83)⟩])
          (.seq (.reg [⟨(some 84), none, .mv (.t 11)⟩,
             ⟨(some 85), none, .call (.fn 25) [.t 84]⟩,
             ⟨(some 86), none, .bin .eql 3 (.t 85) (.i .i64 2)⟩,
             ⟨(some 87), none, .mv (.t 86)⟩,
             ⟨(some 88), (some (87, true)), .mv (.t 13)⟩,
             ⟨(some 89), (some (87, true)), .call (.fn 25) [.t 88]⟩,
             ⟨(some 90), (some (87, true)), .bin .eql 3 (.t 89) (.i .i64 2)⟩,
             ⟨(some 91), none, .pk (.t 87) (.t 90) (.b false)⟩,
             ⟨(some 92), none, .mv (.t 91)⟩,
             ⟨(some 93), (some (92, true)), .mv (.t 15)⟩,
             ⟨(some 94), (some (92, true)), .call (.fn 25) [.t 93]⟩,
             ⟨(some 95), (some (92, true)), .bin .eql 3 (.t 94) (.i .i64 2)⟩,
             ⟨(some 96), none, .pk (.t 92) (.t 95) (.b false)⟩,
             ⟨(some 97), none, .mv (.t 96)⟩,
             ⟨(some 98), (some (97, true)), .mv (.t 17)⟩,
             ⟨(some 99), (some (97, true)), .call (.fn 25) [.t 98]⟩,
             ⟨(some 100), (some (97, true)), .bin .eql 3 (.t 99) (.i .i64 2)⟩,
             ⟨(some 101), none, .pk (.t 97) (.t 100) (.b false)⟩,
             ⟨(some 6), none, .mv (.t 101)⟩])
           (.ret)))))))))))
theorem b9 : Body Tryd.prog 9 102 [6] k9 := ⟨Enters.of Tryd.func9 (by kernel_rfl) (by kernel_rfl), _, _, Tryd.func9, rfl, by kernel_rfl, rfl, rfl⟩

/-- cartridge/path.Right -/
def k11 : KC :=
 .seq (.reg [⟨(some 2), none, .mv (.b false)⟩])
 (.seq (.reg [⟨(some 3), none, .mv (.t 0)⟩,
    ⟨(some 4), none, .bi .len [9] [.t 3]⟩,
    ⟨(some 5), none, .bin .leq 3 (.t 4) (.i .i64 24)⟩,
    ⟨(some 6), none, .mv (.t 5)⟩,
    ⟨(some 7), (some (6, true)), .mv (.t 0)⟩,
    ⟨(some 8), (some (6, true)), .call (.fn 34) [.t 7, .s ⟨#[47]⟩]⟩,
    ⟨(some 9), (some (6, true)), .call (.fn 33) [.t 8, .fn 35]⟩,
    ⟨(some 10), (some (6, true)), .un .not (.t 9)⟩,
    ⟨(some 11), none, .pk (.t 6) (.t 10) (.b false)⟩,
    ⟨(some 2), none, .mv (.t 11)⟩])
  (.ret))
theorem b11 : Body Tryd.prog 11 12 [2] k11 := ⟨Enters.of Tryd.func11 (by kernel_rfl) (by kernel_rfl), _, _, Tryd.func11, rfl, by kernel_rfl, rfl, rfl⟩

/-- cartridge/cartridgeref1.RightPath -/
def k12 : KC :=
 .seq (.reg [⟨(some 2), none, .mv (.b false)⟩])
 (.seq (.reg [⟨(some 3), none, .mv (.t 0)⟩,
    ⟨(some 4), none, .call (.fn 15) [.t 3]⟩,
    ⟨(some 5), none, .bi .len [25] [.t 4]⟩,
    ⟨(some 6), none, .bin .gtr 3 (.t 5) (.i .i64 0)⟩,
    ⟨(some 2), none, .mv (.t 6)⟩])
  (.ret))
theorem b12 : Body Tryd.prog 12 7 [2] k12 := ⟨Enters.of Tryd.func12 (by kernel_rfl) (by kernel_rfl), _, _, Tryd.func12, rfl, by kernel_rfl, rfl, rfl⟩

/-- cartridge/cartridgeref1.PathParts -/
def k15 : KC :=
 .seq (.reg [⟨(some 2), none, .mv (.ns)⟩])
 (.seq (.seq (.reg [⟨(some 7), none, .mv (.t 0)⟩,
     ⟨(some 8), none, .bi .len [9] [.t 7]⟩,
     ⟨(some 9), none, .bin .lss 3 (.t 8) (.i .i64 1)⟩,
     ⟨(some 10), none, .mv (.t 9)⟩,
     ⟨(some 11), (some (10, false)), .mv (.t 0)⟩,
     ⟨(some 12), (some (10, false)), .bi .len [9] [.t 11]⟩,
     ⟨(some 13), (some (10, false)), .bin .gtr 3 (.t 12) (.i .i64 24)⟩,
     ⟨(some 14), none, .pk (.t 10) (.b true) (.t 13)⟩])
   (.cond (.t 14)
    (.seq (.reg [⟨(some 2), none, .mv (.ns)⟩])
     (.ret))
    (.skip)))
  (.seq (.reg [⟨(some 3), none, .mv (.ns)⟩])
   (.seq (.reg [⟨(some 4), none, .mv (.s ⟨#[]⟩)⟩])
    (.seq (.seq (.reg [⟨(some 5), none, .mv (.i .i64 0)⟩])
      (.block 0 (.loop (.seq (.seq (.reg [⟨(some 15), none, .mv (.t 5)⟩,
            ⟨(some 16), none, .mv (.t 0)⟩,
            ⟨(some 17), none, .bi .len [9] [.t 16]⟩,
            ⟨(some 18), none, .bin .leq 3 (.t 15) (.t 17)⟩])
          (.cond (.t 18)
           (.skip)
           (.exit 0)))
         (.seq (.block 1 (.seq (.seq (.reg [⟨(some 21), none, .mv (.t 5)⟩,
               ⟨(some 22), none, .mv (.t 0)⟩,
               ⟨(some 23), none, .bi .len [9] [.t 22]⟩,
               ⟨(some 24), none, .bin .eql 3 (.t 21) (.t 23)⟩,
               ⟨(some 25), none, .mv (.t 24)⟩,
               ⟨(some 26), (some (25, false)), .mv (.t 0)⟩,
               ⟨(some 27), (some (25, false)), .mv (.t 5)⟩,
               ⟨(some 28), (some (25, false)), .ix 9 (.t 26) (.t 27)⟩,
               ⟨(some 29), (some (25, false)), .bin .eql 5 (.t 28) (.i .u8 47)⟩,
               ⟨(some 30), none, .pk (.t 25) (.b true) (.t 29)⟩])
             (.cond (.t 30)
              (.seq (.seq (.reg [⟨(some 31), none, .mv (.t 4)⟩,
                  ⟨(some 32), none, .bin .eql 9 (.t 31) (.s ⟨#[]⟩)⟩,
                  ⟨(some 33), none, .mv (.t 32)⟩,
                  ⟨(some 34), (some (33, false)), .mv (.t 4)⟩,
                  ⟨(some 35), (some (33, false)), .bin .eql 9 (.t 34) (.s ⟨#[46]⟩)⟩,
                  ⟨(some 36), none, .pk (.t 33) (.b true) (.t 35)⟩,
                  ⟨(some 37), none, .mv (.t 36)⟩,
                  ⟨(some 38), (some (37, false)), .mv (.t 4)⟩,
                  ⟨(some 39), (some (37, false)), .bin .eql 9 (.t 38) (.s ⟨#[46, 46]⟩)⟩,
                  ⟨(some 40), none, .pk (.t 37) (.b true) (.t 39)⟩])
                (.cond (.t 40)
                 (.seq (.reg [⟨(some 2), none, .mv (.ns)⟩])
                  (.ret))
                 (.skip)))
               (.seq (.reg [⟨(some 41), none, .mv (.t 3)⟩,
                  ⟨(some 42), none, .mv (.t 4)⟩,
                  ⟨(some 43), none, .bsl 25 1 [(0, .t 42)]⟩,
                  ⟨(some 44), none, .bi .append [25, 25] [.t 41, .t 43]⟩,
                  ⟨(some 3), none, .mv (.t 44)⟩])
                (.seq (.reg [⟨(some 4), none, .mv (.s ⟨#[]⟩)⟩])
                 (.exit 1))))
              (.skip)))
            (.seq (.reg [⟨(some 45), none, .mv (.t 0)⟩,
               ⟨(some 46), none, .mv (.t 5)⟩,
               ⟨(some 47), none, .ix 9 (.t 45) (.t 46)⟩,
               ⟨(some 6), none, .mv (.t 47)⟩])
             (.seq (.seq (.reg [⟨(some 48), none, .mv (.t 6)⟩,
                 ⟨(some 49), none, .bin .geq 5 (.t 48) (.i .u8 97)⟩,
                 ⟨(some 50), none, .mv (.t 49)⟩,
                 ⟨(some 51), (some (50, true)), .mv (.t 6)⟩,
                 ⟨(some 52), (some (50, true)), .bin .leq 5 (.t 51) (.i .u8 122)⟩,
                 ⟨(some 53), none, .pk (.t 50) (.t 52) (.b false)⟩,
                 ⟨(some 54), none, .mv (.t 53)⟩,
                 ⟨(some 55), (some (54, false)), .mv (.t 6)⟩,
                 ⟨(some 56), (some (54, false)), .bin .geq 5 (.t 55) (.i .u8 48)⟩,
                 ⟨(some 57), (some (54, false)), .mv (.t 56)⟩,
                 ⟨(some 58), (some (57, true)), .mv (.t 6)⟩,
                 ⟨(some 59), (some (57, true)), .bin .leq 5 (.t 58) (.i .u8 57)⟩,
                 ⟨(some 60), (some (54, false)), .pk (.t 57) (.t 59) (.b false)⟩,
                 ⟨(some 61), none, .pk (.t 54) (.b true) (.t 60)⟩,
                 ⟨(some 62), none, .mv (.t 61)⟩,
                 ⟨(some 63), (some (62, false)), .mv (.t 6)⟩,
                 ⟨(some 64), (some (62, false)), .bin .eql 5 (.t 63) (.i .u8 46)⟩,
                 ⟨(some 65), none, .pk (.t 62) (.b true) (.t 64)⟩,
                 ⟨(some 66), none, .mv (.t 65)⟩,
                 ⟨(some 67), (some (66, false)), .mv (.t 6)⟩,
                 ⟨(some 68), (some (66, false)), .bin .eql 5 (.t 67) (.i .u8 45)⟩,
                 ⟨(some 69), none, .pk (.t 66) (.b true) (.t 68)⟩,
                 ⟨(some 70), none, .mv (.t 69)⟩,
                 ⟨(some 71), (some (70, false)), .mv (.t 6)⟩,
                 ⟨(some 72), (some (70, false)), .bin .eql 5 (.t 71) (.i .u8 95)⟩,
                 ⟨(some 73), none, .pk (.t 70) (.b true) (.t 72)⟩,
                 ⟨(some 74), none, .un .not (.t 73)⟩])
               (.cond (.t 74)
                (.seq (.reg [⟨(some 2), none, .mv (.ns)⟩])
                 (.ret))
                (.skip)))
              (.reg [⟨(some 75), none, .mv (.t 4)⟩,
                ⟨(some 76), none, .mv (.t 0)⟩,
                ⟨(some 77), none, .mv (.t 5)⟩,
                ⟨(some 78), none, .mv (.t 5)⟩,
                ⟨(some 79), none, .bin .add 3 (.t 78) (.i .i64 1)⟩,
                ⟨(some 80), none, .sli 9 (.t 76) (some (.t 77)) (some (.t 79)) none⟩,
                ⟨(some 81), none, .bin .add 9 (.t 75) (.t 80)⟩,
                ⟨(some 4), none, .mv (.t 81)⟩])))))
          (.reg [⟨(some 19), none, .mv (.t 5)⟩,
            ⟨(some 20), none, .bin .add 3 (.t 19) (.i .i64 1)⟩,
            ⟨(some 5), none, .mv (.t 20)⟩]))))))
     (.seq (.reg [⟨(some 82), none, .mv (.t 3)⟩,
        ⟨(some 2), none, .mv (.t 82)⟩])
      (.ret))))))
theorem b15 : Body Tryd.prog 15 83 [2] k15 := ⟨Enters.of Tryd.func15 (by kernel_rfl) (by kernel_rfl), _, _, Tryd.func15, rfl, by kernel_rfl, rfl, rfl⟩

/-- cartridge/cartridgelaw10.alive -/
def k18 : KC :=
 .seq (.reg [⟨(some 0), none, .mv (.b false)⟩])
 (.seq (.reg [⟨(some 6), none, .call (.fn 21) [.ns]⟩,
    ⟨(some 5), none, .mv (.t 6)⟩,
    ⟨(some 7), none, .ex (.t 5) 0⟩,
    ⟨(some 8), none, .ex (.t 5) 1⟩,
    ⟨(some 1), none, .al 31⟩,
    ⟨none, none, .st 31 (.t 1) (.t 7)⟩,
    ⟨(some 2), none, .mv (.t 8)⟩])
  (.seq (.reg [⟨(some 10), none, .bld 31 [(0, .s ⟨#[97]⟩), (1, .i .i64 1), (5, .i .i64 1)]⟩,
     ⟨(some 11), none, .call (.fn 20) [.t 10]⟩,
     ⟨(some 12), none, .call (.fn 21) [.t 11]⟩,
     ⟨(some 9), none, .mv (.t 12)⟩,
     ⟨(some 13), none, .ex (.t 9) 0⟩,
     ⟨(some 14), none, .ex (.t 9) 1⟩,
     ⟨(some 3), none, .al 31⟩,
     ⟨none, none, .st 31 (.t 3) (.t 13)⟩,
     ⟨(some 4), none, .mv (.t 14)⟩])
   (.seq (.reg [⟨(some 15), none, .mv (.t 2)⟩,
      ⟨(some 16), none, .call (.fn 25) [.t 15]⟩,
      ⟨(some 17), none, .bin .eql 3 (.t 16) (.i .i64 2)⟩,
      ⟨(some 18), none, .mv (.t 17)⟩,
      ⟨(some 19), (some (18, true)), .mv (.t 4)⟩,
      ⟨(some 20), (some (18, true)), .call (.fn 25) [.t 19]⟩,
      ⟨(some 21), (some (18, true)), .bin .eql 3 (.t 20) (.i .i64 0)⟩,
      ⟨(some 22), none, .pk (.t 18) (.t 21) (.b false)⟩,
      ⟨(some 23), none, .mv (.t 22)⟩,
      ⟨(some 24), (some (23, true)), .fa 31 (.t 3) 0⟩,
      ⟨(some 25), (some (23, true)), .ld 9 (.t 24)⟩,
      ⟨(some 26), (some (23, true)), .bin .eql 9 (.t 25) (.s ⟨#[97]⟩)⟩,
      ⟨(some 27), none, .pk (.t 23) (.t 26) (.b false)⟩,
      ⟨(some 28), none, .mv (.t 27)⟩,
      ⟨(some 29), (some (28, true)), .ld 31 (.t 3)⟩,
      ⟨(some 30), (some (28, true)), .call (.fn 23) [.t 29]⟩,
      ⟨(some 31), none, .pk (.t 28) (.t 30) (.b false)⟩,
      ⟨(some 0), none, .mv (.t 31)⟩])
    (.ret))))
theorem b18 : Body Tryd.prog 18 32 [0] k18 := ⟨Enters.of Tryd.func18 (by kernel_rfl) (by kernel_rfl), _, _, Tryd.func18, rfl, by kernel_rfl, rfl, rfl⟩

/-- cartridge/cartridgeref10.RightHead -/
def k19 : KC :=
 .seq (.reg [⟨(some 1), none, .box 31 (.t 0)⟩,
   ⟨(some 2), none, .mv (.b false)⟩])
 (.seq (.seq (.reg [⟨(some 3), none, .fa 31 (.t 1) 0⟩,
     ⟨(some 4), none, .ld 9 (.t 3)⟩,
     ⟨(some 5), none, .call (.fn 12) [.t 4]⟩,
     ⟨(some 6), none, .un .not (.t 5)⟩,
     ⟨(some 7), none, .mv (.t 6)⟩,
     ⟨(some 8), (some (7, false)), .fa 31 (.t 1) 1⟩,
     ⟨(some 9), (some (7, false)), .ld 3 (.t 8)⟩,
     ⟨(some 10), (some (7, false)), .bin .lss 3 (.t 9) (.i .i64 1)⟩,
     ⟨(some 11), none, .pk (.t 7) (.b true) (.t 10)⟩,
     ⟨(some 12), none, .mv (.t 11)⟩,
     ⟨(some 13), (some (12, false)), .fa 31 (.t 1) 1⟩,
     ⟨(some 14), (some (12, false)), .ld 3 (.t 13)⟩,
     ⟨(some 15), (some (12, false)), .bin .gtr 3 (.t 14) (.i .i64 1073741824)⟩,
     ⟨(some 16), none, .pk (.t 12) (.b true) (.t 15)⟩,
     ⟨(some 17), none, .mv (.t 16)⟩,
     ⟨(some 18), (some (17, false)), .fa 31 (.t 1) 5⟩,
     ⟨(some 19), (some (17, false)), .ld 3 (.t 18)⟩,
     ⟨(some 20), (some (17, false)), .bin .lss 3 (.t 19) (.i .i64 1)⟩,
     ⟨(some 21), none, .pk (.t 17) (.b true) (.t 20)⟩,
     ⟨(some 22), none, .mv (.t 21)⟩,
     ⟨(some 23), (some (22, false)), .fa 31 (.t 1) 5⟩,
     ⟨(some 24), (some (22, false)), .ld 3 (.t 23)⟩,
     ⟨(some 25), (some (22, false)), .bin .gtr 3 (.t 24) (.i .i64 1073741824)⟩,
     ⟨(some 26), none, .pk (.t 22) (.b true) (.t 25)⟩,
     ⟨(some 27), none, .mv (.t 26)⟩,
     ⟨(some 28), (some (27, false)), .fa 31 (.t 1) 2⟩,
     ⟨(some 29), (some (27, false)), .ld 3 (.t 28)⟩,
     ⟨(some 30), (some (27, false)), .bin .lss 3 (.t 29) (.i .i64 0)⟩,
     ⟨(some 31), none, .pk (.t 27) (.b true) (.t 30)⟩,
     ⟨(some 32), none, .mv (.t 31)⟩,
     ⟨(some 33), (some (32, false)), .fa 31 (.t 1) 2⟩,
     ⟨(some 34), (some (32, false)), .ld 3 (.t 33)⟩,
     ⟨(some 35), (some (32, false)), .bin .gtr 3 (.t 34) (.i .i64 4000)⟩,
     ⟨(some 36), none, .pk (.t 32) (.b true) (.t 35)⟩,
     ⟨(some 37), none, .mv (.t 36)⟩,
     ⟨(some 38), (some (37, false)), .fa 31 (.t 1) 3⟩,
     ⟨(some 39), (some (37, false)), .ld 3 (.t 38)⟩,
     ⟨(some 40), (some (37, false)), .bin .lss 3 (.t 39) (.i .i64 0)⟩,
     ⟨(some 41), none, .pk (.t 37) (.b true) (.t 40)⟩,
     ⟨(some 42), none, .mv (.t 41)⟩,
     ⟨(some 43), (some (42, false)), .fa 31 (.t 1) 4⟩,
     ⟨(some 44), (some (42, false)), .ld 3 (.t 43)⟩,
     ⟨(some 45), (some (42, false)), .bin .lss 3 (.t 44) (.i .i64 0)⟩,
     ⟨(some 46), none, .pk (.t 42) (.b true) (.t 45)⟩,
     ⟨(some 47), none, .mv (.t 46)⟩,
     ⟨(some 48), (some (47, false)), .fa 31 (.t 1) 3⟩,
     ⟨(some 49), (some (47, false)), .ld 3 (.t 48)⟩,
     ⟨(some 50), (some (47, false)), .fa 31 (.t 1) 2⟩,
     ⟨(some 51), (some (47, false)), .ld 3 (.t 50)⟩,
     ⟨(some 52), (some (47, false)), .bin .gtr 3 (.t 49) (.t 51)⟩,
     ⟨(some 53), none, .pk (.t 47) (.b true) (.t 52)⟩,
     ⟨(some 54), none, .mv (.t 53)⟩,
     ⟨(some 55), (some (54, false)), .fa 31 (.t 1) 4⟩,
     ⟨(some 56), (some (54, false)), .ld 3 (.t 55)⟩,
     ⟨(some 57), (some (54, false)), .fa 31 (.t 1) 2⟩,
     ⟨(some 58), (some (54, false)), .ld 3 (.t 57)⟩,
     ⟨(some 59), (some (54, false)), .fa 31 (.t 1) 3⟩,
     ⟨(some 60), (some (54, false)), .ld 3 (.t 59)⟩,
     ⟨(some 61), (some (54, false)), .bin .sub 3 (.t 58) (.t 60)⟩,
     ⟨(some 62), (some (54, false)), .bin .gtr 3 (.t 56) (.t 61)⟩,
     ⟨(some 63), none, .pk (.t 54) (.b true) (.t 62)⟩,
     ⟨(some 64), none, .mv (.t 63)⟩,
     ⟨(some 65), (some (64, false)), .fa 31 (.t 1) 4⟩,
     ⟨(some 66), (some (64, false)), .ld 3 (.t 65)⟩,
     ⟨(some 67), (some (64, false)), .bin .eql 3 (.t 66) (.i .i64 0)⟩,
     ⟨(some 68), (some (64, false)), .mv (.t 67)⟩,
     ⟨(some 69), (some (68, true)), .fa 31 (.t 1) 2⟩,
     ⟨(some 70), (some (68, true)), .ld 3 (.t 69)⟩,
     ⟨(some 71), (some (68, true)), .bin .gtr 3 (.t 70) (.i .i64 0)⟩,
     ⟨(some 72), (some (64, false)), .pk (.t 68) (.t 71) (.b false)⟩,
     ⟨(some 73), none, .pk (.t 64) (.b true) (.t 72)⟩,
     ⟨(some 74), none, .mv (.t 73)⟩,
     ⟨(some 75), (some (74, false)), .fa 31 (.t 1) 6⟩,
     ⟨(some 76), (some (74, false)), .ld 3 (.t 75)⟩,
     ⟨(some 77), (some (74, false)), .bin .lss 3 (.t 76) (.i .i64 0)⟩,
     ⟨(some 78), none, .pk (.t 74) (.b true) (.t 77)⟩,
     ⟨(some 79), none, .mv (.t 78)⟩,
     ⟨(some 80), (some (79, false)), .fa 31 (.t 1) 6⟩,
     ⟨(some 81), (some (79, false)), .ld 3 (.t 80)⟩,
     ⟨(some 82), (some (79, false)), .bin .gtr 3 (.t 81) (.i .i64 4294967295)⟩,
     ⟨(some 83), none, .pk (.t 79) (.b true) (.t 82)⟩])
   (.cond (.t 83)
    (.seq (.reg [⟨(some 2), none, .mv (.b false)⟩])
     (.ret))
    (.skip)))
  (.seq (.reg [⟨(some 84), none, .fa 31 (.t 1) 7⟩,
     ⟨(some 85), none, .ld 4 (.t 84)⟩,
     ⟨(some 86), none, .un .not (.t 85)⟩,
     ⟨(some 87), none, .mv (.t 86)⟩,
     ⟨(some 88), (some (87, false)), .fa 31 (.t 1) 2⟩,
     ⟨(some 89), (some (87, false)), .ld 3 (.t 88)⟩,
     ⟨(some 90), (some (87, false)), .bin .eql 3 (.t 89) (.i .i64 0)⟩,
     ⟨(some 91), (some (87, false)), .mv (.t 90)⟩,
     ⟨(some 92), (some (91, true)), .fa 31 (.t 1) 3⟩,
     ⟨(some 93), (some (91, true)), .ld 3 (.t 92)⟩,
     ⟨(some 94), (some (91, true)), .bin .eql 3 (.t 93) (.i .i64 0)⟩,
     ⟨(some 95), (some (87, false)), .pk (.t 91) (.t 94) (.b false)⟩,
     ⟨(some 96), (some (87, false)), .mv (.t 95)⟩,
     ⟨(some 97), (some (96, true)), .fa 31 (.t 1) 4⟩,
     ⟨(some 98), (some (96, true)), .ld 3 (.t 97)⟩,
     ⟨(some 99), (some (96, true)), .bin .eql 3 (.t 98) (.i .i64 0)⟩,
     ⟨(some 100), (some (87, false)), .pk (.t 96) (.t 99) (.b false)⟩,
     ⟨(some 101), (some (87, false)), .mv (.t 100)⟩,
     ⟨(some 102), (some (101, true)), .fa 31 (.t 1) 6⟩,
     ⟨(some 103), (some (101, true)), .ld 3 (.t 102)⟩,
     ⟨(some 104), (some (101, true)), .bin .eql 3 (.t 103) (.i .i64 0)⟩,
     ⟨(some 105), (some (87, false)), .pk (.t 101) (.t 104) (.b false)⟩,
     ⟨(some 106), none, .pk (.t 87) (.b true) (.t 105)⟩,
     ⟨(some 2), none, .mv (.t 106)⟩])
   (.ret)))
theorem b19 : Body Tryd.prog 19 107 [2] k19 := ⟨Enters.of Tryd.func19 (by kernel_rfl) (by kernel_rfl), _, _, Tryd.func19, rfl, by kernel_rfl, rfl, rfl⟩

/-- cartridge/record.HeadBytes -/
def k20 : KC :=
 .seq (.reg [⟨(some 1), none, .box 31 (.t 0)⟩,
   ⟨(some 2), none, .mv (.ns)⟩])
 (.seq (.seq (.reg [⟨(some 7), none, .ld 31 (.t 1)⟩,
     ⟨(some 8), none, .call (.fn 23) [.t 7]⟩,
     ⟨(some 9), none, .un .not (.t 8)⟩])
   (.cond (.t 9)
    (.seq (.reg [⟨(some 2), none, .mv (.ns)⟩])
     (.ret))
    (.skip)))
  (.seq (.reg [⟨(some 10), none, .bld 59 []⟩,
     ⟨(some 11), none, .box 59 (.t 10)⟩,
     ⟨(some 3), none, .mv (.t 11)⟩])
   (.seq (.reg [⟨(some 12), none, .mv (.t 3)⟩,
      ⟨(some 13), none, .fa 31 (.t 1) 0⟩,
      ⟨(some 14), none, .ld 9 (.t 13)⟩,
      ⟨(some 15), none, .call (.fn 37) [.t 12, .t 14]⟩])
    (.seq (.seq (.reg [⟨(some 16), none, .fa 31 (.t 1) 1⟩,
        ⟨(some 17), none, .ld 3 (.t 16)⟩,
        ⟨(some 18), none, .fa 31 (.t 1) 2⟩,
        ⟨(some 19), none, .ld 3 (.t 18)⟩,
        ⟨(some 20), none, .fa 31 (.t 1) 3⟩,
        ⟨(some 21), none, .ld 3 (.t 20)⟩,
        ⟨(some 22), none, .fa 31 (.t 1) 4⟩,
        ⟨(some 23), none, .ld 3 (.t 22)⟩,
        ⟨(some 24), none, .fa 31 (.t 1) 5⟩,
        ⟨(some 25), none, .ld 3 (.t 24)⟩,
        ⟨(some 26), none, .fa 31 (.t 1) 6⟩,
        ⟨(some 27), none, .ld 3 (.t 26)⟩,
        ⟨(some 28), none, .bsl 43 6 [(0, .t 17), (1, .t 19), (2, .t 21), (3, .t 23), (4, .t 25), (5, .t 27)]⟩,
        ⟨(some 29), none, .bi .len [43] [.t 28]⟩,
        ⟨(some 30), none, .mv (.i .i64 0)⟩])
      (.block 0 (.loop (.seq (.reg [⟨(some 31), none, .bin .lss 3 (.t 30) (.t 29)⟩])
         (.seq (.cond (.t 31)
           (.skip)
           (.exit 0))
          (.seq (.block 1 (.seq (.reg [⟨(some 32), none, .ia 43 (.t 28) (.t 30)⟩,
               ⟨(some 33), none, .ld 3 (.t 32)⟩,
               ⟨(some 5), none, .mv (.t 33)⟩])
             (.reg [⟨(some 34), none, .mv (.t 3)⟩,
               ⟨(some 35), none, .mv (.t 5)⟩,
               ⟨(some 36), none, .call (.fn 38) [.t 34, .t 35]⟩])))
           (.reg [⟨(some 37), none, .bin .add 3 (.t 30) (.i .i64 1)⟩,
             ⟨(some 30), none, .mv (.t 37)⟩])))))))
     (.seq (.reg [⟨(some 6), none, .mv (.i .u8 0)⟩])
      (.seq (.seq (.reg [⟨(some 38), none, .fa 31 (.t 1) 7⟩,
          ⟨(some 39), none, .ld 4 (.t 38)⟩])
        (.cond (.t 39)
         (.reg [⟨(some 6), none, .mv (.i .u8 1)⟩])
         (.skip)))
       (.seq (.reg [⟨(some 40), none, .mv (.t 3)⟩,
          ⟨(some 41), none, .mv (.t 6)⟩,
          ⟨(some 42), none, .call (.fn 39) [.t 40, .t 41]⟩])
        (.seq (.reg [⟨(some 43), none, .mv (.t 3)⟩,
           ⟨(some 44), none, .call (.fn 40) [.t 43]⟩,
           ⟨(some 2), none, .mv (.t 44)⟩])
         (.ret)))))))))
theorem b20 : Body Tryd.prog 20 45 [2] k20 := ⟨Enters.of Tryd.func20 (by kernel_rfl) (by kernel_rfl), _, _, Tryd.func20, rfl, by kernel_rfl, rfl, rfl⟩

/-- cartridge/record.ReadHead -/
def k21 : KC :=
 .seq (.reg [⟨(some 2), none, .al 31⟩,
   ⟨(some 3), none, .mv (.i .i64 0)⟩])
 (.seq (.reg [⟨(some 8), none, .mv (.t 0)⟩,
    ⟨(some 9), none, .call (.fn 41) [.t 8]⟩,
    ⟨(some 4), none, .mv (.t 9)⟩])
  (.seq (.reg [⟨(some 10), none, .mv (.t 4)⟩,
     ⟨(some 11), none, .call (.fn 42) [.t 10]⟩,
     ⟨(some 12), none, .bld 31 [(0, .t 11)]⟩,
     ⟨(some 5), none, .al 31⟩,
     ⟨none, none, .st 31 (.t 5) (.t 12)⟩])
   (.seq (.seq (.reg [⟨(some 13), none, .fa 31 (.t 5) 1⟩,
       ⟨(some 14), none, .fa 31 (.t 5) 2⟩,
       ⟨(some 15), none, .fa 31 (.t 5) 3⟩,
       ⟨(some 16), none, .fa 31 (.t 5) 4⟩,
       ⟨(some 17), none, .fa 31 (.t 5) 5⟩,
       ⟨(some 18), none, .fa 31 (.t 5) 6⟩,
       ⟨(some 19), none, .bsl 68 6 [(0, .t 13), (1, .t 14), (2, .t 15), (3, .t 16), (4, .t 17), (5, .t 18)]⟩,
       ⟨(some 20), none, .bi .len [68] [.t 19]⟩,
       ⟨(some 21), none, .mv (.i .i64 0)⟩])
     (.block 0 (.loop (.seq (.reg [⟨(some 22), none, .bin .lss 3 (.t 21) (.t 20)⟩])
        (.seq (.cond (.t 22)
          (.skip)
          (.exit 0))
         (.seq (.block 1 (.seq (.reg [⟨(some 23), none, .ia 68 (.t 19) (.t 21)⟩,
              ⟨(some 24), none, .ld 67 (.t 23)⟩,
              ⟨(some 7), none, .mv (.t 24)⟩])
            (.reg [⟨(some 25), none, .mv (.t 7)⟩,
              ⟨(some 26), none, .mv (.t 4)⟩,
              ⟨(some 27), none, .call (.fn 43) [.t 26]⟩,
              ⟨(some 28), none, .nc (.t 25)⟩,
              ⟨none, none, .st 3 (.t 28) (.t 27)⟩])))
          (.reg [⟨(some 29), none, .bin .add 3 (.t 21) (.i .i64 1)⟩,
            ⟨(some 21), none, .mv (.t 29)⟩])))))))
    (.seq (.reg [⟨(some 30), none, .mv (.t 4)⟩,
       ⟨(some 31), none, .call (.fn 44) [.t 30]⟩,
       ⟨(some 32), none, .bin .eql 5 (.t 31) (.i .u8 1)⟩,
       ⟨(some 33), none, .fa 31 (.t 5) 7⟩,
       ⟨none, none, .st 4 (.t 33) (.t 32)⟩])
     (.seq (.seq (.reg [⟨(some 34), none, .mv (.t 4)⟩,
         ⟨(some 35), none, .call (.fn 45) [.t 34]⟩,
         ⟨(some 36), none, .mv (.t 35)⟩,
         ⟨(some 37), (some (36, false)), .ld 31 (.t 5)⟩,
         ⟨(some 38), (some (36, false)), .call (.fn 23) [.t 37]⟩,
         ⟨(some 39), (some (36, false)), .un .not (.t 38)⟩,
         ⟨(some 40), none, .pk (.t 36) (.b true) (.t 39)⟩,
         ⟨(some 41), none, .mv (.t 40)⟩,
         ⟨(some 42), (some (41, false)), .mv (.t 0)⟩,
         ⟨(some 43), (some (41, false)), .ld 31 (.t 5)⟩,
         ⟨(some 44), (some (41, false)), .call (.fn 20) [.t 43]⟩,
         ⟨(some 45), (some (41, false)), .call (.fn 46) [.t 42, .t 44]⟩,
         ⟨(some 46), (some (41, false)), .un .not (.t 45)⟩,
         ⟨(some 47), none, .pk (.t 41) (.b true) (.t 46)⟩])
       (.cond (.t 47)
        (.seq (.reg [⟨(some 48), none, .bld 31 []⟩,
           ⟨none, none, .st 31 (.t 2) (.t 48)⟩,
           ⟨(some 3), none, .mv (.i .i64 2)⟩])
         (.ret))
        (.skip)))
      (.seq (.reg [⟨(some 49), none, .ld 31 (.t 5)⟩,
         ⟨none, none, .st 31 (.t 2) (.t 49)⟩,
         ⟨(some 3), none, .mv (.i .i64 0)⟩])
       (.ret)))))))

/-- cartridge/record.RightHead -/
def k23 : KC :=
 .seq (.reg [⟨(some 1), none, .box 31 (.t 0)⟩,
   ⟨(some 2), none, .mv (.b false)⟩])
 (.seq (.seq (.reg [⟨(some 3), none, .fa 31 (.t 1) 0⟩,
     ⟨(some 4), none, .ld 9 (.t 3)⟩,
     ⟨(some 5), none, .call (.fn 11) [.t 4]⟩,
     ⟨(some 6), none, .un .not (.t 5)⟩,
     ⟨(some 7), none, .mv (.t 6)⟩,
     ⟨(some 8), (some (7, false)), .fa 31 (.t 1) 1⟩,
     ⟨(some 9), (some (7, false)), .ld 3 (.t 8)⟩,
     ⟨(some 10), (some (7, false)), .call (.fn 51) [.t 9, .i .i64 1, .i .i64 1073741824]⟩,
     ⟨(some 11), (some (7, false)), .un .not (.t 10)⟩,
     ⟨(some 12), none, .pk (.t 7) (.b true) (.t 11)⟩,
     ⟨(some 13), none, .mv (.t 12)⟩,
     ⟨(some 14), (some (13, false)), .fa 31 (.t 1) 5⟩,
     ⟨(some 15), (some (13, false)), .ld 3 (.t 14)⟩,
     ⟨(some 16), (some (13, false)), .call (.fn 51) [.t 15, .i .i64 1, .i .i64 1073741824]⟩,
     ⟨(some 17), (some (13, false)), .un .not (.t 16)⟩,
     ⟨(some 18), none, .pk (.t 13) (.b true) (.t 17)⟩,
     ⟨(some 19), none, .mv (.t 18)⟩,
     ⟨(some 20), (some (19, false)), .fa 31 (.t 1) 2⟩,
     ⟨(some 21), (some (19, false)), .ld 3 (.t 20)⟩,
     ⟨(some 22), (some (19, false)), .call (.fn 51) [.t 21, .i .i64 0, .i .i64 4000]⟩,
     ⟨(some 23), (some (19, false)), .un .not (.t 22)⟩,
     ⟨(some 24), none, .pk (.t 19) (.b true) (.t 23)⟩,
     ⟨(some 25), none, .mv (.t 24)⟩,
     ⟨(some 26), (some (25, false)), .fa 31 (.t 1) 6⟩,
     ⟨(some 27), (some (25, false)), .ld 3 (.t 26)⟩,
     ⟨(some 28), (some (25, false)), .call (.fn 51) [.t 27, .i .i64 0, .i .i64 4294967295]⟩,
     ⟨(some 29), (some (25, false)), .un .not (.t 28)⟩,
     ⟨(some 30), none, .pk (.t 25) (.b true) (.t 29)⟩])
   (.cond (.t 30)
    (.seq (.reg [⟨(some 2), none, .mv (.b false)⟩])
     (.ret))
    (.skip)))
  (.seq (.seq (.reg [⟨(some 31), none, .fa 31 (.t 1) 3⟩,
      ⟨(some 32), none, .ld 3 (.t 31)⟩,
      ⟨(some 33), none, .fa 31 (.t 1) 2⟩,
      ⟨(some 34), none, .ld 3 (.t 33)⟩,
      ⟨(some 35), none, .call (.fn 51) [.t 32, .i .i64 0, .t 34]⟩,
      ⟨(some 36), none, .un .not (.t 35)⟩,
      ⟨(some 37), none, .mv (.t 36)⟩,
      ⟨(some 38), (some (37, false)), .fa 31 (.t 1) 4⟩,
      ⟨(some 39), (some (37, false)), .ld 3 (.t 38)⟩,
      ⟨(some 40), (some (37, false)), .fa 31 (.t 1) 2⟩,
      ⟨(some 41), (some (37, false)), .ld 3 (.t 40)⟩,
      ⟨(some 42), (some (37, false)), .fa 31 (.t 1) 3⟩,
      ⟨(some 43), (some (37, false)), .ld 3 (.t 42)⟩,
      ⟨(some 44), (some (37, false)), .bin .sub 3 (.t 41) (.t 43)⟩,
      ⟨(some 45), (some (37, false)), .call (.fn 51) [.t 39, .i .i64 0, .t 44]⟩,
      ⟨(some 46), (some (37, false)), .un .not (.t 45)⟩,
      ⟨(some 47), none, .pk (.t 37) (.b true) (.t 46)⟩,
      ⟨(some 48), none, .mv (.t 47)⟩,
      ⟨(some 49), (some (48, false)), .fa 31 (.t 1) 4⟩,
      ⟨(some 50), (some (48, false)), .ld 3 (.t 49)⟩,
      ⟨(some 51), (some (48, false)), .bin .eql 3 (.t 50) (.i .i64 0)⟩,
      ⟨(some 52), (some (48, false)), .mv (.t 51)⟩,
      ⟨(some 53), (some (52, true)), .fa 31 (.t 1) 2⟩,
      ⟨(some 54), (some (52, true)), .ld 3 (.t 53)⟩,
      ⟨(some 55), (some (52, true)), .bin .gtr 3 (.t 54) (.i .i64 0)⟩,
      ⟨(some 56), (some (48, false)), .pk (.t 52) (.t 55) (.b false)⟩,
      ⟨(some 57), none, .pk (.t 48) (.b true) (.t 56)⟩])
    (.cond (.t 57)
     (.seq (.reg [⟨(some 2), none, .mv (.b false)⟩])
      (.ret))
     (.skip)))
   (.seq (.reg [⟨(some 58), none, .fa 31 (.t 1) 7⟩,
      ⟨(some 59), none, .ld 4 (.t 58)⟩,
      ⟨(some 60), none, .un .not (.t 59)⟩,
      ⟨(some 61), none, .mv (.t 60)⟩,
      ⟨(some 62), (some (61, false)), .fa 31 (.t 1) 2⟩,
      ⟨(some 63), (some (61, false)), .ld 3 (.t 62)⟩,
      ⟨(some 64), (some (61, false)), .bin .eql 3 (.t 63) (.i .i64 0)⟩,
      ⟨(some 65), (some (61, false)), .mv (.t 64)⟩,
      ⟨(some 66), (some (65, true)), .fa 31 (.t 1) 6⟩,
      ⟨(some 67), (some (65, true)), .ld 3 (.t 66)⟩,
      ⟨(some 68), (some (65, true)), .bin .eql 3 (.t 67) (.i .i64 0)⟩,
      ⟨(some 69), (some (61, false)), .pk (.t 65) (.t 68) (.b false)⟩,
      ⟨(some 70), none, .pk (.t 61) (.b true) (.t 69)⟩,
      ⟨(some 2), none, .mv (.t 70)⟩])
    (.ret))))
theorem b23 : Body Tryd.prog 23 71 [2] k23 := ⟨Enters.of Tryd.func23 (by kernel_rfl) (by kernel_rfl), _, _, Tryd.func23, rfl, by kernel_rfl, rfl, rfl⟩

/-- cartridge/cartridgelaw10.num -/
def k25 : KC :=
 .seq (.reg [⟨(some 2), none, .mv (.i .i64 0)⟩])
 (.seq (.reg [⟨(some 3), none, .mv (.t 0)⟩,
    ⟨(some 2), none, .mv (.t 3)⟩])
  (.ret))
theorem b25 : Body Tryd.prog 25 4 [2] k25 := ⟨Enters.of Tryd.func25 (by kernel_rfl) (by kernel_rfl), _, _, Tryd.func25, rfl, by kernel_rfl, rfl, rfl⟩

/-- cartridge/cartridgeref10.RightSeal -/
noncomputable def drw26_0 : Array Oper := ((Tryd.f26.body.map regs).getD []).getD 0 #[]
noncomputable def k26 : KC :=
 .seq (.reg [⟨(some 1), none, .box 45 (.t 0)⟩,
   ⟨(some 2), none, .mv (.b false)⟩])
 (.seq (.seq (.reg [⟨(some 5), none, .fa 45 (.t 1) 0⟩,
     ⟨(some 6), none, .ld 3 (.t 5)⟩,
     ⟨(some 7), none, .bin .lss 3 (.t 6) (.i .i64 1)⟩,
     ⟨(some 8), none, .mv (.t 7)⟩,
     ⟨(some 9), (some (8, false)), .fa 45 (.t 1) 0⟩,
     ⟨(some 10), (some (8, false)), .ld 3 (.t 9)⟩,
     ⟨(some 11), (some (8, false)), .bin .gtr 3 (.t 10) (.i .i64 1073741824)⟩,
     ⟨(some 12), none, .pk (.t 8) (.b true) (.t 11)⟩,
     ⟨(some 13), none, .mv (.t 12)⟩,
     ⟨(some 14), (some (13, false)), .fa 45 (.t 1) 2⟩,
     ⟨(some 15), (some (13, false)), .ld 3 (.t 14)⟩,
     ⟨(some 16), (some (13, false)), .bin .lss 3 (.t 15) (.i .i64 1)⟩,
     ⟨(some 17), none, .pk (.t 13) (.b true) (.t 16)⟩,
     ⟨(some 18), none, .mv (.t 17)⟩,
     ⟨(some 19), (some (18, false)), .fa 45 (.t 1) 3⟩,
     ⟨(some 20), (some (18, false)), .ld 3 (.t 19)⟩,
     ⟨(some 21), (some (18, false)), .bin .lss 3 (.t 20) (.i .i64 1)⟩,
     ⟨(some 22), none, .pk (.t 18) (.b true) (.t 21)⟩,
     ⟨(some 23), none, .mv (.t 22)⟩,
     ⟨(some 24), (some (23, false)), .fa 45 (.t 1) 2⟩,
     ⟨(some 25), (some (23, false)), .ld 3 (.t 24)⟩,
     ⟨(some 26), (some (23, false)), .bin .gtr 3 (.t 25) (.i .i64 14)⟩,
     ⟨(some 27), none, .pk (.t 23) (.b true) (.t 26)⟩,
     ⟨(some 28), none, .mv (.t 27)⟩,
     ⟨(some 29), (some (28, false)), .fa 45 (.t 1) 3⟩,
     ⟨(some 30), (some (28, false)), .ld 3 (.t 29)⟩,
     ⟨(some 31), (some (28, false)), .bin .gtr 3 (.t 30) (.i .i64 14)⟩,
     ⟨(some 32), none, .pk (.t 28) (.b true) (.t 31)⟩,
     ⟨(some 33), none, .mv (.t 32)⟩,
     ⟨(some 34), (some (33, false)), .fa 45 (.t 1) 2⟩,
     ⟨(some 35), (some (33, false)), .ld 3 (.t 34)⟩,
     ⟨(some 36), (some (33, false)), .fa 45 (.t 1) 3⟩,
     ⟨(some 37), (some (33, false)), .ld 3 (.t 36)⟩,
     ⟨(some 38), (some (33, false)), .bin .add 3 (.t 35) (.t 37)⟩,
     ⟨(some 39), (some (33, false)), .bin .gtr 3 (.t 38) (.i .i64 14)⟩,
     ⟨(some 40), none, .pk (.t 33) (.b true) (.t 39)⟩,
     ⟨(some 41), none, .mv (.t 40)⟩,
     ⟨(some 42), (some (41, false)), .fa 45 (.t 1) 4⟩,
     ⟨(some 43), (some (41, false)), .ld 43 (.t 42)⟩,
     ⟨(some 44), (some (41, false)), .bi .len [43] [.t 43]⟩,
     ⟨(some 45), (some (41, false)), .fa 45 (.t 1) 2⟩,
     ⟨(some 46), (some (41, false)), .ld 3 (.t 45)⟩,
     ⟨(some 47), (some (41, false)), .fa 45 (.t 1) 3⟩,
     ⟨(some 48), (some (41, false)), .ld 3 (.t 47)⟩,
     ⟨(some 49), (some (41, false)), .bin .add 3 (.t 46) (.t 48)⟩,
     ⟨(some 50), (some (41, false)), .bin .neq 3 (.t 44) (.t 49)⟩,
     ⟨(some 51), none, .pk (.t 41) (.b true) (.t 50)⟩,
     ⟨(some 52), none, .mv (.t 51)⟩,
     ⟨(some 53), (some (52, false)), .fa 45 (.t 1) 1⟩,
     ⟨(some 54), (some (52, false)), .ld 3 (.t 53)⟩,
     ⟨(some 55), (some (52, false)), .bin .lss 3 (.t 54) (.i .i64 0)⟩,
     ⟨(some 56), none, .pk (.t 52) (.b true) (.t 55)⟩,
     ⟨(some 57), none, .mv (.t 56)⟩,
     ⟨(some 58), (some (57, false)), .fa 45 (.t 1) 1⟩,
     ⟨(some 59), (some (57, false)), .ld 3 (.t 58)⟩,
     ⟨(some 60), (some (57, false)), .fa 45 (.t 1) 4⟩,
     ⟨(some 61), (some (57, false)), .ld 43 (.t 60)⟩,
     ⟨(some 62), (some (57, false)), .bi .len [43] [.t 61]⟩,
     ⟨(some 63), (some (57, false)), .bin .geq 3 (.t 59) (.t 62)⟩,
     ⟨(some 64), none, .pk (.t 57) (.b true) (.t 63)⟩])
   (.cond (.t 64)
    (.seq (.reg [⟨(some 2), none, .mv (.b false)⟩])
     (.ret))
    (.skip)))
  (.seq (.seq (.reg [⟨(some 3), none, .mv (.i .i64 0)⟩])
    (.block 0 (.loop (.seq (.seq (.reg [⟨(some 65), none, .mv (.t 3)⟩,
          ⟨(some 66), none, .fa 45 (.t 1) 4⟩,
          ⟨(some 67), none, .ld 43 (.t 66)⟩,
          ⟨(some 68), none, .bi .len [43] [.t 67]⟩,
          ⟨(some 69), none, .bin .lss 3 (.t 65) (.t 68)⟩])
        (.cond (.t 69)
         (.skip)
         (.exit 0)))
       (.seq (.block 1 (.seq (.seq (.reg [⟨(some 72), none, .fa 45 (.t 1) 4⟩,
             ⟨(some 73), none, .ld 43 (.t 72)⟩,
             ⟨(some 74), none, .mv (.t 3)⟩,
             ⟨(some 75), none, .ia 43 (.t 73) (.t 74)⟩,
             ⟨(some 76), none, .ld 3 (.t 75)⟩,
             ⟨(some 77), none, .bin .lss 3 (.t 76) (.i .i64 1)⟩,
             ⟨(some 78), none, .mv (.t 77)⟩,
             ⟨(some 79), (some (78, false)), .fa 45 (.t 1) 4⟩,
             ⟨(some 80), (some (78, false)), .ld 43 (.t 79)⟩,
             ⟨(some 81), (some (78, false)), .mv (.t 3)⟩,
             ⟨(some 82), (some (78, false)), .ia 43 (.t 80) (.t 81)⟩,
             ⟨(some 83), (some (78, false)), .ld 3 (.t 82)⟩,
             ⟨(some 84), (some (78, false)), .bin .gtr 3 (.t 83) (.i .i64 2147483647)⟩,
             ⟨(some 85), none, .pk (.t 78) (.b true) (.t 84)⟩])
           (.cond (.t 85)
            (.seq (.reg [⟨(some 2), none, .mv (.b false)⟩])
             (.ret))
            (.skip)))
          (.seq (.reg [⟨(some 4), none, .mv (.i .i64 0)⟩])
           (.block 2 (.loop (.seq (.seq (.reg [⟨(some 86), none, .mv (.t 4)⟩,
                 ⟨(some 87), none, .mv (.t 3)⟩,
                 ⟨(some 88), none, .bin .lss 3 (.t 86) (.t 87)⟩])
               (.cond (.t 88)
                (.skip)
                (.exit 2)))
              (.seq (.block 3 (.seq (.drw drw26_0 [⟨(some 91), none, .fa 45 (.t 1) 4⟩,
                   ⟨(some 92), none, .ld 43 (.t 91)⟩,
                   ⟨(some 93), none, .mv (.t 4)⟩,
                   ⟨(some 94), none, .ia 43 (.t 92) (.t 93)⟩,
                   ⟨(some 95), none, .ld 3 (.t 94)⟩,
                   ⟨(some 96), none, .fa 45 (.t 1) 4⟩,
                   ⟨(some 97), none, .ld 43 (.t 96)⟩,
                   ⟨(some 98), none, .mv (.t 3)⟩,
                   ⟨(some 99), none, .ia 43 (.t 97) (.t 98)⟩,
                   ⟨(some 100), none, .ld 3 (.t 99)⟩,
                   ⟨(some 101), none, .bin .eql 3 (.t 95) (.t 100)⟩])
                 (.cond (.t 101)
                  (.seq (.reg [⟨(some 2), none, .mv (.b false)⟩])
                   (.ret))
                  (.skip))))
               (.reg [⟨(some 89), none, .mv (.t 4)⟩,
                 ⟨(some 90), none, .bin .add 3 (.t 89) (.i .i64 1)⟩,
                 ⟨(some 4), none, .mv (.t 90)⟩]))))))))
        (.reg [⟨(some 70), none, .mv (.t 3)⟩,
          ⟨(some 71), none, .bin .add 3 (.t 70) (.i .i64 1)⟩,
          ⟨(some 3), none, .mv (.t 71)⟩]))))))
   (.seq (.reg [⟨(some 2), none, .mv (.b true)⟩])
    (.ret))))
theorem b26 : Body Tryd.prog 26 102 [2] k26 := ⟨Enters.of Tryd.func26 (by kernel_rfl) (by kernel_rfl), _, _, Tryd.func26, rfl, by kernel_rfl, rfl, rfl⟩

/-- cartridge/record.SealBytes -/
def k27 : KC :=
 .seq (.reg [⟨(some 1), none, .box 45 (.t 0)⟩,
   ⟨(some 2), none, .mv (.ns)⟩])
 (.seq (.seq (.reg [⟨(some 8), none, .ld 45 (.t 1)⟩,
     ⟨(some 9), none, .call (.fn 30) [.t 8]⟩,
     ⟨(some 10), none, .un .not (.t 9)⟩])
   (.cond (.t 10)
    (.seq (.reg [⟨(some 2), none, .mv (.ns)⟩])
     (.ret))
    (.skip)))
  (.seq (.reg [⟨(some 11), none, .bld 59 []⟩,
     ⟨(some 12), none, .box 59 (.t 11)⟩,
     ⟨(some 3), none, .mv (.t 12)⟩])
   (.seq (.reg [⟨(some 13), none, .mv (.t 3)⟩,
      ⟨(some 14), none, .fa 45 (.t 1) 0⟩,
      ⟨(some 15), none, .ld 3 (.t 14)⟩,
      ⟨(some 16), none, .call (.fn 38) [.t 13, .t 15]⟩])
    (.seq (.seq (.reg [⟨(some 17), none, .fa 45 (.t 1) 1⟩,
        ⟨(some 18), none, .ld 3 (.t 17)⟩,
        ⟨(some 19), none, .fa 45 (.t 1) 2⟩,
        ⟨(some 20), none, .ld 3 (.t 19)⟩,
        ⟨(some 21), none, .fa 45 (.t 1) 3⟩,
        ⟨(some 22), none, .ld 3 (.t 21)⟩,
        ⟨(some 23), none, .bsl 43 3 [(0, .t 18), (1, .t 20), (2, .t 22)]⟩,
        ⟨(some 24), none, .bi .len [43] [.t 23]⟩,
        ⟨(some 25), none, .mv (.i .i64 0)⟩])
      (.block 0 (.loop (.seq (.reg [⟨(some 26), none, .bin .lss 3 (.t 25) (.t 24)⟩])
         (.seq (.cond (.t 26)
           (.skip)
           (.exit 0))
          (.seq (.block 1 (.seq (.reg [⟨(some 27), none, .ia 43 (.t 23) (.t 25)⟩,
               ⟨(some 28), none, .ld 3 (.t 27)⟩,
               ⟨(some 5), none, .mv (.t 28)⟩])
             (.reg [⟨(some 29), none, .mv (.t 3)⟩,
               ⟨(some 30), none, .mv (.t 5)⟩,
               ⟨(some 31), none, .cvt 3 5 (.t 30)⟩,
               ⟨(some 32), none, .call (.fn 39) [.t 29, .t 31]⟩])))
           (.reg [⟨(some 33), none, .bin .add 3 (.t 25) (.i .i64 1)⟩,
             ⟨(some 25), none, .mv (.t 33)⟩])))))))
     (.seq (.seq (.reg [⟨(some 34), none, .fa 45 (.t 1) 4⟩,
         ⟨(some 35), none, .ld 43 (.t 34)⟩,
         ⟨(some 36), none, .bi .len [43] [.t 35]⟩,
         ⟨(some 37), none, .mv (.i .i64 0)⟩])
       (.block 2 (.loop (.seq (.reg [⟨(some 38), none, .bin .lss 3 (.t 37) (.t 36)⟩])
          (.seq (.cond (.t 38)
            (.skip)
            (.exit 2))
           (.seq (.block 3 (.seq (.reg [⟨(some 39), none, .ia 43 (.t 35) (.t 37)⟩,
                ⟨(some 40), none, .ld 3 (.t 39)⟩,
                ⟨(some 7), none, .mv (.t 40)⟩])
              (.reg [⟨(some 41), none, .mv (.t 3)⟩,
                ⟨(some 42), none, .mv (.t 7)⟩,
                ⟨(some 43), none, .call (.fn 38) [.t 41, .t 42]⟩])))
            (.reg [⟨(some 44), none, .bin .add 3 (.t 37) (.i .i64 1)⟩,
              ⟨(some 37), none, .mv (.t 44)⟩])))))))
      (.seq (.reg [⟨(some 45), none, .mv (.t 3)⟩,
         ⟨(some 46), none, .call (.fn 40) [.t 45]⟩,
         ⟨(some 2), none, .mv (.t 46)⟩])
       (.ret)))))))
theorem b27 : Body Tryd.prog 27 47 [2] k27 := ⟨Enters.of Tryd.func27 (by kernel_rfl) (by kernel_rfl), _, _, Tryd.func27, rfl, by kernel_rfl, rfl, rfl⟩

/-- cartridge/record.ReadSeal -/
noncomputable def drw28_0 : Array Oper := ((Tryd.f28.body.map regs).getD []).getD 0 #[]
noncomputable def k28 : KC :=
 .seq (.reg [⟨(some 2), none, .al 45⟩,
   ⟨(some 3), none, .mv (.i .i64 0)⟩])
 (.seq (.reg [⟨(some 8), none, .mv (.t 0)⟩,
    ⟨(some 9), none, .call (.fn 41) [.t 8]⟩,
    ⟨(some 4), none, .mv (.t 9)⟩])
  (.seq (.reg [⟨(some 10), none, .mv (.t 4)⟩,
     ⟨(some 11), none, .call (.fn 43) [.t 10]⟩,
     ⟨(some 12), none, .bld 45 [(0, .t 11)]⟩,
     ⟨(some 5), none, .al 45⟩,
     ⟨none, none, .st 45 (.t 5) (.t 12)⟩])
   (.seq (.seq (.reg [⟨(some 13), none, .fa 45 (.t 5) 1⟩,
       ⟨(some 14), none, .fa 45 (.t 5) 2⟩,
       ⟨(some 15), none, .fa 45 (.t 5) 3⟩,
       ⟨(some 16), none, .bsl 68 3 [(0, .t 13), (1, .t 14), (2, .t 15)]⟩,
       ⟨(some 17), none, .bi .len [68] [.t 16]⟩,
       ⟨(some 18), none, .mv (.i .i64 0)⟩])
     (.block 0 (.loop (.seq (.reg [⟨(some 19), none, .bin .lss 3 (.t 18) (.t 17)⟩])
        (.seq (.cond (.t 19)
          (.skip)
          (.exit 0))
         (.seq (.block 1 (.seq (.reg [⟨(some 20), none, .ia 68 (.t 16) (.t 18)⟩,
              ⟨(some 21), none, .ld 67 (.t 20)⟩,
              ⟨(some 7), none, .mv (.t 21)⟩])
            (.reg [⟨(some 22), none, .mv (.t 7)⟩,
              ⟨(some 23), none, .mv (.t 4)⟩,
              ⟨(some 24), none, .call (.fn 44) [.t 23]⟩,
              ⟨(some 25), none, .cvt 5 3 (.t 24)⟩,
              ⟨(some 26), none, .nc (.t 22)⟩,
              ⟨none, none, .st 3 (.t 26) (.t 25)⟩])))
          (.reg [⟨(some 27), none, .bin .add 3 (.t 18) (.i .i64 1)⟩,
            ⟨(some 18), none, .mv (.t 27)⟩])))))))
    (.seq (.block 2 (.loop (.seq (.seq (.reg [⟨(some 28), none, .mv (.t 4)⟩,
           ⟨(some 29), none, .call (.fn 55) [.t 28]⟩,
           ⟨(some 30), none, .bin .gtr 3 (.t 29) (.i .i64 0)⟩])
         (.cond (.t 30)
          (.skip)
          (.exit 2)))
        (.block 3 (.drw drw28_0 [⟨(some 31), none, .fa 45 (.t 5) 4⟩,
           ⟨(some 32), none, .ld 43 (.t 31)⟩,
           ⟨(some 33), none, .mv (.t 4)⟩,
           ⟨(some 34), none, .call (.fn 43) [.t 33]⟩,
           ⟨(some 35), none, .bsl 43 1 [(0, .t 34)]⟩,
           ⟨(some 36), none, .bi .append [43, 43] [.t 32, .t 35]⟩,
           ⟨(some 37), none, .fa 45 (.t 5) 4⟩,
           ⟨none, none, .st 43 (.t 37) (.t 36)⟩])))))
     (.seq (.seq (.reg [⟨(some 38), none, .mv (.t 4)⟩,
         ⟨(some 39), none, .call (.fn 45) [.t 38]⟩,
         ⟨(some 40), none, .mv (.t 39)⟩,
         ⟨(some 41), (some (40, false)), .ld 45 (.t 5)⟩,
         ⟨(some 42), (some (40, false)), .call (.fn 30) [.t 41]⟩,
         ⟨(some 43), (some (40, false)), .un .not (.t 42)⟩,
         ⟨(some 44), none, .pk (.t 40) (.b true) (.t 43)⟩])
       (.cond (.t 44)
        (.seq (.reg [⟨(some 45), none, .bld 45 []⟩,
           ⟨none, none, .st 45 (.t 2) (.t 45)⟩,
           ⟨(some 3), none, .mv (.i .i64 2)⟩])
         (.ret))
        (.skip)))
      (.seq (.reg [⟨(some 46), none, .ld 45 (.t 5)⟩,
         ⟨none, none, .st 45 (.t 2) (.t 46)⟩,
         ⟨(some 3), none, .mv (.i .i64 0)⟩])
       (.ret)))))))

/-- cartridge/record.RightSeal -/
def k30 : KC :=
 .seq (.reg [⟨(some 1), none, .box 45 (.t 0)⟩,
   ⟨(some 2), none, .mv (.b false)⟩])
 (.seq (.seq (.reg [⟨(some 6), none, .fa 45 (.t 1) 0⟩,
     ⟨(some 7), none, .ld 3 (.t 6)⟩,
     ⟨(some 8), none, .call (.fn 51) [.t 7, .i .i64 1, .i .i64 1073741824]⟩,
     ⟨(some 9), none, .un .not (.t 8)⟩,
     ⟨(some 10), none, .mv (.t 9)⟩,
     ⟨(some 11), (some (10, false)), .fa 45 (.t 1) 2⟩,
     ⟨(some 12), (some (10, false)), .ld 3 (.t 11)⟩,
     ⟨(some 13), (some (10, false)), .call (.fn 51) [.t 12, .i .i64 1, .i .i64 14]⟩,
     ⟨(some 14), (some (10, false)), .un .not (.t 13)⟩,
     ⟨(some 15), none, .pk (.t 10) (.b true) (.t 14)⟩,
     ⟨(some 16), none, .mv (.t 15)⟩,
     ⟨(some 17), (some (16, false)), .fa 45 (.t 1) 3⟩,
     ⟨(some 18), (some (16, false)), .ld 3 (.t 17)⟩,
     ⟨(some 19), (some (16, false)), .fa 45 (.t 1) 2⟩,
     ⟨(some 20), (some (16, false)), .ld 3 (.t 19)⟩,
     ⟨(some 21), (some (16, false)), .bin .sub 3 (.i .i64 14) (.t 20)⟩,
     ⟨(some 22), (some (16, false)), .call (.fn 51) [.t 18, .i .i64 1, .t 21]⟩,
     ⟨(some 23), (some (16, false)), .un .not (.t 22)⟩,
     ⟨(some 24), none, .pk (.t 16) (.b true) (.t 23)⟩])
   (.cond (.t 24)
    (.seq (.reg [⟨(some 2), none, .mv (.b false)⟩])
     (.ret))
    (.skip)))
  (.seq (.reg [⟨(some 25), none, .fa 45 (.t 1) 2⟩,
     ⟨(some 26), none, .ld 3 (.t 25)⟩,
     ⟨(some 27), none, .fa 45 (.t 1) 3⟩,
     ⟨(some 28), none, .ld 3 (.t 27)⟩,
     ⟨(some 29), none, .bin .add 3 (.t 26) (.t 28)⟩,
     ⟨(some 3), none, .mv (.t 29)⟩])
   (.seq (.seq (.reg [⟨(some 30), none, .fa 45 (.t 1) 1⟩,
       ⟨(some 31), none, .ld 3 (.t 30)⟩,
       ⟨(some 32), none, .mv (.t 3)⟩,
       ⟨(some 33), none, .bin .sub 3 (.t 32) (.i .i64 1)⟩,
       ⟨(some 34), none, .call (.fn 51) [.t 31, .i .i64 0, .t 33]⟩,
       ⟨(some 35), none, .un .not (.t 34)⟩,
       ⟨(some 36), none, .mv (.t 35)⟩,
       ⟨(some 37), (some (36, false)), .fa 45 (.t 1) 4⟩,
       ⟨(some 38), (some (36, false)), .ld 43 (.t 37)⟩,
       ⟨(some 39), (some (36, false)), .bi .len [43] [.t 38]⟩,
       ⟨(some 40), (some (36, false)), .mv (.t 3)⟩,
       ⟨(some 41), (some (36, false)), .bin .neq 3 (.t 39) (.t 40)⟩,
       ⟨(some 42), none, .pk (.t 36) (.b true) (.t 41)⟩])
     (.cond (.t 42)
      (.seq (.reg [⟨(some 2), none, .mv (.b false)⟩])
       (.ret))
      (.skip)))
    (.seq (.seq (.reg [⟨(some 43), none, .fa 45 (.t 1) 4⟩,
        ⟨(some 44), none, .ld 43 (.t 43)⟩,
        ⟨(some 45), none, .bi .len [43] [.t 44]⟩,
        ⟨(some 46), none, .mv (.i .i64 0)⟩])
      (.block 0 (.loop (.seq (.reg [⟨(some 47), none, .bin .lss 3 (.t 46) (.t 45)⟩])
         (.seq (.cond (.t 47)
           (.skip)
           (.exit 0))
          (.seq (.block 1 (.seq (.reg [⟨(some 48), none, .mv (.t 46)⟩,
               ⟨(some 49), none, .ia 43 (.t 44) (.t 46)⟩,
               ⟨(some 50), none, .ld 3 (.t 49)⟩,
               ⟨(some 4), none, .mv (.t 48)⟩,
               ⟨(some 5), none, .mv (.t 50)⟩])
             (.seq (.reg [⟨(some 51), none, .mv (.t 5)⟩,
                ⟨(some 52), none, .call (.fn 51) [.t 51, .i .i64 1, .i .i64 2147483647]⟩,
                ⟨(some 53), none, .un .not (.t 52)⟩,
                ⟨(some 54), none, .mv (.t 53)⟩,
                ⟨(some 55), (some (54, false)), .fa 45 (.t 1) 4⟩,
                ⟨(some 56), (some (54, false)), .ld 43 (.t 55)⟩,
                ⟨(some 57), (some (54, false)), .mv (.t 4)⟩,
                ⟨(some 58), (some (54, false)), .sli 43 (.t 56) none (some (.t 57)) none⟩,
                ⟨(some 59), (some (54, false)), .mv (.t 5)⟩,
                ⟨(some 60), (some (54, false)), .call (.fn 57) [.t 58, .t 59]⟩,
                ⟨(some 61), none, .pk (.t 54) (.b true) (.t 60)⟩])
              (.cond (.t 61)
               (.seq (.reg [⟨(some 2), none, .mv (.b false)⟩])
                (.ret))
               (.skip)))))
           (.reg [⟨(some 62), none, .bin .add 3 (.t 46) (.i .i64 1)⟩,
             ⟨(some 46), none, .mv (.t 62)⟩])))))))
     (.seq (.reg [⟨(some 2), none, .mv (.b true)⟩])
      (.ret))))))
theorem b30 : Body Tryd.prog 30 63 [2] k30 := ⟨Enters.of Tryd.func30 (by kernel_rfl) (by kernel_rfl), _, _, Tryd.func30, rfl, by kernel_rfl, rfl, rfl⟩

/-- slices.ContainsFunc[[]string,string] -/
def k33 : KC :=
 .seq (.reg [⟨(some 4), none, .mv (.b false)⟩])
 (.seq (.reg [⟨(some 5), none, .mv (.t 0)⟩,
    ⟨(some 6), none, .mv (.t 1)⟩,
    ⟨(some 7), none, .call (.fn 58) [.t 5, .t 6]⟩,
    ⟨(some 8), none, .bin .geq 3 (.t 7) (.i .i64 0)⟩,
    ⟨(some 4), none, .mv (.t 8)⟩])
  (.ret))
theorem b33 : Body Tryd.prog 33 9 [4] k33 := ⟨Enters.of Tryd.func33 (by kernel_rfl) (by kernel_rfl), _, _, Tryd.func33, rfl, by kernel_rfl, rfl, rfl⟩

/-- strings.Split -/
def k34 : KC :=
 .seq (.reg [⟨(some 4), none, .mv (.ns)⟩])
 (.seq (.reg [⟨(some 5), none, .mv (.t 0)⟩,
    ⟨(some 6), none, .mv (.t 1)⟩,
    ⟨(some 7), none, .call (.fn 59) [.t 5, .t 6, .i .i64 0, .i .i64 (-1)]⟩,
    ⟨(some 4), none, .mv (.t 7)⟩])
  (.ret))
theorem b34 : Body Tryd.prog 34 8 [4] k34 := ⟨Enters.of Tryd.func34 (by kernel_rfl) (by kernel_rfl), _, _, Tryd.func34, rfl, by kernel_rfl, rfl, rfl⟩

/-- cartridge/path.wrong -/
def k35 : KC :=
 .seq (.reg [⟨(some 2), none, .mv (.b false)⟩])
 (.seq (.reg [⟨(some 3), none, .mv (.t 0)⟩,
    ⟨(some 4), none, .bin .eql 9 (.t 3) (.s ⟨#[]⟩)⟩,
    ⟨(some 5), none, .mv (.t 4)⟩,
    ⟨(some 6), (some (5, false)), .mv (.t 0)⟩,
    ⟨(some 7), (some (5, false)), .bin .eql 9 (.t 6) (.s ⟨#[46]⟩)⟩,
    ⟨(some 8), none, .pk (.t 5) (.b true) (.t 7)⟩,
    ⟨(some 9), none, .mv (.t 8)⟩,
    ⟨(some 10), (some (9, false)), .mv (.t 0)⟩,
    ⟨(some 11), (some (9, false)), .bin .eql 9 (.t 10) (.s ⟨#[46, 46]⟩)⟩,
    ⟨(some 12), none, .pk (.t 9) (.b true) (.t 11)⟩,
    ⟨(some 13), none, .mv (.t 12)⟩,
    ⟨(some 14), (some (13, false)), .mv (.t 0)⟩,
    ⟨(some 15), (some (13, false)), .call (.fn 60) [.t 14, .fn 61]⟩,
    ⟨(some 16), none, .pk (.t 13) (.b true) (.t 15)⟩,
    ⟨(some 2), none, .mv (.t 16)⟩])
  (.ret))
theorem b35 : Body Tryd.prog 35 17 [2] k35 := ⟨Enters.of Tryd.func35 (by kernel_rfl) (by kernel_rfl), _, _, Tryd.func35, rfl, by kernel_rfl, rfl, rfl⟩

/-- (*cartridge/code.Writer).Text -/
def k37 : KC :=
 .seq (.reg [⟨(some 4), none, .mv (.t 1)⟩,
   ⟨(some 5), none, .mv (.t 1)⟩,
   ⟨(some 6), none, .bi .len [9] [.t 5]⟩,
   ⟨(some 7), none, .bi .min [3, 3] [.t 6, .i .i64 255]⟩,
   ⟨(some 8), none, .sli 9 (.t 4) none (some (.t 7)) none⟩,
   ⟨(some 1), none, .mv (.t 8)⟩])
 (.seq (.reg [⟨(some 9), none, .mv (.t 0)⟩,
    ⟨(some 10), none, .mv (.t 0)⟩,
    ⟨(some 11), none, .nc (.t 10)⟩,
    ⟨(some 12), none, .fa 59 (.t 11) 0⟩,
    ⟨(some 13), none, .ld 32 (.t 12)⟩,
    ⟨(some 14), none, .mv (.t 1)⟩,
    ⟨(some 15), none, .bi .len [9] [.t 14]⟩,
    ⟨(some 16), none, .cvt 3 5 (.t 15)⟩,
    ⟨(some 17), none, .bsl 32 1 [(0, .t 16)]⟩,
    ⟨(some 18), none, .bi .append [32, 32] [.t 13, .t 17]⟩,
    ⟨(some 19), none, .nc (.t 9)⟩,
    ⟨(some 20), none, .fa 59 (.t 19) 0⟩,
    ⟨none, none, .st 32 (.t 20) (.t 18)⟩])
  (.reg [⟨(some 21), none, .mv (.t 0)⟩,
    ⟨(some 22), none, .mv (.t 0)⟩,
    ⟨(some 23), none, .nc (.t 22)⟩,
    ⟨(some 24), none, .fa 59 (.t 23) 0⟩,
    ⟨(some 25), none, .ld 32 (.t 24)⟩,
    ⟨(some 26), none, .mv (.t 1)⟩,
    ⟨(some 27), none, .bi .append [32, 9] [.t 25, .t 26]⟩,
    ⟨(some 28), none, .nc (.t 21)⟩,
    ⟨(some 29), none, .fa 59 (.t 28) 0⟩,
    ⟨none, none, .st 32 (.t 29) (.t 27)⟩]))
theorem b37 : Body Tryd.prog 37 30 [] k37 := ⟨Enters.of Tryd.func37 (by kernel_rfl) (by kernel_rfl), _, _, Tryd.func37, rfl, by kernel_rfl, rfl, rfl⟩

/-- (*cartridge/code.Writer).Int -/
def k38 : KC :=
 .seq (.reg [⟨(some 5), none, .mv (.t 1)⟩,
   ⟨(some 6), none, .cvt 3 83 (.t 5)⟩,
   ⟨(some 4), none, .mv (.t 6)⟩])
 (.reg [⟨(some 7), none, .mv (.t 0)⟩,
   ⟨(some 8), none, .mv (.t 0)⟩,
   ⟨(some 9), none, .nc (.t 8)⟩,
   ⟨(some 10), none, .fa 59 (.t 9) 0⟩,
   ⟨(some 11), none, .ld 32 (.t 10)⟩,
   ⟨(some 12), none, .mv (.t 4)⟩,
   ⟨(some 13), none, .bin .shr 83 (.t 12) (.i .u64 24)⟩,
   ⟨(some 14), none, .cvt 83 5 (.t 13)⟩,
   ⟨(some 15), none, .mv (.t 4)⟩,
   ⟨(some 16), none, .bin .shr 83 (.t 15) (.i .u64 16)⟩,
   ⟨(some 17), none, .cvt 83 5 (.t 16)⟩,
   ⟨(some 18), none, .mv (.t 4)⟩,
   ⟨(some 19), none, .bin .shr 83 (.t 18) (.i .u64 8)⟩,
   ⟨(some 20), none, .cvt 83 5 (.t 19)⟩,
   ⟨(some 21), none, .mv (.t 4)⟩,
   ⟨(some 22), none, .cvt 83 5 (.t 21)⟩,
   ⟨(some 23), none, .bsl 32 4 [(0, .t 14), (1, .t 17), (2, .t 20), (3, .t 22)]⟩,
   ⟨(some 24), none, .bi .append [32, 32] [.t 11, .t 23]⟩,
   ⟨(some 25), none, .nc (.t 7)⟩,
   ⟨(some 26), none, .fa 59 (.t 25) 0⟩,
   ⟨none, none, .st 32 (.t 26) (.t 24)⟩])
theorem b38 : Body Tryd.prog 38 27 [] k38 := ⟨Enters.of Tryd.func38 (by kernel_rfl) (by kernel_rfl), _, _, Tryd.func38, rfl, by kernel_rfl, rfl, rfl⟩

/-- (*cartridge/code.Writer).Byte -/
def k39 : KC :=
 .reg [⟨(some 4), none, .mv (.t 0)⟩,
  ⟨(some 5), none, .mv (.t 0)⟩,
  ⟨(some 6), none, .nc (.t 5)⟩,
  ⟨(some 7), none, .fa 59 (.t 6) 0⟩,
  ⟨(some 8), none, .ld 32 (.t 7)⟩,
  ⟨(some 9), none, .mv (.t 1)⟩,
  ⟨(some 10), none, .bsl 32 1 [(0, .t 9)]⟩,
  ⟨(some 11), none, .bi .append [32, 32] [.t 8, .t 10]⟩,
  ⟨(some 12), none, .nc (.t 4)⟩,
  ⟨(some 13), none, .fa 59 (.t 12) 0⟩,
  ⟨none, none, .st 32 (.t 13) (.t 11)⟩]
theorem b39 : Body Tryd.prog 39 14 [] k39 := ⟨Enters.of Tryd.func39 (by kernel_rfl) (by kernel_rfl), _, _, Tryd.func39, rfl, by kernel_rfl, rfl, rfl⟩

/-- (*cartridge/code.Writer).Bytes -/
def k40 : KC :=
 .seq (.reg [⟨(some 2), none, .mv (.ns)⟩])
 (.seq (.reg [⟨(some 3), none, .mv (.t 0)⟩,
    ⟨(some 4), none, .nc (.t 3)⟩,
    ⟨(some 5), none, .fa 59 (.t 4) 0⟩,
    ⟨(some 6), none, .ld 32 (.t 5)⟩,
    ⟨(some 7), none, .call (.fn 63) [.t 6]⟩,
    ⟨(some 2), none, .mv (.t 7)⟩])
  (.ret))
theorem b40 : Body Tryd.prog 40 8 [2] k40 := ⟨Enters.of Tryd.func40 (by kernel_rfl) (by kernel_rfl), _, _, Tryd.func40, rfl, by kernel_rfl, rfl, rfl⟩

/-- cartridge/code.NewReader -/
def k41 : KC :=
 .seq (.reg [⟨(some 2), none, .mv (.np)⟩])
 (.seq (.reg [⟨(some 3), none, .mv (.t 0)⟩,
    ⟨(some 4), none, .call (.fn 63) [.t 3]⟩,
    ⟨(some 5), none, .bld 87 [(0, .t 4)]⟩,
    ⟨(some 6), none, .box 87 (.t 5)⟩,
    ⟨(some 2), none, .mv (.t 6)⟩])
  (.ret))
theorem b41 : Body Tryd.prog 41 7 [2] k41 := ⟨Enters.of Tryd.func41 (by kernel_rfl) (by kernel_rfl), _, _, Tryd.func41, rfl, by kernel_rfl, rfl, rfl⟩

/-- (*cartridge/code.Reader).Text -/
def k42 : KC :=
 .seq (.reg [⟨(some 2), none, .mv (.s ⟨#[]⟩)⟩])
 (.seq (.reg [⟨(some 3), none, .mv (.t 0)⟩,
    ⟨(some 4), none, .mv (.t 0)⟩,
    ⟨(some 5), none, .call (.fn 44) [.t 4]⟩,
    ⟨(some 6), none, .cvt 5 3 (.t 5)⟩,
    ⟨(some 7), none, .call (.fn 64) [.t 3, .t 6]⟩,
    ⟨(some 8), none, .cvt 32 9 (.t 7)⟩,
    ⟨(some 2), none, .mv (.t 8)⟩])
  (.ret))
theorem b42 : Body Tryd.prog 42 9 [2] k42 := ⟨Enters.of Tryd.func42 (by kernel_rfl) (by kernel_rfl), _, _, Tryd.func42, rfl, by kernel_rfl, rfl, rfl⟩

/-- (*cartridge/code.Reader).Int -/
def k43 : KC :=
 .seq (.reg [⟨(some 2), none, .mv (.i .i64 0)⟩])
 (.seq (.reg [⟨(some 3), none, .mv (.i .u32 0)⟩])
  (.seq (.seq (.reg [⟨(some 6), none, .mv (.t 0)⟩,
      ⟨(some 7), none, .call (.fn 64) [.t 6, .i .i64 4]⟩,
      ⟨(some 8), none, .bi .len [32] [.t 7]⟩,
      ⟨(some 9), none, .mv (.i .i64 0)⟩])
    (.block 0 (.loop (.seq (.reg [⟨(some 10), none, .bin .lss 3 (.t 9) (.t 8)⟩])
       (.seq (.cond (.t 10)
         (.skip)
         (.exit 0))
        (.seq (.block 1 (.seq (.reg [⟨(some 11), none, .ia 32 (.t 7) (.t 9)⟩,
             ⟨(some 12), none, .ld 5 (.t 11)⟩,
             ⟨(some 5), none, .mv (.t 12)⟩])
           (.reg [⟨(some 13), none, .mv (.t 3)⟩,
             ⟨(some 14), none, .bin .shl 83 (.t 13) (.i .u64 8)⟩,
             ⟨(some 15), none, .mv (.t 5)⟩,
             ⟨(some 16), none, .cvt 5 83 (.t 15)⟩,
             ⟨(some 17), none, .bin .or 83 (.t 14) (.t 16)⟩,
             ⟨(some 3), none, .mv (.t 17)⟩])))
         (.reg [⟨(some 18), none, .bin .add 3 (.t 9) (.i .i64 1)⟩,
           ⟨(some 9), none, .mv (.t 18)⟩])))))))
   (.seq (.reg [⟨(some 19), none, .mv (.t 3)⟩,
      ⟨(some 20), none, .cvt 83 3 (.t 19)⟩,
      ⟨(some 2), none, .mv (.t 20)⟩])
    (.ret))))
theorem b43 : Body Tryd.prog 43 21 [2] k43 := ⟨Enters.of Tryd.func43 (by kernel_rfl) (by kernel_rfl), _, _, Tryd.func43, rfl, by kernel_rfl, rfl, rfl⟩

/-- (*cartridge/code.Reader).Byte -/
def k44 : KC :=
 .seq (.reg [⟨(some 2), none, .mv (.i .u8 0)⟩])
 (.seq (.reg [⟨(some 4), none, .mv (.t 0)⟩,
    ⟨(some 5), none, .call (.fn 64) [.t 4, .i .i64 1]⟩,
    ⟨(some 3), none, .mv (.t 5)⟩])
  (.seq (.seq (.reg [⟨(some 6), none, .mv (.t 3)⟩,
      ⟨(some 7), none, .bi .len [32] [.t 6]⟩,
      ⟨(some 8), none, .bin .eql 3 (.t 7) (.i .i64 0)⟩])
    (.cond (.t 8)
     (.seq (.reg [⟨(some 2), none, .mv (.i .u8 0)⟩])
      (.ret))
     (.skip)))
   (.seq (.reg [⟨(some 9), none, .mv (.t 3)⟩,
      ⟨(some 10), none, .ia 32 (.t 9) (.i .i64 0)⟩,
      ⟨(some 11), none, .ld 5 (.t 10)⟩,
      ⟨(some 2), none, .mv (.t 11)⟩])
    (.ret))))
theorem b44 : Body Tryd.prog 44 12 [2] k44 := ⟨Enters.of Tryd.func44 (by kernel_rfl) (by kernel_rfl), _, _, Tryd.func44, rfl, by kernel_rfl, rfl, rfl⟩

/-- (*cartridge/code.Reader).Bad -/
def k45 : KC :=
 .seq (.reg [⟨(some 2), none, .mv (.b false)⟩])
 (.seq (.reg [⟨(some 3), none, .mv (.t 0)⟩,
    ⟨(some 4), none, .bin .neq 64 (.t 3) (.np)⟩,
    ⟨(some 5), none, .mv (.t 4)⟩,
    ⟨(some 6), (some (5, true)), .mv (.t 0)⟩,
    ⟨(some 7), (some (5, true)), .nc (.t 6)⟩,
    ⟨(some 8), (some (5, true)), .fa 87 (.t 7) 1⟩,
    ⟨(some 9), (some (5, true)), .ld 4 (.t 8)⟩,
    ⟨(some 10), none, .pk (.t 5) (.t 9) (.b false)⟩,
    ⟨(some 2), none, .mv (.t 10)⟩])
  (.ret))
theorem b45 : Body Tryd.prog 45 11 [2] k45 := ⟨Enters.of Tryd.func45 (by kernel_rfl) (by kernel_rfl), _, _, Tryd.func45, rfl, by kernel_rfl, rfl, rfl⟩

/-- slices.Equal[[]byte,byte] -/
noncomputable def drw46_0 : Array Oper := ((Tryd.f46.body.map regs).getD []).getD 0 #[]
noncomputable def k46 : KC :=
 .seq (.reg [⟨(some 4), none, .mv (.b false)⟩])
 (.seq (.seq (.reg [⟨(some 6), none, .mv (.t 0)⟩,
     ⟨(some 7), none, .bi .len [32] [.t 6]⟩,
     ⟨(some 8), none, .mv (.t 1)⟩,
     ⟨(some 9), none, .bi .len [32] [.t 8]⟩,
     ⟨(some 10), none, .bin .neq 3 (.t 7) (.t 9)⟩])
   (.cond (.t 10)
    (.seq (.reg [⟨(some 4), none, .mv (.b false)⟩])
     (.ret))
    (.skip)))
  (.seq (.seq (.reg [⟨(some 11), none, .mv (.t 0)⟩,
      ⟨(some 12), none, .bi .len [32] [.t 11]⟩,
      ⟨(some 13), none, .mv (.i .i64 0)⟩])
    (.block 0 (.loop (.seq (.reg [⟨(some 14), none, .bin .lss 3 (.t 13) (.t 12)⟩])
       (.seq (.cond (.t 14)
         (.skip)
         (.exit 0))
        (.seq (.block 1 (.seq (.reg [⟨(some 15), none, .mv (.t 13)⟩,
             ⟨(some 5), none, .mv (.t 15)⟩])
           (.seq (.drw drw46_0 [⟨(some 16), none, .mv (.t 0)⟩,
              ⟨(some 17), none, .mv (.t 5)⟩,
              ⟨(some 18), none, .ia 32 (.t 16) (.t 17)⟩,
              ⟨(some 19), none, .ld 5 (.t 18)⟩,
              ⟨(some 20), none, .mv (.t 1)⟩,
              ⟨(some 21), none, .mv (.t 5)⟩,
              ⟨(some 22), none, .ia 32 (.t 20) (.t 21)⟩,
              ⟨(some 23), none, .ld 5 (.t 22)⟩,
              ⟨(some 24), none, .bin .neq 5 (.t 19) (.t 23)⟩])
            (.cond (.t 24)
             (.seq (.reg [⟨(some 4), none, .mv (.b false)⟩])
              (.ret))
             (.skip)))))
         (.reg [⟨(some 25), none, .bin .add 3 (.t 13) (.i .i64 1)⟩,
           ⟨(some 13), none, .mv (.t 25)⟩])))))))
   (.seq (.reg [⟨(some 4), none, .mv (.b true)⟩])
    (.ret))))
theorem b46 : Body Tryd.prog 46 26 [4] k46 := ⟨Enters.of Tryd.func46 (by kernel_rfl) (by kernel_rfl), _, _, Tryd.func46, rfl, by kernel_rfl, rfl, rfl⟩

/-- cartridge/record.within -/
def k51 : KC :=
 .seq (.reg [⟨(some 6), none, .mv (.b false)⟩])
 (.seq (.reg [⟨(some 7), none, .mv (.t 0)⟩,
    ⟨(some 8), none, .mv (.t 1)⟩,
    ⟨(some 9), none, .bin .geq 3 (.t 7) (.t 8)⟩,
    ⟨(some 10), none, .mv (.t 9)⟩,
    ⟨(some 11), (some (10, true)), .mv (.t 0)⟩,
    ⟨(some 12), (some (10, true)), .mv (.t 2)⟩,
    ⟨(some 13), (some (10, true)), .bin .leq 3 (.t 11) (.t 12)⟩,
    ⟨(some 14), none, .pk (.t 10) (.t 13) (.b false)⟩,
    ⟨(some 6), none, .mv (.t 14)⟩])
  (.ret))
theorem b51 : Body Tryd.prog 51 15 [6] k51 := ⟨Enters.of Tryd.func51 (by kernel_rfl) (by kernel_rfl), _, _, Tryd.func51, rfl, by kernel_rfl, rfl, rfl⟩

/-- (*cartridge/code.Reader).Left -/
def k55 : KC :=
 .seq (.reg [⟨(some 2), none, .mv (.i .i64 0)⟩])
 (.seq (.seq (.reg [⟨(some 3), none, .mv (.t 0)⟩,
     ⟨(some 4), none, .bin .eql 64 (.t 3) (.np)⟩])
   (.cond (.t 4)
    (.seq (.reg [⟨(some 2), none, .mv (.i .i64 0)⟩])
     (.ret))
    (.skip)))
  (.seq (.reg [⟨(some 5), none, .mv (.t 0)⟩,
     ⟨(some 6), none, .nc (.t 5)⟩,
     ⟨(some 7), none, .fa 87 (.t 6) 0⟩,
     ⟨(some 8), none, .ld 32 (.t 7)⟩,
     ⟨(some 9), none, .bi .len [32] [.t 8]⟩,
     ⟨(some 2), none, .mv (.t 9)⟩])
   (.ret)))
theorem b55 : Body Tryd.prog 55 10 [2] k55 := ⟨Enters.of Tryd.func55 (by kernel_rfl) (by kernel_rfl), _, _, Tryd.func55, rfl, by kernel_rfl, rfl, rfl⟩

/-- slices.Contains[[]int,int] -/
def k57 : KC :=
 .seq (.reg [⟨(some 4), none, .mv (.b false)⟩])
 (.seq (.reg [⟨(some 5), none, .mv (.t 0)⟩,
    ⟨(some 6), none, .mv (.t 1)⟩,
    ⟨(some 7), none, .call (.fn 66) [.t 5, .t 6]⟩,
    ⟨(some 8), none, .bin .geq 3 (.t 7) (.i .i64 0)⟩,
    ⟨(some 4), none, .mv (.t 8)⟩])
  (.ret))
theorem b57 : Body Tryd.prog 57 9 [4] k57 := ⟨Enters.of Tryd.func57 (by kernel_rfl) (by kernel_rfl), _, _, Tryd.func57, rfl, by kernel_rfl, rfl, rfl⟩

/-- slices.IndexFunc[[]string,string] -/
def k58 : KC :=
 .seq (.reg [⟨(some 4), none, .mv (.i .i64 0)⟩])
 (.seq (.seq (.reg [⟨(some 6), none, .mv (.t 0)⟩,
     ⟨(some 7), none, .bi .len [25] [.t 6]⟩,
     ⟨(some 8), none, .mv (.i .i64 0)⟩])
   (.block 0 (.loop (.seq (.reg [⟨(some 9), none, .bin .lss 3 (.t 8) (.t 7)⟩])
      (.seq (.cond (.t 9)
        (.skip)
        (.exit 0))
       (.seq (.block 1 (.seq (.reg [⟨(some 10), none, .mv (.t 8)⟩,
            ⟨(some 5), none, .mv (.t 10)⟩])
          (.seq (.reg [⟨(some 11), none, .mv (.t 1)⟩,
             ⟨(some 12), none, .mv (.t 0)⟩,
             ⟨(some 13), none, .mv (.t 5)⟩,
             ⟨(some 14), none, .ia 25 (.t 12) (.t 13)⟩,
             ⟨(some 15), none, .ld 9 (.t 14)⟩,
             ⟨(some 16), none, .call (.t 11) [.t 15]⟩])
           (.cond (.t 16)
            (.seq (.reg [⟨(some 17), none, .mv (.t 5)⟩,
               ⟨(some 4), none, .mv (.t 17)⟩])
             (.ret))
            (.skip)))))
        (.reg [⟨(some 18), none, .bin .add 3 (.t 8) (.i .i64 1)⟩,
          ⟨(some 8), none, .mv (.t 18)⟩])))))))
  (.seq (.reg [⟨(some 4), none, .mv (.i .i64 (-1))⟩])
   (.ret)))
theorem b58 : Body Tryd.prog 58 19 [4] k58 := ⟨Enters.of Tryd.func58 (by kernel_rfl) (by kernel_rfl), _, _, Tryd.func58, rfl, by kernel_rfl, rfl, rfl⟩

/-- strings.genSplit -/
def k59 : KC :=
 .seq (.reg [⟨(some 8), none, .mv (.ns)⟩])
 (.seq (.seq (.reg [⟨(some 12), none, .mv (.t 3)⟩,
     ⟨(some 13), none, .bin .eql 3 (.t 12) (.i .i64 0)⟩])
   (.cond (.t 13)
    (.seq (.reg [⟨(some 8), none, .mv (.ns)⟩])
     (.ret))
    (.skip)))
  (.seq (.seq (.reg [⟨(some 14), none, .mv (.t 1)⟩,
      ⟨(some 15), none, .bin .eql 9 (.t 14) (.s ⟨#[]⟩)⟩])
    (.cond (.t 15)
     (.seq (.reg [⟨(some 16), none, .mv (.t 0)⟩,
        ⟨(some 17), none, .mv (.t 3)⟩,
        ⟨(some 18), none, .call (.fn 67) [.t 16, .t 17]⟩,
        ⟨(some 8), none, .mv (.t 18)⟩])
      (.ret))
     (.skip)))
   (.seq (.seq (.reg [⟨(some 19), none, .mv (.t 3)⟩,
       ⟨(some 20), none, .bin .lss 3 (.t 19) (.i .i64 0)⟩])
     (.cond (.t 20)
      (.reg [⟨(some 21), none, .mv (.t 0)⟩,
        ⟨(some 22), none, .mv (.t 1)⟩,
        ⟨(some 23), none, .call (.fn 68) [.t 21, .t 22]⟩,
        ⟨(some 24), none, .bin .add 3 (.t 23) (.i .i64 1)⟩,
        ⟨(some 3), none, .mv (.t 24)⟩])
      (.skip)))
    (.seq (.reg [⟨(some 25), none, .mv (.t 3)⟩,
       ⟨(some 26), none, .mv (.t 0)⟩,
       ⟨(some 27), none, .bi .len [9] [.t 26]⟩,
       ⟨(some 28), none, .bin .add 3 (.t 27) (.i .i64 1)⟩,
       ⟨(some 29), none, .bi .min [3, 3] [.t 25, .t 28]⟩,
       ⟨(some 3), none, .mv (.t 29)⟩])
     (.seq (.reg [⟨(some 30), none, .mv (.t 3)⟩,
        ⟨(some 31), none, .mk 25 (.t 30) (.t 30)⟩,
        ⟨(some 9), none, .mv (.t 31)⟩])
      (.seq (.reg [⟨(some 32), none, .mv (.t 3)⟩,
         ⟨(some 33), none, .bin .sub 3 (.t 32) (.i .i64 1)⟩,
         ⟨(some 3), none, .mv (.t 33)⟩])
       (.seq (.reg [⟨(some 10), none, .mv (.i .i64 0)⟩])
        (.seq (.block 0 (.loop (.seq (.seq (.reg [⟨(some 34), none, .mv (.t 10)⟩,
               ⟨(some 35), none, .mv (.t 3)⟩,
               ⟨(some 36), none, .bin .lss 3 (.t 34) (.t 35)⟩])
             (.cond (.t 36)
              (.skip)
              (.exit 0)))
            (.block 1 (.seq (.reg [⟨(some 37), none, .mv (.t 0)⟩,
                ⟨(some 38), none, .mv (.t 1)⟩,
                ⟨(some 39), none, .call (.fn 69) [.t 37, .t 38]⟩,
                ⟨(some 11), none, .mv (.t 39)⟩])
              (.seq (.seq (.reg [⟨(some 40), none, .mv (.t 11)⟩,
                  ⟨(some 41), none, .bin .lss 3 (.t 40) (.i .i64 0)⟩])
                (.cond (.t 41)
                 (.exit 0)
                 (.skip)))
               (.seq (.reg [⟨(some 42), none, .mv (.t 9)⟩,
                  ⟨(some 43), none, .mv (.t 10)⟩,
                  ⟨(some 44), none, .mv (.t 0)⟩,
                  ⟨(some 45), none, .mv (.t 11)⟩,
                  ⟨(some 46), none, .mv (.t 2)⟩,
                  ⟨(some 47), none, .bin .add 3 (.t 45) (.t 46)⟩,
                  ⟨(some 48), none, .sli 9 (.t 44) none (some (.t 47)) none⟩,
                  ⟨(some 49), none, .ia 25 (.t 42) (.t 43)⟩,
                  ⟨none, none, .st 9 (.t 49) (.t 48)⟩])
                (.seq (.reg [⟨(some 50), none, .mv (.t 0)⟩,
                   ⟨(some 51), none, .mv (.t 11)⟩,
                   ⟨(some 52), none, .mv (.t 1)⟩,
                   ⟨(some 53), none, .bi .len [9] [.t 52]⟩,
                   ⟨(some 54), none, .bin .add 3 (.t 51) (.t 53)⟩,
                   ⟨(some 55), none, .sli 9 (.t 50) (some (.t 54)) none none⟩,
                   ⟨(some 0), none, .mv (.t 55)⟩])
                 (.reg [⟨(some 56), none, .mv (.t 10)⟩,
                   ⟨(some 57), none, .bin .add 3 (.t 56) (.i .i64 1)⟩,
                   ⟨(some 10), none, .mv (.t 57)⟩])))))))))
         (.seq (.reg [⟨(some 58), none, .mv (.t 9)⟩,
            ⟨(some 59), none, .mv (.t 10)⟩,
            ⟨(some 60), none, .mv (.t 0)⟩,
            ⟨(some 61), none, .ia 25 (.t 58) (.t 59)⟩,
            ⟨none, none, .st 9 (.t 61) (.t 60)⟩])
          (.seq (.reg [⟨(some 62), none, .mv (.t 9)⟩,
             ⟨(some 63), none, .mv (.t 10)⟩,
             ⟨(some 64), none, .bin .add 3 (.t 63) (.i .i64 1)⟩,
             ⟨(some 65), none, .sli 25 (.t 62) none (some (.t 64)) none⟩,
             ⟨(some 8), none, .mv (.t 65)⟩])
           (.ret)))))))))))
theorem b59 : Body Tryd.prog 59 66 [8] k59 := ⟨Enters.of Tryd.func59 (by kernel_rfl) (by kernel_rfl), _, _, Tryd.func59, rfl, by kernel_rfl, rfl, rfl⟩

/-- strings.ContainsFunc -/
def k60 : KC :=
 .seq (.reg [⟨(some 4), none, .mv (.b false)⟩])
 (.seq (.reg [⟨(some 5), none, .mv (.t 0)⟩,
    ⟨(some 6), none, .mv (.t 1)⟩,
    ⟨(some 7), none, .call (.fn 70) [.t 5, .t 6]⟩,
    ⟨(some 8), none, .bin .geq 3 (.t 7) (.i .i64 0)⟩,
    ⟨(some 4), none, .mv (.t 8)⟩])
  (.ret))
theorem b60 : Body Tryd.prog 60 9 [4] k60 := ⟨Enters.of Tryd.func60 (by kernel_rfl) (by kernel_rfl), _, _, Tryd.func60, rfl, by kernel_rfl, rfl, rfl⟩

/-- cartridge/path.other -/
def k61 : KC :=
 .seq (.reg [⟨(some 2), none, .mv (.b false)⟩])
 (.seq (.reg [⟨(some 3), none, .mv (.t 0)⟩,
    ⟨(some 4), none, .bin .lss 21 (.t 3) (.i .i32 97)⟩,
    ⟨(some 5), none, .mv (.t 4)⟩,
    ⟨(some 6), (some (5, false)), .mv (.t 0)⟩,
    ⟨(some 7), (some (5, false)), .bin .gtr 21 (.t 6) (.i .i32 122)⟩,
    ⟨(some 8), none, .pk (.t 5) (.b true) (.t 7)⟩,
    ⟨(some 9), none, .mv (.t 8)⟩,
    ⟨(some 10), (some (9, true)), .mv (.t 0)⟩,
    ⟨(some 11), (some (9, true)), .bin .lss 21 (.t 10) (.i .i32 48)⟩,
    ⟨(some 12), (some (9, true)), .mv (.t 11)⟩,
    ⟨(some 13), (some (12, false)), .mv (.t 0)⟩,
    ⟨(some 14), (some (12, false)), .bin .gtr 21 (.t 13) (.i .i32 57)⟩,
    ⟨(some 15), (some (9, true)), .pk (.t 12) (.b true) (.t 14)⟩,
    ⟨(some 16), none, .pk (.t 9) (.t 15) (.b false)⟩,
    ⟨(some 17), none, .mv (.t 16)⟩,
    ⟨(some 18), (some (17, true)), .mv (.t 0)⟩,
    ⟨(some 19), (some (17, true)), .bin .neq 21 (.t 18) (.i .i32 46)⟩,
    ⟨(some 20), none, .pk (.t 17) (.t 19) (.b false)⟩,
    ⟨(some 21), none, .mv (.t 20)⟩,
    ⟨(some 22), (some (21, true)), .mv (.t 0)⟩,
    ⟨(some 23), (some (21, true)), .bin .neq 21 (.t 22) (.i .i32 45)⟩,
    ⟨(some 24), none, .pk (.t 21) (.t 23) (.b false)⟩,
    ⟨(some 25), none, .mv (.t 24)⟩,
    ⟨(some 26), (some (25, true)), .mv (.t 0)⟩,
    ⟨(some 27), (some (25, true)), .bin .neq 21 (.t 26) (.i .i32 95)⟩,
    ⟨(some 28), none, .pk (.t 25) (.t 27) (.b false)⟩,
    ⟨(some 2), none, .mv (.t 28)⟩])
  (.ret))
theorem b61 : Body Tryd.prog 61 29 [2] k61 := ⟨Enters.of Tryd.func61 (by kernel_rfl) (by kernel_rfl), _, _, Tryd.func61, rfl, by kernel_rfl, rfl, rfl⟩

/-- slices.Clone[[]byte,byte] -/
def k63 : KC :=
 .seq (.reg [⟨(some 2), none, .mv (.ns)⟩])
 (.seq (.seq (.reg [⟨(some 3), none, .mv (.t 0)⟩,
     ⟨(some 4), none, .bin .eql 32 (.t 3) (.ns)⟩])
   (.cond (.t 4)
    (.seq (.reg [⟨(some 2), none, .mv (.ns)⟩])
     (.ret))
    (.skip)))
  (.seq (.reg [⟨(some 5), none, .bsl 32 0 []⟩,
     ⟨(some 6), none, .mv (.t 0)⟩,
     ⟨(some 7), none, .bi .append [32, 32] [.t 5, .t 6]⟩,
     ⟨(some 2), none, .mv (.t 7)⟩])
   (.ret)))
theorem b63 : Body Tryd.prog 63 8 [2] k63 := ⟨Enters.of Tryd.func63 (by kernel_rfl) (by kernel_rfl), _, _, Tryd.func63, rfl, by kernel_rfl, rfl, rfl⟩

/-- (*cartridge/code.Reader).take -/
def k64 : KC :=
 .seq (.reg [⟨(some 4), none, .mv (.ns)⟩])
 (.seq (.seq (.reg [⟨(some 6), none, .mv (.t 0)⟩,
     ⟨(some 7), none, .bin .eql 64 (.t 6) (.np)⟩,
     ⟨(some 8), none, .mv (.t 7)⟩,
     ⟨(some 9), (some (8, false)), .mv (.t 0)⟩,
     ⟨(some 10), (some (8, false)), .nc (.t 9)⟩,
     ⟨(some 11), (some (8, false)), .fa 87 (.t 10) 1⟩,
     ⟨(some 12), (some (8, false)), .ld 4 (.t 11)⟩,
     ⟨(some 13), none, .pk (.t 8) (.b true) (.t 12)⟩])
   (.cond (.t 13)
    (.seq (.reg [⟨(some 4), none, .mv (.ns)⟩])
     (.ret))
    (.skip)))
  (.seq (.seq (.reg [⟨(some 14), none, .mv (.t 1)⟩,
      ⟨(some 15), none, .mv (.t 0)⟩,
      ⟨(some 16), none, .nc (.t 15)⟩,
      ⟨(some 17), none, .fa 87 (.t 16) 0⟩,
      ⟨(some 18), none, .ld 32 (.t 17)⟩,
      ⟨(some 19), none, .bi .len [32] [.t 18]⟩,
      ⟨(some 20), none, .bin .gtr 3 (.t 14) (.t 19)⟩])
    (.cond (.t 20)
     (.seq (.reg [⟨(some 21), none, .mv (.t 0)⟩,
        ⟨(some 22), none, .mv (.t 0)⟩,
        ⟨(some 23), none, .nc (.t 21)⟩,
        ⟨(some 24), none, .fa 87 (.t 23) 0⟩,
        ⟨none, none, .st 32 (.t 24) (.ns)⟩,
        ⟨(some 25), none, .nc (.t 22)⟩,
        ⟨(some 26), none, .fa 87 (.t 25) 1⟩,
        ⟨none, none, .st 4 (.t 26) (.b true)⟩])
      (.seq (.reg [⟨(some 4), none, .mv (.ns)⟩])
       (.ret)))
     (.skip)))
   (.seq (.reg [⟨(some 27), none, .mv (.t 0)⟩,
      ⟨(some 28), none, .nc (.t 27)⟩,
      ⟨(some 29), none, .fa 87 (.t 28) 0⟩,
      ⟨(some 30), none, .ld 32 (.t 29)⟩,
      ⟨(some 31), none, .mv (.t 1)⟩,
      ⟨(some 32), none, .sli 32 (.t 30) none (some (.t 31)) none⟩,
      ⟨(some 5), none, .mv (.t 32)⟩])
    (.seq (.reg [⟨(some 33), none, .mv (.t 0)⟩,
       ⟨(some 34), none, .mv (.t 0)⟩,
       ⟨(some 35), none, .nc (.t 34)⟩,
       ⟨(some 36), none, .fa 87 (.t 35) 0⟩,
       ⟨(some 37), none, .ld 32 (.t 36)⟩,
       ⟨(some 38), none, .mv (.t 1)⟩,
       ⟨(some 39), none, .sli 32 (.t 37) (some (.t 38)) none none⟩,
       ⟨(some 40), none, .nc (.t 33)⟩,
       ⟨(some 41), none, .fa 87 (.t 40) 0⟩,
       ⟨none, none, .st 32 (.t 41) (.t 39)⟩])
     (.seq (.reg [⟨(some 42), none, .mv (.t 5)⟩,
        ⟨(some 4), none, .mv (.t 42)⟩])
      (.ret))))))
theorem b64 : Body Tryd.prog 64 43 [4] k64 := ⟨Enters.of Tryd.func64 (by kernel_rfl) (by kernel_rfl), _, _, Tryd.func64, rfl, by kernel_rfl, rfl, rfl⟩

/-- slices.Index[[]int,int] -/
def k66 : KC :=
 .seq (.reg [⟨(some 4), none, .mv (.i .i64 0)⟩])
 (.seq (.seq (.reg [⟨(some 6), none, .mv (.t 0)⟩,
     ⟨(some 7), none, .bi .len [43] [.t 6]⟩,
     ⟨(some 8), none, .mv (.i .i64 0)⟩])
   (.block 0 (.loop (.seq (.reg [⟨(some 9), none, .bin .lss 3 (.t 8) (.t 7)⟩])
      (.seq (.cond (.t 9)
        (.skip)
        (.exit 0))
       (.seq (.block 1 (.seq (.reg [⟨(some 10), none, .mv (.t 8)⟩,
            ⟨(some 5), none, .mv (.t 10)⟩])
          (.seq (.reg [⟨(some 11), none, .mv (.t 1)⟩,
             ⟨(some 12), none, .mv (.t 0)⟩,
             ⟨(some 13), none, .mv (.t 5)⟩,
             ⟨(some 14), none, .ia 43 (.t 12) (.t 13)⟩,
             ⟨(some 15), none, .ld 3 (.t 14)⟩,
             ⟨(some 16), none, .bin .eql 3 (.t 11) (.t 15)⟩])
           (.cond (.t 16)
            (.seq (.reg [⟨(some 17), none, .mv (.t 5)⟩,
               ⟨(some 4), none, .mv (.t 17)⟩])
             (.ret))
            (.skip)))))
        (.reg [⟨(some 18), none, .bin .add 3 (.t 8) (.i .i64 1)⟩,
          ⟨(some 8), none, .mv (.t 18)⟩])))))))
  (.seq (.reg [⟨(some 4), none, .mv (.i .i64 (-1))⟩])
   (.ret)))
theorem b66 : Body Tryd.prog 66 19 [4] k66 := ⟨Enters.of Tryd.func66 (by kernel_rfl) (by kernel_rfl), _, _, Tryd.func66, rfl, by kernel_rfl, rfl, rfl⟩

/-- strings.Count -/
def k68 : KC :=
 .seq (.reg [⟨(some 4), none, .mv (.i .i64 0)⟩])
 (.seq (.seq (.reg [⟨(some 7), none, .mv (.t 1)⟩,
     ⟨(some 8), none, .bi .len [9] [.t 7]⟩,
     ⟨(some 9), none, .bin .eql 3 (.t 8) (.i .i64 0)⟩])
   (.cond (.t 9)
    (.seq (.reg [⟨(some 10), none, .mv (.t 0)⟩,
       ⟨(some 11), none, .call (.fn 71) [.t 10]⟩,
       ⟨(some 12), none, .bin .add 3 (.t 11) (.i .i64 1)⟩,
       ⟨(some 4), none, .mv (.t 12)⟩])
     (.ret))
    (.skip)))
  (.seq (.seq (.reg [⟨(some 13), none, .mv (.t 1)⟩,
      ⟨(some 14), none, .bi .len [9] [.t 13]⟩,
      ⟨(some 15), none, .bin .eql 3 (.t 14) (.i .i64 1)⟩])
    (.cond (.t 15)
     (.seq (.reg [⟨(some 16), none, .mv (.t 0)⟩,
        ⟨(some 17), none, .mv (.t 1)⟩,
        ⟨(some 18), none, .ix 9 (.t 17) (.i .i64 0)⟩,
        ⟨(some 19), none, .call (.fn 73) [.t 16, .t 18]⟩,
        ⟨(some 4), none, .mv (.t 19)⟩])
      (.ret))
     (.skip)))
   (.seq (.reg [⟨(some 5), none, .mv (.i .i64 0)⟩])
    (.block 0 (.loop (.block 1 (.seq (.reg [⟨(some 20), none, .mv (.t 0)⟩,
          ⟨(some 21), none, .mv (.t 1)⟩,
          ⟨(some 22), none, .call (.fn 69) [.t 20, .t 21]⟩,
          ⟨(some 6), none, .mv (.t 22)⟩])
        (.seq (.seq (.reg [⟨(some 23), none, .mv (.t 6)⟩,
            ⟨(some 24), none, .bin .eql 3 (.t 23) (.i .i64 (-1))⟩])
          (.cond (.t 24)
           (.seq (.reg [⟨(some 25), none, .mv (.t 5)⟩,
              ⟨(some 4), none, .mv (.t 25)⟩])
            (.ret))
           (.skip)))
         (.seq (.reg [⟨(some 26), none, .mv (.t 5)⟩,
            ⟨(some 27), none, .bin .add 3 (.t 26) (.i .i64 1)⟩,
            ⟨(some 5), none, .mv (.t 27)⟩])
          (.reg [⟨(some 28), none, .mv (.t 0)⟩,
            ⟨(some 29), none, .mv (.t 6)⟩,
            ⟨(some 30), none, .mv (.t 1)⟩,
            ⟨(some 31), none, .bi .len [9] [.t 30]⟩,
            ⟨(some 32), none, .bin .add 3 (.t 29) (.t 31)⟩,
            ⟨(some 33), none, .sli 9 (.t 28) (some (.t 32)) none none⟩,
            ⟨(some 0), none, .mv (.t 33)⟩]))))))))))
theorem b68 : Body Tryd.prog 68 34 [4] k68 := ⟨Enters.of Tryd.func68 (by kernel_rfl) (by kernel_rfl), _, _, Tryd.func68, rfl, by kernel_rfl, rfl, rfl⟩

/-- strings.Index -/
def k69 : KC :=
 .seq (.reg [⟨(some 4), none, .mv (.i .i64 0)⟩])
 (.seq (.reg [⟨(some 5), none, .mv (.t 0)⟩,
    ⟨(some 6), none, .mv (.t 1)⟩,
    ⟨(some 7), none, .call (.fn 74) [.t 5, .t 6]⟩,
    ⟨(some 4), none, .mv (.t 7)⟩])
  (.ret))
theorem b69 : Body Tryd.prog 69 8 [4] k69 := ⟨Enters.of Tryd.func69 (by kernel_rfl) (by kernel_rfl), _, _, Tryd.func69, rfl, by kernel_rfl, rfl, rfl⟩

/-- strings.IndexFunc -/
def k70 : KC :=
 .seq (.reg [⟨(some 4), none, .mv (.i .i64 0)⟩])
 (.seq (.reg [⟨(some 5), none, .mv (.t 0)⟩,
    ⟨(some 6), none, .mv (.t 1)⟩,
    ⟨(some 7), none, .call (.fn 75) [.t 5, .t 6, .b true]⟩,
    ⟨(some 4), none, .mv (.t 7)⟩])
  (.ret))
theorem b70 : Body Tryd.prog 70 8 [4] k70 := ⟨Enters.of Tryd.func70 (by kernel_rfl) (by kernel_rfl), _, _, Tryd.func70, rfl, by kernel_rfl, rfl, rfl⟩

/-- internal/stringslite.Index -/
def k74 : KC :=
 .seq (.reg [⟨(some 4), none, .mv (.i .i64 0)⟩])
 (.seq (.reg [⟨(some 14), none, .mv (.t 1)⟩,
    ⟨(some 15), none, .bi .len [9] [.t 14]⟩,
    ⟨(some 5), none, .mv (.t 15)⟩])
  (.seq (.block 0 (.seq (.reg [⟨(some 17), none, .mv (.t 5)⟩,
       ⟨(some 18), none, .bin .eql 3 (.t 17) (.i .i64 0)⟩,
       ⟨(some 19), none, .mv (.t 18)⟩,
       ⟨(some 20), (some (19, false)), .mv (.t 1)⟩,
       ⟨(some 21), (some (19, false)), .mv (.t 0)⟩,
       ⟨(some 22), (some (19, false)), .bin .eql 9 (.t 20) (.t 21)⟩,
       ⟨(some 23), none, .pk (.t 19) (.b true) (.t 22)⟩,
       ⟨(some 16), none, .mv (.t 23)⟩])
     (.cond (.t 16)
      (.seq (.reg [⟨(some 4), none, .mv (.i .i64 0)⟩])
       (.ret))
      (.seq (.reg [⟨(some 25), none, .mv (.t 5)⟩,
         ⟨(some 26), none, .bin .eql 3 (.t 25) (.i .i64 1)⟩,
         ⟨(some 24), none, .mv (.t 26)⟩])
       (.cond (.t 24)
        (.seq (.reg [⟨(some 27), none, .mv (.t 0)⟩,
           ⟨(some 28), none, .mv (.t 1)⟩,
           ⟨(some 29), none, .ix 9 (.t 28) (.i .i64 0)⟩,
           ⟨(some 30), none, .call (.fn 77) [.t 27, .t 29]⟩,
           ⟨(some 4), none, .mv (.t 30)⟩])
         (.ret))
        (.seq (.reg [⟨(some 32), none, .mv (.t 5)⟩,
           ⟨(some 33), none, .mv (.t 0)⟩,
           ⟨(some 34), none, .bi .len [9] [.t 33]⟩,
           ⟨(some 35), none, .bin .geq 3 (.t 32) (.t 34)⟩,
           ⟨(some 31), none, .mv (.t 35)⟩])
         (.cond (.t 31)
          (.seq (.reg [⟨(some 4), none, .mv (.i .i64 (-1))⟩])
           (.ret))
          (.seq (.reg [⟨(some 37), none, .mv (.t 5)⟩,
             ⟨(some 38), none, .ld 3 (.gl 0)⟩,
             ⟨(some 39), none, .bin .leq 3 (.t 37) (.t 38)⟩,
             ⟨(some 40), none, .mv (.t 39)⟩,
             ⟨(some 41), (some (40, true)), .mv (.t 0)⟩,
             ⟨(some 42), (some (40, true)), .bi .len [9] [.t 41]⟩,
             ⟨(some 43), (some (40, true)), .bin .leq 3 (.t 42) (.i .i64 64)⟩,
             ⟨(some 44), none, .pk (.t 40) (.t 43) (.b false)⟩,
             ⟨(some 36), none, .mv (.t 44)⟩])
           (.cond (.t 36)
            (.seq (.reg [⟨(some 45), none, .mv (.t 0)⟩,
               ⟨(some 46), none, .mv (.t 1)⟩,
               ⟨(some 47), none, .call (.fn 78) [.t 45, .t 46]⟩,
               ⟨(some 4), none, .mv (.t 47)⟩])
             (.ret))
            (.skip))))))))))
   (.seq (.reg [⟨(some 48), none, .mv (.t 1)⟩,
      ⟨(some 49), none, .ix 9 (.t 48) (.i .i64 0)⟩,
      ⟨(some 6), none, .mv (.t 49)⟩])
    (.seq (.reg [⟨(some 50), none, .mv (.t 1)⟩,
       ⟨(some 51), none, .ix 9 (.t 50) (.i .i64 1)⟩,
       ⟨(some 7), none, .mv (.t 51)⟩])
     (.seq (.reg [⟨(some 8), none, .mv (.i .i64 0)⟩])
      (.seq (.reg [⟨(some 52), none, .mv (.t 0)⟩,
         ⟨(some 53), none, .bi .len [9] [.t 52]⟩,
         ⟨(some 54), none, .mv (.t 5)⟩,
         ⟨(some 55), none, .bin .sub 3 (.t 53) (.t 54)⟩,
         ⟨(some 56), none, .bin .add 3 (.t 55) (.i .i64 1)⟩,
         ⟨(some 9), none, .mv (.t 56)⟩])
       (.seq (.reg [⟨(some 10), none, .mv (.i .i64 0)⟩])
        (.seq (.block 1 (.loop (.seq (.seq (.reg [⟨(some 57), none, .mv (.t 8)⟩,
               ⟨(some 58), none, .mv (.t 9)⟩,
               ⟨(some 59), none, .bin .lss 3 (.t 57) (.t 58)⟩])
             (.cond (.t 59)
              (.skip)
              (.exit 1)))
            (.block 2 (.seq (.seq (.reg [⟨(some 60), none, .mv (.t 0)⟩,
                 ⟨(some 61), none, .mv (.t 8)⟩,
                 ⟨(some 62), none, .ix 9 (.t 60) (.t 61)⟩,
                 ⟨(some 63), none, .mv (.t 6)⟩,
                 ⟨(some 64), none, .bin .neq 5 (.t 62) (.t 63)⟩])
               (.cond (.t 64)
                (.seq (.reg [⟨(some 65), none, .mv (.t 0)⟩,
                   ⟨(some 66), none, .mv (.t 8)⟩,
                   ⟨(some 67), none, .bin .add 3 (.t 66) (.i .i64 1)⟩,
                   ⟨(some 68), none, .mv (.t 9)⟩,
                   ⟨(some 69), none, .sli 9 (.t 65) (some (.t 67)) (some (.t 68)) none⟩,
                   ⟨(some 70), none, .mv (.t 6)⟩,
                   ⟨(some 71), none, .call (.fn 77) [.t 69, .t 70]⟩,
                   ⟨(some 11), none, .mv (.t 71)⟩])
                 (.seq (.seq (.reg [⟨(some 72), none, .mv (.t 11)⟩,
                     ⟨(some 73), none, .bin .lss 3 (.t 72) (.i .i64 0)⟩])
                   (.cond (.t 73)
                    (.seq (.reg [⟨(some 4), none, .mv (.i .i64 (-1))⟩])
                     (.ret))
                    (.skip)))
                  (.reg [⟨(some 74), none, .mv (.t 8)⟩,
                    ⟨(some 75), none, .mv (.t 11)⟩,
                    ⟨(some 76), none, .bin .add 3 (.t 75) (.i .i64 1)⟩,
                    ⟨(some 77), none, .bin .add 3 (.t 74) (.t 76)⟩,
                    ⟨(some 8), none, .mv (.t 77)⟩])))
                (.skip)))
              (.seq (.seq (.reg [⟨(some 78), none, .mv (.t 0)⟩,
                  ⟨(some 79), none, .mv (.t 8)⟩,
                  ⟨(some 80), none, .bin .add 3 (.t 79) (.i .i64 1)⟩,
                  ⟨(some 81), none, .ix 9 (.t 78) (.t 80)⟩,
                  ⟨(some 82), none, .mv (.t 7)⟩,
                  ⟨(some 83), none, .bin .eql 5 (.t 81) (.t 82)⟩,
                  ⟨(some 84), none, .mv (.t 83)⟩,
                  ⟨(some 85), (some (84, true)), .mv (.t 0)⟩,
                  ⟨(some 86), (some (84, true)), .mv (.t 8)⟩,
                  ⟨(some 87), (some (84, true)), .mv (.t 8)⟩,
                  ⟨(some 88), (some (84, true)), .mv (.t 5)⟩,
                  ⟨(some 89), (some (84, true)), .bin .add 3 (.t 87) (.t 88)⟩,
                  ⟨(some 90), (some (84, true)), .sli 9 (.t 85) (some (.t 86)) (some (.t 89)) none⟩,
                  ⟨(some 91), (some (84, true)), .mv (.t 1)⟩,
                  ⟨(some 92), (some (84, true)), .bin .eql 9 (.t 90) (.t 91)⟩,
                  ⟨(some 93), none, .pk (.t 84) (.t 92) (.b false)⟩])
                (.cond (.t 93)
                 (.seq (.reg [⟨(some 94), none, .mv (.t 8)⟩,
                    ⟨(some 4), none, .mv (.t 94)⟩])
                  (.ret))
                 (.skip)))
               (.seq (.reg [⟨(some 95), none, .mv (.t 8)⟩,
                  ⟨(some 96), none, .bin .add 3 (.t 95) (.i .i64 1)⟩,
                  ⟨(some 8), none, .mv (.t 96)⟩])
                (.seq (.reg [⟨(some 97), none, .mv (.t 10)⟩,
                   ⟨(some 98), none, .bin .add 3 (.t 97) (.i .i64 1)⟩,
                   ⟨(some 10), none, .mv (.t 98)⟩])
                 (.seq (.reg [⟨(some 99), none, .mv (.t 5)⟩,
                    ⟨(some 100), none, .ld 3 (.gl 0)⟩,
                    ⟨(some 101), none, .bin .leq 3 (.t 99) (.t 100)⟩,
                    ⟨(some 102), none, .mv (.t 101)⟩,
                    ⟨(some 103), (some (102, true)), .mv (.t 10)⟩,
                    ⟨(some 104), (some (102, true)), .mv (.t 8)⟩,
                    ⟨(some 105), (some (102, true)), .call (.fn 79) [.t 104]⟩,
                    ⟨(some 106), (some (102, true)), .bin .gtr 3 (.t 103) (.t 105)⟩,
                    ⟨(some 107), none, .pk (.t 102) (.t 106) (.b false)⟩])
                  (.cond (.t 107)
                   (.seq (.reg [⟨(some 108), none, .mv (.t 0)⟩,
                      ⟨(some 109), none, .mv (.t 8)⟩,
                      ⟨(some 110), none, .sli 9 (.t 108) (some (.t 109)) none none⟩,
                      ⟨(some 111), none, .mv (.t 1)⟩,
                      ⟨(some 112), none, .call (.fn 78) [.t 110, .t 111]⟩,
                      ⟨(some 12), none, .mv (.t 112)⟩])
                    (.seq (.seq (.reg [⟨(some 113), none, .mv (.t 12)⟩,
                        ⟨(some 114), none, .bin .geq 3 (.t 113) (.i .i64 0)⟩])
                      (.cond (.t 114)
                       (.seq (.reg [⟨(some 115), none, .mv (.t 12)⟩,
                          ⟨(some 116), none, .mv (.t 8)⟩,
                          ⟨(some 117), none, .bin .add 3 (.t 115) (.t 116)⟩,
                          ⟨(some 4), none, .mv (.t 117)⟩])
                        (.ret))
                       (.skip)))
                     (.seq (.reg [⟨(some 4), none, .mv (.i .i64 (-1))⟩])
                      (.ret))))
                   (.seq (.reg [⟨(some 118), none, .mv (.t 5)⟩,
                      ⟨(some 119), none, .ld 3 (.gl 0)⟩,
                      ⟨(some 120), none, .bin .gtr 3 (.t 118) (.t 119)⟩,
                      ⟨(some 121), none, .mv (.t 120)⟩,
                      ⟨(some 122), (some (121, true)), .mv (.t 10)⟩,
                      ⟨(some 123), (some (121, true)), .mv (.t 8)⟩,
                      ⟨(some 124), (some (121, true)), .bin .shr 3 (.t 123) (.i .u64 4)⟩,
                      ⟨(some 125), (some (121, true)), .bin .add 3 (.i .i64 4) (.t 124)⟩,
                      ⟨(some 126), (some (121, true)), .bin .geq 3 (.t 122) (.t 125)⟩,
                      ⟨(some 127), none, .pk (.t 121) (.t 126) (.b false)⟩,
                      ⟨(some 128), none, .mv (.t 127)⟩,
                      ⟨(some 129), (some (128, true)), .mv (.t 8)⟩,
                      ⟨(some 130), (some (128, true)), .mv (.t 9)⟩,
                      ⟨(some 131), (some (128, true)), .bin .lss 3 (.t 129) (.t 130)⟩,
                      ⟨(some 132), none, .pk (.t 128) (.t 131) (.b false)⟩])
                    (.cond (.t 132)
                     (.seq (.reg [⟨(some 133), none, .mv (.t 0)⟩,
                        ⟨(some 134), none, .mv (.t 8)⟩,
                        ⟨(some 135), none, .sli 9 (.t 133) (some (.t 134)) none none⟩,
                        ⟨(some 136), none, .mv (.t 1)⟩,
                        ⟨(some 137), none, .call (.fn 80) [.t 135, .t 136]⟩,
                        ⟨(some 13), none, .mv (.t 137)⟩])
                      (.seq (.seq (.reg [⟨(some 138), none, .mv (.t 13)⟩,
                          ⟨(some 139), none, .bin .lss 3 (.t 138) (.i .i64 0)⟩])
                        (.cond (.t 139)
                         (.seq (.reg [⟨(some 4), none, .mv (.i .i64 (-1))⟩])
                          (.ret))
                         (.skip)))
                       (.seq (.reg [⟨(some 140), none, .mv (.t 8)⟩,
                          ⟨(some 141), none, .mv (.t 13)⟩,
                          ⟨(some 142), none, .bin .add 3 (.t 140) (.t 141)⟩,
                          ⟨(some 4), none, .mv (.t 142)⟩])
                        (.ret))))
                     (.skip)))))))))))))
         (.seq (.reg [⟨(some 4), none, .mv (.i .i64 (-1))⟩])
          (.ret))))))))))
theorem b74 : Body Tryd.prog 74 143 [4] k74 := ⟨Enters.of Tryd.func74 (by kernel_rfl) (by kernel_rfl), _, _, Tryd.func74, rfl, by kernel_rfl, rfl, rfl⟩

/-- strings.indexFunc -/
def k75 : KC :=
 .seq (.reg [⟨(some 6), none, .mv (.i .i64 0)⟩])
 (.seq (.seq (.reg [⟨(some 9), none, .mv (.t 0)⟩,
     ⟨(some 10), none, .unk⟩])
   (.block 0 (.loop (.seq (.reg [⟨(some 11), none, .unk⟩,
        ⟨(some 12), none, .ex (.t 11) 0⟩])
      (.seq (.cond (.t 12)
        (.skip)
        (.exit 0))
       (.block 1 (.seq (.reg [⟨(some 13), none, .ex (.t 11) 1⟩,
           ⟨(some 14), none, .ex (.t 11) 2⟩,
           ⟨(some 7), none, .mv (.t 13)⟩,
           ⟨(some 8), none, .mv (.t 14)⟩])
         (.seq (.reg [⟨(some 15), none, .mv (.t 1)⟩,
            ⟨(some 16), none, .mv (.t 8)⟩,
            ⟨(some 17), none, .call (.t 15) [.t 16]⟩,
            ⟨(some 18), none, .mv (.t 2)⟩,
            ⟨(some 19), none, .bin .eql 4 (.t 17) (.t 18)⟩])
          (.cond (.t 19)
           (.seq (.reg [⟨(some 20), none, .mv (.t 7)⟩,
              ⟨(some 6), none, .mv (.t 20)⟩])
            (.ret))
           (.skip))))))))))
  (.seq (.reg [⟨(some 6), none, .mv (.i .i64 (-1))⟩])
   (.ret)))
theorem b75 : Body Tryd.prog 75 21 [6] k75 := ⟨Enters.of Tryd.func75 (by kernel_rfl) (by kernel_rfl), _, _, Tryd.func75, rfl, by kernel_rfl, rfl, rfl⟩

/-- internal/stringslite.IndexByte -/
def k77 : KC :=
 .seq (.reg [⟨(some 4), none, .mv (.i .i64 0)⟩])
 (.seq (.reg [⟨(some 5), none, .mv (.t 0)⟩,
    ⟨(some 6), none, .mv (.t 1)⟩,
    ⟨(some 7), none, .call (.fn 81) [.t 5, .t 6]⟩,
    ⟨(some 4), none, .mv (.t 7)⟩])
  (.ret))
theorem b77 : Body Tryd.prog 77 8 [4] k77 := ⟨Enters.of Tryd.func77 (by kernel_rfl) (by kernel_rfl), _, _, Tryd.func77, rfl, by kernel_rfl, rfl, rfl⟩

end Go.Proofs.YtpipaggkbiapjaaDoor
