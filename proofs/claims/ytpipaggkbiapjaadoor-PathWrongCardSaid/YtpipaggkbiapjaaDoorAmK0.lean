import Derived.Test.YtpipaggkbiapjaaDoorAmT
/- The code, cooked, and tied to the program's; written by gen.py. -/
namespace Go.Proofs.YtpipaggkbiapjaaDoor
open Go.AM

/-- cartridge/cartridgelaw5.PathWrong -/
noncomputable def drw4_0 : Array Oper := ((Tryd.f4.body.map regs).getD []).getD 0 #[]
noncomputable def k4 : KC :=
 .seq (.reg [⟨(some 2), none, .mv (.b false)⟩])
 (.seq (.reg [⟨(some 6), none, .call (.fn 10) []⟩,
    ⟨(some 3), none, .mv (.t 6)⟩])
  (.seq (.reg [⟨(some 7), none, .bsl 25 24 [(0, .s ⟨#[]⟩), (1, .s ⟨#[97]⟩), (2, .s ⟨#[47]⟩), (3, .s ⟨#[47, 97]⟩), (4, .s ⟨#[97, 47]⟩), (5, .s ⟨#[97, 47, 98]⟩), (6, .s ⟨#[97, 47, 47, 98]⟩), (7, .s ⟨#[46]⟩), (8, .s ⟨#[46, 46]⟩), (9, .s ⟨#[46, 46, 46]⟩), (10, .s ⟨#[97, 47, 46]⟩), (11, .s ⟨#[97, 47, 46, 46]⟩), (12, .s ⟨#[97, 47, 46, 46, 46]⟩), (13, .s ⟨#[46, 97]⟩), (14, .s ⟨#[45]⟩), (15, .s ⟨#[95]⟩), (16, .s ⟨#[65]⟩), (17, .s ⟨#[97, 32, 98]⟩), (18, .s ⟨#[195, 169]⟩), (19, .s ⟨#[97, 47, 98, 47, 99, 47, 100]⟩), (20, .s ⟨#[97, 98, 99, 100, 101, 102, 103, 104, 105, 106, 107, 108, 109, 110, 111, 112, 113, 114, 115, 116, 117, 118, 119, 120]⟩), (21, .s ⟨#[97, 98, 99, 100, 101, 102, 103, 104, 105, 106, 107, 108, 109, 110, 111, 112, 113, 114, 115, 116, 117, 118, 119, 120, 121]⟩), (22, .s ⟨#[97, 0]⟩), (23, .s ⟨#[57]⟩)]⟩,
     ⟨(some 4), none, .mv (.t 7)⟩])
   (.seq (.reg [⟨(some 8), none, .bsl 28 24 [(0, .b false), (1, .b true), (2, .b false), (3, .b false), (4, .b false), (5, .b true), (6, .b false), (7, .b false), (8, .b false), (9, .b true), (10, .b false), (11, .b false), (12, .b true), (13, .b true), (14, .b true), (15, .b true), (16, .b false), (17, .b false), (18, .b false), (19, .b true), (20, .b true), (21, .b false), (22, .b false), (23, .b true)]⟩,
      ⟨(some 5), none, .mv (.t 8)⟩])
    (.seq (.seq (.reg [⟨(some 9), none, .mv (.t 3)⟩,
        ⟨(some 10), none, .un .not (.t 9)⟩,
        ⟨(some 11), none, .mv (.t 10)⟩,
        ⟨(some 12), (some (11, false)), .mv (.t 0)⟩,
        ⟨(some 13), (some (11, false)), .bin .lss 3 (.t 12) (.i .i64 0)⟩,
        ⟨(some 14), none, .pk (.t 11) (.b true) (.t 13)⟩,
        ⟨(some 15), none, .mv (.t 14)⟩,
        ⟨(some 16), (some (15, false)), .mv (.t 0)⟩,
        ⟨(some 17), (some (15, false)), .mv (.t 4)⟩,
        ⟨(some 18), (some (15, false)), .bi .len [25] [.t 17]⟩,
        ⟨(some 19), (some (15, false)), .bin .geq 3 (.t 16) (.t 18)⟩,
        ⟨(some 20), none, .pk (.t 15) (.b true) (.t 19)⟩])
      (.cond (.t 20)
       (.seq (.reg [⟨(some 21), none, .mv (.t 3)⟩,
          ⟨(some 2), none, .mv (.t 21)⟩])
        (.ret))
       (.skip)))
     (.seq (.drw drw4_0 [⟨(some 22), none, .mv (.t 4)⟩,
        ⟨(some 23), none, .mv (.t 0)⟩,
        ⟨(some 24), none, .ia 25 (.t 22) (.t 23)⟩,
        ⟨(some 25), none, .ld 9 (.t 24)⟩,
        ⟨(some 26), none, .call (.fn 11) [.t 25]⟩,
        ⟨(some 27), none, .mv (.t 5)⟩,
        ⟨(some 28), none, .mv (.t 0)⟩,
        ⟨(some 29), none, .ia 28 (.t 27) (.t 28)⟩,
        ⟨(some 30), none, .ld 4 (.t 29)⟩,
        ⟨(some 31), none, .bin .eql 4 (.t 26) (.t 30)⟩,
        ⟨(some 2), none, .mv (.t 31)⟩])
      (.ret))))))
theorem b4 : Body Tryd.prog 4 32 [2] k4 := ⟨Enters.of Tryd.func4 (by kernel_rfl) (by kernel_rfl), _, _, Tryd.func4, rfl, by kernel_rfl, rfl, rfl⟩

/-- cartridge/cartridgelaw5.alive -/
def k10 : KC :=
 .seq (.reg [⟨(some 0), none, .mv (.b false)⟩])
 (.seq (.reg [⟨(some 1), none, .call (.fn 11) [.s ⟨#[97, 47, 98]⟩]⟩,
    ⟨(some 2), none, .mv (.t 1)⟩,
    ⟨(some 3), (some (2, true)), .call (.fn 11) [.s ⟨#[97, 47, 47, 98]⟩]⟩,
    ⟨(some 4), (some (2, true)), .un .not (.t 3)⟩,
    ⟨(some 5), none, .pk (.t 2) (.t 4) (.b false)⟩,
    ⟨(some 6), none, .mv (.t 5)⟩,
    ⟨(some 7), (some (6, true)), .call (.fn 16) [.s ⟨#[97, 47, 98]⟩, .s ⟨#[97]⟩]⟩,
    ⟨(some 8), none, .pk (.t 6) (.t 7) (.b false)⟩,
    ⟨(some 9), none, .mv (.t 8)⟩,
    ⟨(some 10), (some (9, true)), .call (.fn 14) [.s ⟨#[97, 47, 98]⟩]⟩,
    ⟨(some 11), (some (9, true)), .bi .len [25] [.t 10]⟩,
    ⟨(some 12), (some (9, true)), .bin .eql 3 (.t 11) (.i .i64 2)⟩,
    ⟨(some 13), none, .pk (.t 9) (.t 12) (.b false)⟩,
    ⟨(some 0), none, .mv (.t 13)⟩])
  (.ret))
theorem b10 : Body Tryd.prog 10 14 [0] k10 := ⟨Enters.of Tryd.func10 (by kernel_rfl) (by kernel_rfl), _, _, Tryd.func10, rfl, by kernel_rfl, rfl, rfl⟩

/-- cartridge/path.Right -/
def k11 : KC :=
 .seq (.reg [⟨(some 2), none, .mv (.b false)⟩])
 (.seq (.reg [⟨(some 3), none, .mv (.t 0)⟩,
    ⟨(some 4), none, .bi .len [9] [.t 3]⟩,
    ⟨(some 5), none, .bin .leq 3 (.t 4) (.i .i64 24)⟩,
    ⟨(some 6), none, .mv (.t 5)⟩,
    ⟨(some 7), (some (6, true)), .mv (.t 0)⟩,
    ⟨(some 8), (some (6, true)), .call (.fn 34) [.t 7, .s ⟨#[47]⟩]⟩,
    ⟨(some 9), (some (6, true)), .call (.fn 33) [.t 8, .fn 35]⟩,
    ⟨(some 10), (some (6, true)), .un .not (.t 9)⟩,
    ⟨(some 11), none, .pk (.t 6) (.t 10) (.b false)⟩,
    ⟨(some 2), none, .mv (.t 11)⟩])
  (.ret))
theorem b11 : Body Tryd.prog 11 12 [2] k11 := ⟨Enters.of Tryd.func11 (by kernel_rfl) (by kernel_rfl), _, _, Tryd.func11, rfl, by kernel_rfl, rfl, rfl⟩

/-- cartridge/path.Parts -/
def k14 : KC :=
 .seq (.reg [⟨(some 2), none, .mv (.ns)⟩])
 (.seq (.seq (.reg [⟨(some 3), none, .mv (.t 0)⟩,
     ⟨(some 4), none, .call (.fn 11) [.t 3]⟩,
     ⟨(some 5), none, .un .not (.t 4)⟩])
   (.cond (.t 5)
    (.seq (.reg [⟨(some 2), none, .mv (.ns)⟩])
     (.ret))
    (.skip)))
  (.seq (.reg [⟨(some 6), none, .mv (.t 0)⟩,
     ⟨(some 7), none, .call (.fn 34) [.t 6, .s ⟨#[47]⟩]⟩,
     ⟨(some 2), none, .mv (.t 7)⟩])
   (.ret)))
theorem b14 : Body Tryd.prog 14 8 [2] k14 := ⟨Enters.of Tryd.func14 (by kernel_rfl) (by kernel_rfl), _, _, Tryd.func14, rfl, by kernel_rfl, rfl, rfl⟩

/-- cartridge/path.Within -/
def k16 : KC :=
 .seq (.reg [⟨(some 4), none, .mv (.b false)⟩])
 (.seq (.reg [⟨(some 5), none, .mv (.t 0)⟩,
    ⟨(some 6), none, .call (.fn 11) [.t 5]⟩,
    ⟨(some 7), none, .mv (.t 6)⟩,
    ⟨(some 8), (some (7, true)), .mv (.t 1)⟩,
    ⟨(some 9), (some (7, true)), .call (.fn 11) [.t 8]⟩,
    ⟨(some 10), none, .pk (.t 7) (.t 9) (.b false)⟩,
    ⟨(some 11), none, .mv (.t 10)⟩,
    ⟨(some 12), (some (11, true)), .mv (.t 0)⟩,
    ⟨(some 13), (some (11, true)), .mv (.t 1)⟩,
    ⟨(some 14), (some (11, true)), .bin .eql 9 (.t 12) (.t 13)⟩,
    ⟨(some 15), (some (11, true)), .mv (.t 14)⟩,
    ⟨(some 16), (some (15, false)), .mv (.t 0)⟩,
    ⟨(some 17), (some (15, false)), .mv (.t 1)⟩,
    ⟨(some 18), (some (15, false)), .bin .add 9 (.t 17) (.s ⟨#[47]⟩)⟩,
    ⟨(some 19), (some (15, false)), .call (.fn 36) [.t 16, .t 18]⟩,
    ⟨(some 20), (some (11, true)), .pk (.t 15) (.b true) (.t 19)⟩,
    ⟨(some 21), none, .pk (.t 11) (.t 20) (.b false)⟩,
    ⟨(some 4), none, .mv (.t 21)⟩])
  (.ret))
theorem b16 : Body Tryd.prog 16 22 [4] k16 := ⟨Enters.of Tryd.func16 (by kernel_rfl) (by kernel_rfl), _, _, Tryd.func16, rfl, by kernel_rfl, rfl, rfl⟩

/-- slices.ContainsFunc[[]string,string] -/
def k33 : KC :=
 .seq (.reg [⟨(some 4), none, .mv (.b false)⟩])
 (.seq (.reg [⟨(some 5), none, .mv (.t 0)⟩,
    ⟨(some 6), none, .mv (.t 1)⟩,
    ⟨(some 7), none, .call (.fn 58) [.t 5, .t 6]⟩,
    ⟨(some 8), none, .bin .geq 3 (.t 7) (.i .i64 0)⟩,
    ⟨(some 4), none, .mv (.t 8)⟩])
  (.ret))
theorem b33 : Body Tryd.prog 33 9 [4] k33 := ⟨Enters.of Tryd.func33 (by kernel_rfl) (by kernel_rfl), _, _, Tryd.func33, rfl, by kernel_rfl, rfl, rfl⟩

/-- strings.Split -/
def k34 : KC :=
 .seq (.reg [⟨(some 4), none, .mv (.ns)⟩])
 (.seq (.reg [⟨(some 5), none, .mv (.t 0)⟩,
    ⟨(some 6), none, .mv (.t 1)⟩,
    ⟨(some 7), none, .call (.fn 59) [.t 5, .t 6, .i .i64 0, .i .i64 (-1)]⟩,
    ⟨(some 4), none, .mv (.t 7)⟩])
  (.ret))
theorem b34 : Body Tryd.prog 34 8 [4] k34 := ⟨Enters.of Tryd.func34 (by kernel_rfl) (by kernel_rfl), _, _, Tryd.func34, rfl, by kernel_rfl, rfl, rfl⟩

/-- cartridge/path.wrong -/
def k35 : KC :=
 .seq (.reg [⟨(some 2), none, .mv (.b false)⟩])
 (.seq (.reg [⟨(some 3), none, .mv (.t 0)⟩,
    ⟨(some 4), none, .bin .eql 9 (.t 3) (.s ⟨#[]⟩)⟩,
    ⟨(some 5), none, .mv (.t 4)⟩,
    ⟨(some 6), (some (5, false)), .mv (.t 0)⟩,
    ⟨(some 7), (some (5, false)), .bin .eql 9 (.t 6) (.s ⟨#[46]⟩)⟩,
    ⟨(some 8), none, .pk (.t 5) (.b true) (.t 7)⟩,
    ⟨(some 9), none, .mv (.t 8)⟩,
    ⟨(some 10), (some (9, false)), .mv (.t 0)⟩,
    ⟨(some 11), (some (9, false)), .bin .eql 9 (.t 10) (.s ⟨#[46, 46]⟩)⟩,
    ⟨(some 12), none, .pk (.t 9) (.b true) (.t 11)⟩,
    ⟨(some 13), none, .mv (.t 12)⟩,
    ⟨(some 14), (some (13, false)), .mv (.t 0)⟩,
    ⟨(some 15), (some (13, false)), .call (.fn 60) [.t 14, .fn 61]⟩,
    ⟨(some 16), none, .pk (.t 13) (.b true) (.t 15)⟩,
    ⟨(some 2), none, .mv (.t 16)⟩])
  (.ret))
theorem b35 : Body Tryd.prog 35 17 [2] k35 := ⟨Enters.of Tryd.func35 (by kernel_rfl) (by kernel_rfl), _, _, Tryd.func35, rfl, by kernel_rfl, rfl, rfl⟩

/-- strings.HasPrefix -/
def k36 : KC :=
 .seq (.reg [⟨(some 4), none, .mv (.b false)⟩])
 (.seq (.reg [⟨(some 5), none, .mv (.t 0)⟩,
    ⟨(some 6), none, .mv (.t 1)⟩,
    ⟨(some 7), none, .call (.fn 62) [.t 5, .t 6]⟩,
    ⟨(some 4), none, .mv (.t 7)⟩])
  (.ret))
theorem b36 : Body Tryd.prog 36 8 [4] k36 := ⟨Enters.of Tryd.func36 (by kernel_rfl) (by kernel_rfl), _, _, Tryd.func36, rfl, by kernel_rfl, rfl, rfl⟩

/-- slices.IndexFunc[[]string,string] -/
def k58 : KC :=
 .seq (.reg [⟨(some 4), none, .mv (.i .i64 0)⟩])
 (.seq (.seq (.reg [⟨(some 6), none, .mv (.t 0)⟩,
     ⟨(some 7), none, .bi .len [25] [.t 6]⟩,
     ⟨(some 8), none, .mv (.i .i64 0)⟩])
   (.block 0 (.loop (.seq (.reg [⟨(some 9), none, .bin .lss 3 (.t 8) (.t 7)⟩])
      (.seq (.cond (.t 9)
        (.skip)
        (.exit 0))
       (.seq (.block 1 (.seq (.reg [⟨(some 10), none, .mv (.t 8)⟩,
            ⟨(some 5), none, .mv (.t 10)⟩])
          (.seq (.reg [⟨(some 11), none, .mv (.t 1)⟩,
             ⟨(some 12), none, .mv (.t 0)⟩,
             ⟨(some 13), none, .mv (.t 5)⟩,
             ⟨(some 14), none, .ia 25 (.t 12) (.t 13)⟩,
             ⟨(some 15), none, .ld 9 (.t 14)⟩,
             ⟨(some 16), none, .call (.t 11) [.t 15]⟩])
           (.cond (.t 16)
            (.seq (.reg [⟨(some 17), none, .mv (.t 5)⟩,
               ⟨(some 4), none, .mv (.t 17)⟩])
             (.ret))
            (.skip)))))
        (.reg [⟨(some 18), none, .bin .add 3 (.t 8) (.i .i64 1)⟩,
          ⟨(some 8), none, .mv (.t 18)⟩])))))))
  (.seq (.reg [⟨(some 4), none, .mv (.i .i64 (-1))⟩])
   (.ret)))
theorem b58 : Body Tryd.prog 58 19 [4] k58 := ⟨Enters.of Tryd.func58 (by kernel_rfl) (by kernel_rfl), _, _, Tryd.func58, rfl, by kernel_rfl, rfl, rfl⟩

/-- strings.genSplit -/
def k59 : KC :=
 .seq (.reg [⟨(some 8), none, .mv (.ns)⟩])
 (.seq (.seq (.reg [⟨(some 12), none, .mv (.t 3)⟩,
     ⟨(some 13), none, .bin .eql 3 (.t 12) (.i .i64 0)⟩])
   (.cond (.t 13)
    (.seq (.reg [⟨(some 8), none, .mv (.ns)⟩])
     (.ret))
    (.skip)))
  (.seq (.seq (.reg [⟨(some 14), none, .mv (.t 1)⟩,
      ⟨(some 15), none, .bin .eql 9 (.t 14) (.s ⟨#[]⟩)⟩])
    (.cond (.t 15)
     (.seq (.reg [⟨(some 16), none, .mv (.t 0)⟩,
        ⟨(some 17), none, .mv (.t 3)⟩,
        ⟨(some 18), none, .call (.fn 67) [.t 16, .t 17]⟩,
        ⟨(some 8), none, .mv (.t 18)⟩])
      (.ret))
     (.skip)))
   (.seq (.seq (.reg [⟨(some 19), none, .mv (.t 3)⟩,
       ⟨(some 20), none, .bin .lss 3 (.t 19) (.i .i64 0)⟩])
     (.cond (.t 20)
      (.reg [⟨(some 21), none, .mv (.t 0)⟩,
        ⟨(some 22), none, .mv (.t 1)⟩,
        ⟨(some 23), none, .call (.fn 68) [.t 21, .t 22]⟩,
        ⟨(some 24), none, .bin .add 3 (.t 23) (.i .i64 1)⟩,
        ⟨(some 3), none, .mv (.t 24)⟩])
      (.skip)))
    (.seq (.reg [⟨(some 25), none, .mv (.t 3)⟩,
       ⟨(some 26), none, .mv (.t 0)⟩,
       ⟨(some 27), none, .bi .len [9] [.t 26]⟩,
       ⟨(some 28), none, .bin .add 3 (.t 27) (.i .i64 1)⟩,
       ⟨(some 29), none, .bi .min [3, 3] [.t 25, .t 28]⟩,
       ⟨(some 3), none, .mv (.t 29)⟩])
     (.seq (.reg [⟨(some 30), none, .mv (.t 3)⟩,
        ⟨(some 31), none, .mk 25 (.t 30) (.t 30)⟩,
        ⟨(some 9), none, .mv (.t 31)⟩])
      (.seq (.reg [⟨(some 32), none, .mv (.t 3)⟩,
         ⟨(some 33), none, .bin .sub 3 (.t 32) (.i .i64 1)⟩,
         ⟨(some 3), none, .mv (.t 33)⟩])
       (.seq (.reg [⟨(some 10), none, .mv (.i .i64 0)⟩])
        (.seq (.block 0 (.loop (.seq (.seq (.reg [⟨(some 34), none, .mv (.t 10)⟩,
               ⟨(some 35), none, .mv (.t 3)⟩,
               ⟨(some 36), none, .bin .lss 3 (.t 34) (.t 35)⟩])
             (.cond (.t 36)
              (.skip)
              (.exit 0)))
            (.block 1 (.seq (.reg [⟨(some 37), none, .mv (.t 0)⟩,
                ⟨(some 38), none, .mv (.t 1)⟩,
                ⟨(some 39), none, .call (.fn 69) [.t 37, .t 38]⟩,
                ⟨(some 11), none, .mv (.t 39)⟩])
              (.seq (.seq (.reg [⟨(some 40), none, .mv (.t 11)⟩,
                  ⟨(some 41), none, .bin .lss 3 (.t 40) (.i .i64 0)⟩])
                (.cond (.t 41)
                 (.exit 0)
                 (.skip)))
               (.seq (.reg [⟨(some 42), none, .mv (.t 9)⟩,
                  ⟨(some 43), none, .mv (.t 10)⟩,
                  ⟨(some 44), none, .mv (.t 0)⟩,
                  ⟨(some 45), none, .mv (.t 11)⟩,
                  ⟨(some 46), none, .mv (.t 2)⟩,
                  ⟨(some 47), none, .bin .add 3 (.t 45) (.t 46)⟩,
                  ⟨(some 48), none, .sli 9 (.t 44) none (some (.t 47)) none⟩,
                  ⟨(some 49), none, .ia 25 (.t 42) (.t 43)⟩,
                  ⟨none, none, .st 9 (.t 49) (.t 48)⟩])
                (.seq (.reg [⟨(some 50), none, .mv (.t 0)⟩,
                   ⟨(some 51), none, .mv (.t 11)⟩,
                   ⟨(some 52), none, .mv (.t 1)⟩,
                   ⟨(some 53), none, .bi .len [9] [.t 52]⟩,
                   ⟨(some 54), none, .bin .add 3 (.t 51) (.t 53)⟩,
                   ⟨(some 55), none, .sli 9 (.t 50) (some (.t 54)) none none⟩,
                   ⟨(some 0), none, .mv (.t 55)⟩])
                 (.reg [⟨(some 56), none, .mv (.t 10)⟩,
                   ⟨(some 57), none, .bin .add 3 (.t 56) (.i .i64 1)⟩,
                   ⟨(some 10), none, .mv (.t 57)⟩])))))))))
         (.seq (.reg [⟨(some 58), none, .mv (.t 9)⟩,
            ⟨(some 59), none, .mv (.t 10)⟩,
            ⟨(some 60), none, .mv (.t 0)⟩,
            ⟨(some 61), none, .ia 25 (.t 58) (.t 59)⟩,
            ⟨none, none, .st 9 (.t 61) (.t 60)⟩])
          (.seq (.reg [⟨(some 62), none, .mv (.t 9)⟩,
             ⟨(some 63), none, .mv (.t 10)⟩,
             ⟨(some 64), none, .bin .add 3 (.t 63) (.i .i64 1)⟩,
             ⟨(some 65), none, .sli 25 (.t 62) none (some (.t 64)) none⟩,
             ⟨(some 8), none, .mv (.t 65)⟩])
           (.ret)))))))))))
theorem b59 : Body Tryd.prog 59 66 [8] k59 := ⟨Enters.of Tryd.func59 (by kernel_rfl) (by kernel_rfl), _, _, Tryd.func59, rfl, by kernel_rfl, rfl, rfl⟩

/-- strings.ContainsFunc -/
def k60 : KC :=
 .seq (.reg [⟨(some 4), none, .mv (.b false)⟩])
 (.seq (.reg [⟨(some 5), none, .mv (.t 0)⟩,
    ⟨(some 6), none, .mv (.t 1)⟩,
    ⟨(some 7), none, .call (.fn 70) [.t 5, .t 6]⟩,
    ⟨(some 8), none, .bin .geq 3 (.t 7) (.i .i64 0)⟩,
    ⟨(some 4), none, .mv (.t 8)⟩])
  (.ret))
theorem b60 : Body Tryd.prog 60 9 [4] k60 := ⟨Enters.of Tryd.func60 (by kernel_rfl) (by kernel_rfl), _, _, Tryd.func60, rfl, by kernel_rfl, rfl, rfl⟩

/-- cartridge/path.other -/
def k61 : KC :=
 .seq (.reg [⟨(some 2), none, .mv (.b false)⟩])
 (.seq (.reg [⟨(some 3), none, .mv (.t 0)⟩,
    ⟨(some 4), none, .bin .lss 21 (.t 3) (.i .i32 97)⟩,
    ⟨(some 5), none, .mv (.t 4)⟩,
    ⟨(some 6), (some (5, false)), .mv (.t 0)⟩,
    ⟨(some 7), (some (5, false)), .bin .gtr 21 (.t 6) (.i .i32 122)⟩,
    ⟨(some 8), none, .pk (.t 5) (.b true) (.t 7)⟩,
    ⟨(some 9), none, .mv (.t 8)⟩,
    ⟨(some 10), (some (9, true)), .mv (.t 0)⟩,
    ⟨(some 11), (some (9, true)), .bin .lss 21 (.t 10) (.i .i32 48)⟩,
    ⟨(some 12), (some (9, true)), .mv (.t 11)⟩,
    ⟨(some 13), (some (12, false)), .mv (.t 0)⟩,
    ⟨(some 14), (some (12, false)), .bin .gtr 21 (.t 13) (.i .i32 57)⟩,
    ⟨(some 15), (some (9, true)), .pk (.t 12) (.b true) (.t 14)⟩,
    ⟨(some 16), none, .pk (.t 9) (.t 15) (.b false)⟩,
    ⟨(some 17), none, .mv (.t 16)⟩,
    ⟨(some 18), (some (17, true)), .mv (.t 0)⟩,
    ⟨(some 19), (some (17, true)), .bin .neq 21 (.t 18) (.i .i32 46)⟩,
    ⟨(some 20), none, .pk (.t 17) (.t 19) (.b false)⟩,
    ⟨(some 21), none, .mv (.t 20)⟩,
    ⟨(some 22), (some (21, true)), .mv (.t 0)⟩,
    ⟨(some 23), (some (21, true)), .bin .neq 21 (.t 22) (.i .i32 45)⟩,
    ⟨(some 24), none, .pk (.t 21) (.t 23) (.b false)⟩,
    ⟨(some 25), none, .mv (.t 24)⟩,
    ⟨(some 26), (some (25, true)), .mv (.t 0)⟩,
    ⟨(some 27), (some (25, true)), .bin .neq 21 (.t 26) (.i .i32 95)⟩,
    ⟨(some 28), none, .pk (.t 25) (.t 27) (.b false)⟩,
    ⟨(some 2), none, .mv (.t 28)⟩])
  (.ret))
theorem b61 : Body Tryd.prog 61 29 [2] k61 := ⟨Enters.of Tryd.func61 (by kernel_rfl) (by kernel_rfl), _, _, Tryd.func61, rfl, by kernel_rfl, rfl, rfl⟩

/-- internal/stringslite.HasPrefix -/
def k62 : KC :=
 .seq (.reg [⟨(some 4), none, .mv (.b false)⟩])
 (.seq (.reg [⟨(some 5), none, .mv (.t 0)⟩,
    ⟨(some 6), none, .bi .len [9] [.t 5]⟩,
    ⟨(some 7), none, .mv (.t 1)⟩,
    ⟨(some 8), none, .bi .len [9] [.t 7]⟩,
    ⟨(some 9), none, .bin .geq 3 (.t 6) (.t 8)⟩,
    ⟨(some 10), none, .mv (.t 9)⟩,
    ⟨(some 11), (some (10, true)), .mv (.t 0)⟩,
    ⟨(some 12), (some (10, true)), .mv (.t 1)⟩,
    ⟨(some 13), (some (10, true)), .bi .len [9] [.t 12]⟩,
    ⟨(some 14), (some (10, true)), .sli 9 (.t 11) none (some (.t 13)) none⟩,
    ⟨(some 15), (some (10, true)), .mv (.t 1)⟩,
    ⟨(some 16), (some (10, true)), .bin .eql 9 (.t 14) (.t 15)⟩,
    ⟨(some 17), none, .pk (.t 10) (.t 16) (.b false)⟩,
    ⟨(some 4), none, .mv (.t 17)⟩])
  (.ret))
theorem b62 : Body Tryd.prog 62 18 [4] k62 := ⟨Enters.of Tryd.func62 (by kernel_rfl) (by kernel_rfl), _, _, Tryd.func62, rfl, by kernel_rfl, rfl, rfl⟩

/-- strings.Count -/
def k68 : KC :=
 .seq (.reg [⟨(some 4), none, .mv (.i .i64 0)⟩])
 (.seq (.seq (.reg [⟨(some 7), none, .mv (.t 1)⟩,
     ⟨(some 8), none, .bi .len [9] [.t 7]⟩,
     ⟨(some 9), none, .bin .eql 3 (.t 8) (.i .i64 0)⟩])
   (.cond (.t 9)
    (.seq (.reg [⟨(some 10), none, .mv (.t 0)⟩,
       ⟨(some 11), none, .call (.fn 71) [.t 10]⟩,
       ⟨(some 12), none, .bin .add 3 (.t 11) (.i .i64 1)⟩,
       ⟨(some 4), none, .mv (.t 12)⟩])
     (.ret))
    (.skip)))
  (.seq (.seq (.reg [⟨(some 13), none, .mv (.t 1)⟩,
      ⟨(some 14), none, .bi .len [9] [.t 13]⟩,
      ⟨(some 15), none, .bin .eql 3 (.t 14) (.i .i64 1)⟩])
    (.cond (.t 15)
     (.seq (.reg [⟨(some 16), none, .mv (.t 0)⟩,
        ⟨(some 17), none, .mv (.t 1)⟩,
        ⟨(some 18), none, .ix 9 (.t 17) (.i .i64 0)⟩,
        ⟨(some 19), none, .call (.fn 73) [.t 16, .t 18]⟩,
        ⟨(some 4), none, .mv (.t 19)⟩])
      (.ret))
     (.skip)))
   (.seq (.reg [⟨(some 5), none, .mv (.i .i64 0)⟩])
    (.block 0 (.loop (.block 1 (.seq (.reg [⟨(some 20), none, .mv (.t 0)⟩,
          ⟨(some 21), none, .mv (.t 1)⟩,
          ⟨(some 22), none, .call (.fn 69) [.t 20, .t 21]⟩,
          ⟨(some 6), none, .mv (.t 22)⟩])
        (.seq (.seq (.reg [⟨(some 23), none, .mv (.t 6)⟩,
            ⟨(some 24), none, .bin .eql 3 (.t 23) (.i .i64 (-1))⟩])
          (.cond (.t 24)
           (.seq (.reg [⟨(some 25), none, .mv (.t 5)⟩,
              ⟨(some 4), none, .mv (.t 25)⟩])
            (.ret))
           (.skip)))
         (.seq (.reg [⟨(some 26), none, .mv (.t 5)⟩,
            ⟨(some 27), none, .bin .add 3 (.t 26) (.i .i64 1)⟩,
            ⟨(some 5), none, .mv (.t 27)⟩])
          (.reg [⟨(some 28), none, .mv (.t 0)⟩,
            ⟨(some 29), none, .mv (.t 6)⟩,
            ⟨(some 30), none, .mv (.t 1)⟩,
            ⟨(some 31), none, .bi .len [9] [.t 30]⟩,
            ⟨(some 32), none, .bin .add 3 (.t 29) (.t 31)⟩,
            ⟨(some 33), none, .sli 9 (.t 28) (some (.t 32)) none none⟩,
            ⟨(some 0), none, .mv (.t 33)⟩]))))))))))
theorem b68 : Body Tryd.prog 68 34 [4] k68 := ⟨Enters.of Tryd.func68 (by kernel_rfl) (by kernel_rfl), _, _, Tryd.func68, rfl, by kernel_rfl, rfl, rfl⟩

/-- strings.Index -/
def k69 : KC :=
 .seq (.reg [⟨(some 4), none, .mv (.i .i64 0)⟩])
 (.seq (.reg [⟨(some 5), none, .mv (.t 0)⟩,
    ⟨(some 6), none, .mv (.t 1)⟩,
    ⟨(some 7), none, .call (.fn 74) [.t 5, .t 6]⟩,
    ⟨(some 4), none, .mv (.t 7)⟩])
  (.ret))
theorem b69 : Body Tryd.prog 69 8 [4] k69 := ⟨Enters.of Tryd.func69 (by kernel_rfl) (by kernel_rfl), _, _, Tryd.func69, rfl, by kernel_rfl, rfl, rfl⟩

/-- strings.IndexFunc -/
def k70 : KC :=
 .seq (.reg [⟨(some 4), none, .mv (.i .i64 0)⟩])
 (.seq (.reg [⟨(some 5), none, .mv (.t 0)⟩,
    ⟨(some 6), none, .mv (.t 1)⟩,
    ⟨(some 7), none, .call (.fn 75) [.t 5, .t 6, .b true]⟩,
    ⟨(some 4), none, .mv (.t 7)⟩])
  (.ret))
theorem b70 : Body Tryd.prog 70 8 [4] k70 := ⟨Enters.of Tryd.func70 (by kernel_rfl) (by kernel_rfl), _, _, Tryd.func70, rfl, by kernel_rfl, rfl, rfl⟩

/-- internal/stringslite.Index -/
def k74 : KC :=
 .seq (.reg [⟨(some 4), none, .mv (.i .i64 0)⟩])
 (.seq (.reg [⟨(some 14), none, .mv (.t 1)⟩,
    ⟨(some 15), none, .bi .len [9] [.t 14]⟩,
    ⟨(some 5), none, .mv (.t 15)⟩])
  (.seq (.block 0 (.seq (.reg [⟨(some 17), none, .mv (.t 5)⟩,
       ⟨(some 18), none, .bin .eql 3 (.t 17) (.i .i64 0)⟩,
       ⟨(some 19), none, .mv (.t 18)⟩,
       ⟨(some 20), (some (19, false)), .mv (.t 1)⟩,
       ⟨(some 21), (some (19, false)), .mv (.t 0)⟩,
       ⟨(some 22), (some (19, false)), .bin .eql 9 (.t 20) (.t 21)⟩,
       ⟨(some 23), none, .pk (.t 19) (.b true) (.t 22)⟩,
       ⟨(some 16), none, .mv (.t 23)⟩])
     (.cond (.t 16)
      (.seq (.reg [⟨(some 4), none, .mv (.i .i64 0)⟩])
       (.ret))
      (.seq (.reg [⟨(some 25), none, .mv (.t 5)⟩,
         ⟨(some 26), none, .bin .eql 3 (.t 25) (.i .i64 1)⟩,
         ⟨(some 24), none, .mv (.t 26)⟩])
       (.cond (.t 24)
        (.seq (.reg [⟨(some 27), none, .mv (.t 0)⟩,
           ⟨(some 28), none, .mv (.t 1)⟩,
           ⟨(some 29), none, .ix 9 (.t 28) (.i .i64 0)⟩,
           ⟨(some 30), none, .call (.fn 77) [.t 27, .t 29]⟩,
           ⟨(some 4), none, .mv (.t 30)⟩])
         (.ret))
        (.seq (.reg [⟨(some 32), none, .mv (.t 5)⟩,
           ⟨(some 33), none, .mv (.t 0)⟩,
           ⟨(some 34), none, .bi .len [9] [.t 33]⟩,
           ⟨(some 35), none, .bin .geq 3 (.t 32) (.t 34)⟩,
           ⟨(some 31), none, .mv (.t 35)⟩])
         (.cond (.t 31)
          (.seq (.reg [⟨(some 4), none, .mv (.i .i64 (-1))⟩])
           (.ret))
          (.seq (.reg [⟨(some 37), none, .mv (.t 5)⟩,
             ⟨(some 38), none, .ld 3 (.gl 0)⟩,
             ⟨(some 39), none, .bin .leq 3 (.t 37) (.t 38)⟩,
             ⟨(some 40), none, .mv (.t 39)⟩,
             ⟨(some 41), (some (40, true)), .mv (.t 0)⟩,
             ⟨(some 42), (some (40, true)), .bi .len [9] [.t 41]⟩,
             ⟨(some 43), (some (40, true)), .bin .leq 3 (.t 42) (.i .i64 64)⟩,
             ⟨(some 44), none, .pk (.t 40) (.t 43) (.b false)⟩,
             ⟨(some 36), none, .mv (.t 44)⟩])
           (.cond (.t 36)
            (.seq (.reg [⟨(some 45), none, .mv (.t 0)⟩,
               ⟨(some 46), none, .mv (.t 1)⟩,
               ⟨(some 47), none, .call (.fn 78) [.t 45, .t 46]⟩,
               ⟨(some 4), none, .mv (.t 47)⟩])
             (.ret))
            (.skip))))))))))
   (.seq (.reg [⟨(some 48), none, .mv (.t 1)⟩,
      ⟨(some 49), none, .ix 9 (.t 48) (.i .i64 0)⟩,
      ⟨(some 6), none, .mv (.t 49)⟩])
    (.seq (.reg [⟨(some 50), none, .mv (.t 1)⟩,
       ⟨(some 51), none, .ix 9 (.t 50) (.i .i64 1)⟩,
       ⟨(some 7), none, .mv (.t 51)⟩])
     (.seq (.reg [⟨(some 8), none, .mv (.i .i64 0)⟩])
      (.seq (.reg [⟨(some 52), none, .mv (.t 0)⟩,
         ⟨(some 53), none, .bi .len [9] [.t 52]⟩,
         ⟨(some 54), none, .mv (.t 5)⟩,
         ⟨(some 55), none, .bin .sub 3 (.t 53) (.t 54)⟩,
         ⟨(some 56), none, .bin .add 3 (.t 55) (.i .i64 1)⟩,
         ⟨(some 9), none, .mv (.t 56)⟩])
       (.seq (.reg [⟨(some 10), none, .mv (.i .i64 0)⟩])
        (.seq (.block 1 (.loop (.seq (.seq (.reg [⟨(some 57), none, .mv (.t 8)⟩,
               ⟨(some 58), none, .mv (.t 9)⟩,
               ⟨(some 59), none, .bin .lss 3 (.t 57) (.t 58)⟩])
             (.cond (.t 59)
              (.skip)
              (.exit 1)))
            (.block 2 (.seq (.seq (.reg [⟨(some 60), none, .mv (.t 0)⟩,
                 ⟨(some 61), none, .mv (.t 8)⟩,
                 ⟨(some 62), none, .ix 9 (.t 60) (.t 61)⟩,
                 ⟨(some 63), none, .mv (.t 6)⟩,
                 ⟨(some 64), none, .bin .neq 5 (.t 62) (.t 63)⟩])
               (.cond (.t 64)
                (.seq (.reg [⟨(some 65), none, .mv (.t 0)⟩,
                   ⟨(some 66), none, .mv (.t 8)⟩,
                   ⟨(some 67), none, .bin .add 3 (.t 66) (.i .i64 1)⟩,
                   ⟨(some 68), none, .mv (.t 9)⟩,
                   ⟨(some 69), none, .sli 9 (.t 65) (some (.t 67)) (some (.t 68)) none⟩,
                   ⟨(some 70), none, .mv (.t 6)⟩,
                   ⟨(some 71), none, .call (.fn 77) [.t 69, .t 70]⟩,
                   ⟨(some 11), none, .mv (.t 71)⟩])
                 (.seq (.seq (.reg [⟨(some 72), none, .mv (.t 11)⟩,
                     ⟨(some 73), none, .bin .lss 3 (.t 72) (.i .i64 0)⟩])
                   (.cond (.t 73)
                    (.seq (.reg [⟨(some 4), none, .mv (.i .i64 (-1))⟩])
                     (.ret))
                    (.skip)))
                  (.reg [⟨(some 74), none, .mv (.t 8)⟩,
                    ⟨(some 75), none, .mv (.t 11)⟩,
                    ⟨(some 76), none, .bin .add 3 (.t 75) (.i .i64 1)⟩,
                    ⟨(some 77), none, .bin .add 3 (.t 74) (.t 76)⟩,
                    ⟨(some 8), none, .mv (.t 77)⟩])))
                (.skip)))
              (.seq (.seq (.reg [⟨(some 78), none, .mv (.t 0)⟩,
                  ⟨(some 79), none, .mv (.t 8)⟩,
                  ⟨(some 80), none, .bin .add 3 (.t 79) (.i .i64 1)⟩,
                  ⟨(some 81), none, .ix 9 (.t 78) (.t 80)⟩,
                  ⟨(some 82), none, .mv (.t 7)⟩,
                  ⟨(some 83), none, .bin .eql 5 (.t 81) (.t 82)⟩,
                  ⟨(some 84), none, .mv (.t 83)⟩,
                  ⟨(some 85), (some (84, true)), .mv (.t 0)⟩,
                  ⟨(some 86), (some (84, true)), .mv (.t 8)⟩,
                  ⟨(some 87), (some (84, true)), .mv (.t 8)⟩,
                  ⟨(some 88), (some (84, true)), .mv (.t 5)⟩,
                  ⟨(some 89), (some (84, true)), .bin .add 3 (.t 87) (.t 88)⟩,
                  ⟨(some 90), (some (84, true)), .sli 9 (.t 85) (some (.t 86)) (some (.t 89)) none⟩,
                  ⟨(some 91), (some (84, true)), .mv (.t 1)⟩,
                  ⟨(some 92), (some (84, true)), .bin .eql 9 (.t 90) (.t 91)⟩,
                  ⟨(some 93), none, .pk (.t 84) (.t 92) (.b false)⟩])
                (.cond (.t 93)
                 (.seq (.reg [⟨(some 94), none, .mv (.t 8)⟩,
                    ⟨(some 4), none, .mv (.t 94)⟩])
                  (.ret))
                 (.skip)))
               (.seq (.reg [⟨(some 95), none, .mv (.t 8)⟩,
                  ⟨(some 96), none, .bin .add 3 (.t 95) (.i .i64 1)⟩,
                  ⟨(some 8), none, .mv (.t 96)⟩])
                (.seq (.reg [⟨(some 97), none, .mv (.t 10)⟩,
                   ⟨(some 98), none, .bin .add 3 (.t 97) (.i .i64 1)⟩,
                   ⟨(some 10), none, .mv (.t 98)⟩])
                 (.seq (.reg [⟨(some 99), none, .mv (.t 5)⟩,
                    ⟨(some 100), none, .ld 3 (.gl 0)⟩,
                    ⟨(some 101), none, .bin .leq 3 (.t 99) (.t 100)⟩,
                    ⟨(some 102), none, .mv (.t 101)⟩,
                    ⟨(some 103), (some (102, true)), .mv (.t 10)⟩,
                    ⟨(some 104), (some (102, true)), .mv (.t 8)⟩,
                    ⟨(some 105), (some (102, true)), .call (.fn 79) [.t 104]⟩,
                    ⟨(some 106), (some (102, true)), .bin .gtr 3 (.t 103) (.t 105)⟩,
                    ⟨(some 107), none, .pk (.t 102) (.t 106) (.b false)⟩])
                  (.cond (.t 107)
                   (.seq (.reg [⟨(some 108), none, .mv (.t 0)⟩,
                      ⟨(some 109), none, .mv (.t 8)⟩,
                      ⟨(some 110), none, .sli 9 (.t 108) (some (.t 109)) none none⟩,
                      ⟨(some 111), none, .mv (.t 1)⟩,
                      ⟨(some 112), none, .call (.fn 78) [.t 110, .t 111]⟩,
                      ⟨(some 12), none, .mv (.t 112)⟩])
                    (.seq (.seq (.reg [⟨(some 113), none, .mv (.t 12)⟩,
                        ⟨(some 114), none, .bin .geq 3 (.t 113) (.i .i64 0)⟩])
                      (.cond (.t 114)
                       (.seq (.reg [⟨(some 115), none, .mv (.t 12)⟩,
                          ⟨(some 116), none, .mv (.t 8)⟩,
                          ⟨(some 117), none, .bin .add 3 (.t 115) (.t 116)⟩,
                          ⟨(some 4), none, .mv (.t 117)⟩])
                        (.ret))
                       (.skip)))
                     (.seq (.reg [⟨(some 4), none, .mv (.i .i64 (-1))⟩])
                      (.ret))))
                   (.seq (.reg [⟨(some 118), none, .mv (.t 5)⟩,
                      ⟨(some 119), none, .ld 3 (.gl 0)⟩,
                      ⟨(some 120), none, .bin .gtr 3 (.t 118) (.t 119)⟩,
                      ⟨(some 121), none, .mv (.t 120)⟩,
                      ⟨(some 122), (some (121, true)), .mv (.t 10)⟩,
                      ⟨(some 123), (some (121, true)), .mv (.t 8)⟩,
                      ⟨(some 124), (some (121, true)), .bin .shr 3 (.t 123) (.i .u64 4)⟩,
                      ⟨(some 125), (some (121, true)), .bin .add 3 (.i .i64 4) (.t 124)⟩,
                      ⟨(some 126), (some (121, true)), .bin .geq 3 (.t 122) (.t 125)⟩,
                      ⟨(some 127), none, .pk (.t 121) (.t 126) (.b false)⟩,
                      ⟨(some 128), none, .mv (.t 127)⟩,
                      ⟨(some 129), (some (128, true)), .mv (.t 8)⟩,
                      ⟨(some 130), (some (128, true)), .mv (.t 9)⟩,
                      ⟨(some 131), (some (128, true)), .bin .lss 3 (.t 129) (.t 130)⟩,
                      ⟨(some 132), none, .pk (.t 128) (.t 131) (.b false)⟩])
                    (.cond (.t 132)
                     (.seq (.reg [⟨(some 133), none, .mv (.t 0)⟩,
                        ⟨(some 134), none, .mv (.t 8)⟩,
                        ⟨(some 135), none, .sli 9 (.t 133) (some (.t 134)) none none⟩,
                        ⟨(some 136), none, .mv (.t 1)⟩,
                        ⟨(some 137), none, .call (.fn 80) [.t 135, .t 136]⟩,
                        ⟨(some 13), none, .mv (.t 137)⟩])
                      (.seq (.seq (.reg [⟨(some 138), none, .mv (.t 13)⟩,
                          ⟨(some 139), none, .bin .lss 3 (.t 138) (.i .i64 0)⟩])
                        (.cond (.t 139)
                         (.seq (.reg [⟨(some 4), none, .mv (.i .i64 (-1))⟩])
                          (.ret))
                         (.skip)))
                       (.seq (.reg [⟨(some 140), none, .mv (.t 8)⟩,
                          ⟨(some 141), none, .mv (.t 13)⟩,
                          ⟨(some 142), none, .bin .add 3 (.t 140) (.t 141)⟩,
                          ⟨(some 4), none, .mv (.t 142)⟩])
                        (.ret))))
                     (.skip)))))))))))))
         (.seq (.reg [⟨(some 4), none, .mv (.i .i64 (-1))⟩])
          (.ret))))))))))
theorem b74 : Body Tryd.prog 74 143 [4] k74 := ⟨Enters.of Tryd.func74 (by kernel_rfl) (by kernel_rfl), _, _, Tryd.func74, rfl, by kernel_rfl, rfl, rfl⟩

/-- strings.indexFunc -/
def k75 : KC :=
 .seq (.reg [⟨(some 6), none, .mv (.i .i64 0)⟩])
 (.seq (.seq (.reg [⟨(some 9), none, .mv (.t 0)⟩,
     ⟨(some 10), none, .unk⟩])
   (.block 0 (.loop (.seq (.reg [⟨(some 11), none, .unk⟩,
        ⟨(some 12), none, .ex (.t 11) 0⟩])
      (.seq (.cond (.t 12)
        (.skip)
        (.exit 0))
       (.block 1 (.seq (.reg [⟨(some 13), none, .ex (.t 11) 1⟩,
           ⟨(some 14), none, .ex (.t 11) 2⟩,
           ⟨(some 7), none, .mv (.t 13)⟩,
           ⟨(some 8), none, .mv (.t 14)⟩])
         (.seq (.reg [⟨(some 15), none, .mv (.t 1)⟩,
            ⟨(some 16), none, .mv (.t 8)⟩,
            ⟨(some 17), none, .call (.t 15) [.t 16]⟩,
            ⟨(some 18), none, .mv (.t 2)⟩,
            ⟨(some 19), none, .bin .eql 4 (.t 17) (.t 18)⟩])
          (.cond (.t 19)
           (.seq (.reg [⟨(some 20), none, .mv (.t 7)⟩,
              ⟨(some 6), none, .mv (.t 20)⟩])
            (.ret))
           (.skip))))))))))
  (.seq (.reg [⟨(some 6), none, .mv (.i .i64 (-1))⟩])
   (.ret)))
theorem b75 : Body Tryd.prog 75 21 [6] k75 := ⟨Enters.of Tryd.func75 (by kernel_rfl) (by kernel_rfl), _, _, Tryd.func75, rfl, by kernel_rfl, rfl, rfl⟩

/-- internal/stringslite.IndexByte -/
def k77 : KC :=
 .seq (.reg [⟨(some 4), none, .mv (.i .i64 0)⟩])
 (.seq (.reg [⟨(some 5), none, .mv (.t 0)⟩,
    ⟨(some 6), none, .mv (.t 1)⟩,
    ⟨(some 7), none, .call (.fn 81) [.t 5, .t 6]⟩,
    ⟨(some 4), none, .mv (.t 7)⟩])
  (.ret))
theorem b77 : Body Tryd.prog 77 8 [4] k77 := ⟨Enters.of Tryd.func77 (by kernel_rfl) (by kernel_rfl), _, _, Tryd.func77, rfl, by kernel_rfl, rfl, rfl⟩

end Go.Proofs.YtpipaggkbiapjaaDoor
