import Derived.Test.YtliahlgkinhjlaaDoorAmT
/- The code, cooked, and tied to the program's; written by gen.py. -/
namespace Go.Proofs.YtliahlgkinhjlaaDoor
open Go.AM

/-- cartridge/cartridgelaw11.VolumeFinds -/
noncomputable def drw5_0 : Array Oper := ((Tryd.f5.body.map regs).getD []).getD 0 #[]
noncomputable def drw5_1 : Array Oper := ((Tryd.f5.body.map regs).getD []).getD 1 #[]
noncomputable def k5 : KC :=
 .seq (.reg [kO 4 (.mv (.b false))])
 (.seq (.reg [kO 19 (.call (.fn 12) []), kM 5 19])
 (.seq (.seq (.reg [kM 20 5, kO 21 (.un .not (.t 20)), kM 22 21, kG 23 22 (.mv (.t 0)), kG 24 22 (.bi .len [36] [.t 23]), kG 25 22 (.bin .gtr 3 (.t 24) (kI 8)),
 kO 26 (.pk (.t 22) (.b true) (.t 25)), kM 27 26, kG 28 27 (.mv (.t 1)), kG 29 27 (.bi .len [36] [.t 28]), kG 30 27 (.bin .gtr 3 (.t 29) (kI 10)),
 kO 31 (.pk (.t 27) (.b true) (.t 30))])
 (.cond (.t 31) (.seq (.reg [kM 32 5, kM 4 32])
 (.ret))
 (.skip)))
 (.seq (.reg [kO 33 (.bld 38 [(0, .i .i64 7), (1, .i .i64 64)]), kO 6 (.al 38), kN (.st 38 (.t 6) (.t 33))])
 (.seq (.reg [kO 35 (.bsl 24 1 [(0, .i .u8 68)]), kO 36 (.cvt 24 24 (.t 35)), kO 37 (.bld 42 [(0, .i .i64 1), (1, .i .i64 7), (3, .t 36)]),
 kO 38 (.call (.fn 19) [.t 37]), kM 34 38, kO 39 (.ex (.t 34) 0), kO 40 (.ex (.t 34) 1), kM 7 39, kM 8 40])
 (.seq (.reg [kO 41 (.fa 38 (.t 6) 2), kO 42 (.ld 26 (.t 41)), kM 43 7, kO 44 (.bsl 26 1 [(0, .t 43)]), kO 45 (.bi .append [26, 26] [.t 42, .t 44]),
 kO 46 (.fa 38 (.t 6) 2), kN (.st 26 (.t 46) (.t 45))])
 (.seq (.reg [kO 9 (.mv (.ns))])
 (.seq (.seq (.reg [kO 10 (.mv (kI 0))])
 (.block 0 (.loop (.seq (.seq (.reg [kM 47 10, kM 48 0, kO 49 (.bi .len [36] [.t 48]), kO 50 (.bin .lss 3 (.t 47) (.t 49))])
 (.cond (.t 50) (.skip)
 (.exit 0)))
 (.seq (.block 1 (.seq (.reg [kM 53 0, kM 54 10, kO 55 (.ia 36 (.t 53) (.t 54)), kO 56 (.ld 3 (.t 55)), kO 57 (.bin .and 3 (.t 56) (kI 127)), kM 11 57])
 (.seq (.reg [kM 58 10, kO 59 (.bin .add 3 (.t 58) (kI 1)), kM 60 11, kM 61 11,
 kO 62 (.bld 23 [(0, .s ⟨#[97]⟩), (1, .t 59), (5, .i .i64 1), (2, .t 60), (4, .t 61)]), kO 12 (.al 23), kN (.st 23 (.t 12) (.t 62))])
 (.seq (.drw drw5_0 [kO 64 (.fa 38 (.t 6) 2), kO 65 (.ld 26 (.t 64)), kO 66 (.bi .len [26] [.t 65]), kO 67 (.ld 23 (.t 12)), kM 68 11, kO 69 (.mk 24 (.t 68) (.t 68)),
 kO 70 (.call (.fn 14) [.i .i64 7, .t 66, .t 67, .t 69]), kM 63 70, kO 71 (.ex (.t 63) 0), kO 72 (.ex (.t 63) 1), kM 13 71, kM 14 72])
 (.seq (.reg [kM 73 9, kO 74 (.ld 23 (.t 12)), kO 75 (.fa 38 (.t 6) 2), kO 76 (.ld 26 (.t 75)), kO 77 (.bi .len [26] [.t 76]),
 kO 78 (.bld 48 [(0, .t 74), (1, .i .i64 7), (2, .t 77)]), kO 79 (.bsl 44 1 [(0, .t 78)]), kO 80 (.bi .append [44, 44] [.t 73, .t 79]), kM 9 80])
 (.reg [kO 81 (.fa 38 (.t 6) 2), kO 82 (.ld 26 (.t 81)), kM 83 13, kO 84 (.bi .append [26, 26] [.t 82, .t 83]), kO 85 (.fa 38 (.t 6) 2),
 kN (.st 26 (.t 85) (.t 84))]))))))
 (.reg [kM 51 10, kO 52 (.bin .add 3 (.t 51) (kI 1)), kM 10 52]))))))
 (.seq (.seq (.reg [kO 15 (.mv (kI 0))])
 (.block 2 (.loop (.seq (.seq (.reg [kM 86 15, kM 87 1, kO 88 (.bi .len [36] [.t 87]), kO 89 (.bin .lss 3 (.t 86) (.t 88))])
 (.cond (.t 89) (.skip)
 (.exit 2)))
 (.seq (.block 3 (.seq (.drw drw5_1 [kM 92 1, kM 93 15, kO 94 (.ia 36 (.t 92) (.t 93)), kO 95 (.ld 3 (.t 94)), kO 96 (.bin .and 3 (.t 95) (kI 1023)), kO 97 (.fa 38 (.t 6) 2),
 kO 98 (.ld 26 (.t 97)), kO 99 (.bi .len [26] [.t 98]), kO 100 (.bin .rem 3 (.t 96) (.t 99)), kM 16 100])
 (.seq (.reg [kO 102 (.fa 38 (.t 6) 2), kO 103 (.ld 26 (.t 102)), kM 104 16, kO 105 (.ia 26 (.t 103) (.t 104)), kO 106 (.ld 24 (.t 105)),
 kO 107 (.call (.fn 22) [.t 106]), kM 101 107, kO 108 (.ex (.t 101) 0), kO 109 (.ex (.t 101) 1), kO 17 (.al 42), kN (.st 42 (.t 17) (.t 108)),
 kM 18 109])
 (.seq (.reg [kM 110 18, kO 111 (.bin .eql 3 (.t 110) (kI 0)), kM 112 111, kT 113 112 (.fa 42 (.t 17) 0), kT 114 112 (.ld 3 (.t 113)),
 kT 115 112 (.bin .neq 3 (.t 114) (kI 2)), kO 116 (.pk (.t 112) (.t 115) (.b false))])
 (.cond (.t 116) (.reg [kO 117 (.fa 38 (.t 6) 2), kO 118 (.ld 26 (.t 117)), kM 119 16, kO 120 (.ia 26 (.t 118) (.t 119)), kO 121 (.ld 24 (.t 120)),
 kO 122 (.ia 24 (.t 121) (kI 0)), kN (.st 5 (.t 122) (.i .u8 0))])
 (.skip))))))
 (.reg [kM 90 15, kO 91 (.bin .add 3 (.t 90) (kI 1)), kM 15 91]))))))
 (.seq (.reg [kO 123 (.ld 38 (.t 6)), kO 124 (.call (.fn 21) [.t 123]), kM 125 9, kO 126 (.call (.fn 23) [.t 124, .t 125]), kM 4 126])
 (.ret))))))))))
theorem b5 : Body Tryd.prog 5 127 [4] k5 := ⟨Enters.of Tryd.func5 (by kernel_rfl) (by kernel_rfl), _, _, Tryd.func5, rfl, by kernel_rfl, rfl, rfl⟩

/-- cartridge/cartridgelaw11.alive -/
def k12 : KC :=
 .seq (.reg [kO 0 (.mv (.b false))])
 (.seq (.reg [kO 4 (.bld 23 [(0, .s ⟨#[97]⟩), (1, .i .i64 1), (5, .i .i64 1)]), kO 5 (.call (.fn 13) [.i .i64 1, .i .i64 1, .t 4, .ns]), kM 3 5,
 kO 6 (.ex (.t 3) 0), kO 7 (.ex (.t 3) 1), kM 1 6, kM 2 7])
 (.seq (.reg [kO 8 (.call (.fn 17) [.i .i64 0]), kO 9 (.bin .eql 3 (.t 8) (kI 2)), kM 10 9, kT 11 10 (.mv (.t 2)), kT 12 10 (.call (.fn 16) [.t 11]),
 kT 13 10 (.bin .eql 3 (.t 12) (kI 0)), kO 14 (.pk (.t 10) (.t 13) (.b false)), kM 15 14, kT 16 15 (.mv (.t 1)), kT 17 15 (.bi .len [26] [.t 16]),
 kT 18 15 (.bin .eql 3 (.t 17) (kI 2)), kO 19 (.pk (.t 15) (.t 18) (.b false)), kM 20 19, kT 21 20 (.bld 38 []), kT 22 20 (.call (.fn 20) [.t 21]),
 kT 23 20 (.bin .eql 3 (.t 22) (kI 0)), kO 24 (.pk (.t 20) (.t 23) (.b false)), kM 0 24])
 (.ret)))
theorem b12 : Body Tryd.prog 12 25 [0] k12 := ⟨Enters.of Tryd.func12 (by kernel_rfl) (by kernel_rfl), _, _, Tryd.func12, rfl, by kernel_rfl, rfl, rfl⟩

/-- cartridge/volume.Blocks -/
def k13 : KC :=
 .seq (.reg [kO 6 (.box 23 (.t 2)), kO 8 (.mv (.ns)), kO 9 (.mv (kI 0))])
 (.seq (.seq (.reg [kO 16 (.ld 23 (.t 6)), kO 17 (.call (.fn 41) [.t 16]), kO 18 (.un .not (.t 17)), kM 19 18, kG 20 19 (.mv (.t 3)), kG 21 19 (.bi .len [24] [.t 20]),
 kG 22 19 (.fa 23 (.t 6) 4), kG 23 19 (.ld 3 (.t 22)), kG 24 19 (.bin .neq 3 (.t 21) (.t 23)), kO 25 (.pk (.t 19) (.b true) (.t 24))])
 (.cond (.t 25) (.seq (.reg [kO 8 (.mv (.ns)), kO 9 (.mv (kI 1))])
 (.ret))
 (.skip)))
 (.seq (.reg [kO 26 (.ld 23 (.t 6)), kO 27 (.call (.fn 42) [.t 26]), kO 28 (.bld 42 [(0, .i .i64 2), (3, .t 27)]), kO 29 (.bsl 97 1 [(0, .t 28)]), kM 10 29])
 (.seq (.block 0 (.loop (.seq (.seq (.reg [kM 30 3, kO 31 (.bi .len [24] [.t 30]), kO 32 (.bin .gtr 3 (.t 31) (kI 0))])
 (.cond (.t 32) (.skip)
 (.exit 0)))
 (.seq (.block 1 (.reg [kM 38 10, kM 39 3, kM 40 3, kO 41 (.bi .len [24] [.t 40]), kO 42 (.bi .min [3, 3] [.t 41, .i .i64 64]),
 kO 43 (.sli 24 (.t 39) none (some (.t 42)) none), kO 44 (.bld 42 [(0, .i .i64 3), (3, .t 43)]), kO 45 (.bsl 97 1 [(0, .t 44)]),
 kO 46 (.bi .append [97, 97] [.t 38, .t 45]), kM 10 46]))
 (.reg [kM 33 3, kM 34 3, kO 35 (.bi .len [24] [.t 34]), kO 36 (.bi .min [3, 3] [.t 35, .i .i64 64]), kO 37 (.sli 24 (.t 33) (some (.t 36)) none none),
 kM 3 37])))))
 (.seq (.reg [kM 47 10, kO 48 (.bld 42 [(0, .i .i64 4)]), kO 49 (.bsl 97 1 [(0, .t 48)]), kO 50 (.bi .append [97, 97] [.t 47, .t 49]), kM 10 50])
 (.seq (.reg [kO 11 (.mv (.ns))])
 (.seq (.seq (.reg [kM 51 10, kO 52 (.bi .len [97] [.t 51]), kO 53 (.mv (kI 0))])
 (.block 2 (.loop (.seq (.reg [kO 54 (.bin .lss 3 (.t 53) (.t 52))])
 (.seq (.cond (.t 54) (.skip)
 (.exit 2))
 (.seq (.block 3 (.seq (.reg [kM 55 53, kO 56 (.ia 97 (.t 51) (.t 53)), kO 57 (.ld 42 (.t 56)), kO 13 (.al 42), kM 12 55, kN (.st 42 (.t 13) (.t 57))])
 (.seq (.reg [kM 58 0, kM 59 1, kM 60 12, kO 61 (.bin .add 3 (.t 59) (.t 60)), kO 62 (.fa 42 (.t 13) 1), kN (.st 3 (.t 62) (.t 58)), kO 63 (.fa 42 (.t 13) 2),
 kN (.st 3 (.t 63) (.t 61))])
 (.seq (.reg [kO 65 (.ld 42 (.t 13)), kO 66 (.call (.fn 43) [.t 65]), kM 64 66, kO 67 (.ex (.t 64) 0), kO 68 (.ex (.t 64) 1), kM 14 67, kM 15 68])
 (.seq (.seq (.reg [kM 69 15, kO 70 (.bin .neq 27 (.t 69) (kI 0))])
 (.cond (.t 70) (.seq (.reg [kM 71 15, kO 8 (.mv (.ns)), kM 9 71])
 (.ret))
 (.skip)))
 (.reg [kM 72 11, kM 73 14, kO 74 (.bsl 26 1 [(0, .t 73)]), kO 75 (.bi .append [26, 26] [.t 72, .t 74]), kM 11 75]))))))
 (.reg [kO 76 (.bin .add 3 (.t 53) (kI 1)), kM 53 76])))))))
 (.seq (.reg [kM 77 11, kM 8 77, kO 9 (.mv (kI 0))])
 (.ret))))))))
theorem b13 : Body Tryd.prog 13 78 [8, 9] k13 := ⟨Enters.of Tryd.func13 (by kernel_rfl) (by kernel_rfl), _, _, Tryd.func13, rfl, by kernel_rfl, rfl, rfl⟩

/-- cartridge/cartridgeref10.Blocks -/
def k14 : KC :=
 .seq (.reg [kO 6 (.box 23 (.t 2)), kO 8 (.mv (.ns)), kO 9 (.mv (kI 0))])
 (.seq (.seq (.reg [kO 17 (.ld 23 (.t 6)), kO 18 (.call (.fn 44) [.t 17]), kO 19 (.un .not (.t 18)), kM 20 19, kG 21 20 (.mv (.t 3)), kG 22 20 (.bi .len [24] [.t 21]),
 kG 23 20 (.fa 23 (.t 6) 4), kG 24 20 (.ld 3 (.t 23)), kG 25 20 (.bin .neq 3 (.t 22) (.t 24)), kO 26 (.pk (.t 20) (.b true) (.t 25))])
 (.cond (.t 26) (.seq (.reg [kO 8 (.mv (.ns)), kO 9 (.mv (kI 1))])
 (.ret))
 (.skip)))
 (.seq (.reg [kO 27 (.ld 23 (.t 6)), kO 28 (.call (.fn 45) [.t 27]), kO 29 (.bld 42 [(0, .i .i64 2), (3, .t 28)]), kO 30 (.bsl 97 1 [(0, .t 29)]), kM 10 30])
 (.seq (.seq (.reg [kO 11 (.mv (kI 0))])
 (.block 0 (.loop (.seq (.seq (.reg [kM 31 11, kM 32 3, kO 33 (.bi .len [24] [.t 32]), kO 34 (.bin .lss 3 (.t 31) (.t 33))])
 (.cond (.t 34) (.skip)
 (.exit 0)))
 (.seq (.block 1 (.seq (.reg [kM 37 11, kO 38 (.bin .add 3 (.t 37) (kI 64)), kM 12 38])
 (.seq (.seq (.reg [kM 39 12, kM 40 3, kO 41 (.bi .len [24] [.t 40]), kO 42 (.bin .gtr 3 (.t 39) (.t 41))])
 (.cond (.t 42) (.reg [kM 43 3, kO 44 (.bi .len [24] [.t 43]), kM 12 44])
 (.skip)))
 (.reg [kM 45 10, kM 46 3, kM 47 11, kM 48 12, kO 49 (.sli 24 (.t 46) (some (.t 47)) (some (.t 48)) none), kO 50 (.bld 42 [(0, .i .i64 3), (3, .t 49)]),
 kO 51 (.bsl 97 1 [(0, .t 50)]), kO 52 (.bi .append [97, 97] [.t 45, .t 51]), kM 10 52]))))
 (.reg [kM 35 11, kO 36 (.bin .add 3 (.t 35) (kI 64)), kM 11 36]))))))
 (.seq (.reg [kM 53 10, kO 54 (.bld 42 [(0, .i .i64 4)]), kO 55 (.bsl 97 1 [(0, .t 54)]), kO 56 (.bi .append [97, 97] [.t 53, .t 55]), kM 10 56])
 (.seq (.reg [kO 13 (.mv (.ns))])
 (.seq (.seq (.reg [kO 14 (.mv (kI 0))])
 (.block 2 (.loop (.seq (.seq (.reg [kM 57 14, kM 58 10, kO 59 (.bi .len [97] [.t 58]), kO 60 (.bin .lss 3 (.t 57) (.t 59))])
 (.cond (.t 60) (.skip)
 (.exit 2)))
 (.seq (.block 3 (.seq (.reg [kM 63 10, kM 64 14, kM 65 0, kO 66 (.ia 97 (.t 63) (.t 64)), kO 67 (.fa 42 (.t 66) 1), kN (.st 3 (.t 67) (.t 65))])
 (.seq (.reg [kM 68 10, kM 69 14, kM 70 1, kM 71 14, kO 72 (.bin .add 3 (.t 70) (.t 71)), kO 73 (.ia 97 (.t 68) (.t 69)), kO 74 (.fa 42 (.t 73) 2),
 kN (.st 3 (.t 74) (.t 72))])
 (.seq (.seq (.reg [kM 75 1, kO 76 (.bin .gtr 3 (.t 75) (kI 2147483648))])
 (.cond (.t 76) (.reg [kM 77 10, kM 78 14, kO 79 (.ia 97 (.t 77) (.t 78)), kO 80 (.fa 42 (.t 79) 2), kN (.st 3 (.t 80) (kI 2147483648))])
 (.skip)))
 (.seq (.reg [kM 82 10, kM 83 14, kO 84 (.ia 97 (.t 82) (.t 83)), kO 85 (.ld 42 (.t 84)), kO 86 (.call (.fn 19) [.t 85]), kM 81 86, kO 87 (.ex (.t 81) 0),
 kO 88 (.ex (.t 81) 1), kM 15 87, kM 16 88])
 (.seq (.seq (.reg [kM 89 16, kO 90 (.bin .neq 3 (.t 89) (kI 0))])
 (.cond (.t 90) (.seq (.reg [kM 91 16, kO 8 (.mv (.ns)), kM 9 91])
 (.ret))
 (.skip)))
 (.reg [kM 92 13, kM 93 15, kO 94 (.bsl 26 1 [(0, .t 93)]), kO 95 (.bi .append [26, 26] [.t 92, .t 94]), kM 13 95])))))))
 (.reg [kM 61 14, kO 62 (.bin .add 3 (.t 61) (kI 1)), kM 14 62]))))))
 (.seq (.reg [kM 96 13, kM 8 96, kO 9 (.mv (kI 0))])
 (.ret))))))))
theorem b14 : Body Tryd.prog 14 97 [8, 9] k14 := ⟨Enters.of Tryd.func14 (by kernel_rfl) (by kernel_rfl), _, _, Tryd.func14, rfl, by kernel_rfl, rfl, rfl⟩

/-- cartridge/cartridgelaw11.num -/
def k16 : KC :=
 .seq (.reg [kO 2 (.mv (kI 0))])
 (.seq (.reg [kM 3 0, kM 2 3])
 (.ret))
theorem b16 : Body Tryd.prog 16 4 [2] k16 := ⟨Enters.of Tryd.func16 (by kernel_rfl) (by kernel_rfl), _, _, Tryd.func16, rfl, by kernel_rfl, rfl, rfl⟩

/-- cartridge/volume.Need -/
def k17 : KC :=
 .seq (.reg [kO 2 (.mv (kI 0))])
 (.seq (.reg [kM 3 0, kO 4 (.bi .min [3, 3] [.t 3, .i .i64 4000]), kO 5 (.call (.fn 46) [.t 4]), kO 6 (.bin .add 3 (kI 2) (.t 5)), kM 2 6])
 (.ret))
theorem b17 : Body Tryd.prog 17 7 [2] k17 := ⟨Enters.of Tryd.func17 (by kernel_rfl) (by kernel_rfl), _, _, Tryd.func17, rfl, by kernel_rfl, rfl, rfl⟩

/-- cartridge/cartridgeref1.PutFrame -/
noncomputable def drw19_0 : Array Oper := ((Tryd.f19.body.map regs).getD []).getD 0 #[]
noncomputable def drw19_1 : Array Oper := ((Tryd.f19.body.map regs).getD []).getD 1 #[]
noncomputable def drw19_2 : Array Oper := ((Tryd.f19.body.map regs).getD []).getD 2 #[]
noncomputable def k19 : KC :=
 .seq (.reg [kO 1 (.box 42 (.t 0)), kO 2 (.mv (.ns)), kO 3 (.mv (kI 0))])
 (.seq (.reg [kO 4 (.mv (kI 64))])
 (.seq (.seq (.reg [kO 6 (.fa 42 (.t 1) 0), kO 7 (.ld 3 (.t 6)), kO 8 (.bin .eql 3 (.t 7) (kI 6))])
 (.cond (.t 8) (.reg [kO 4 (.mv (kI 79))])
 (.skip)))
 (.seq (.block 0 (.seq (.reg [kO 10 (.fa 42 (.t 1) 0), kO 11 (.ld 3 (.t 10)), kO 12 (.bin .lss 3 (.t 11) (kI 1)), kM 13 12, kG 14 13 (.fa 42 (.t 1) 0), kG 15 13 (.ld 3 (.t 14)),
 kG 16 13 (.bin .gtr 3 (.t 15) (kI 6)), kO 17 (.pk (.t 13) (.b true) (.t 16)), kM 18 17, kG 19 18 (.fa 42 (.t 1) 1), kG 20 18 (.ld 3 (.t 19)),
 kG 21 18 (.bin .lss 3 (.t 20) (kI 1)), kO 22 (.pk (.t 18) (.b true) (.t 21)), kM 23 22, kG 24 23 (.fa 42 (.t 1) 1), kG 25 23 (.ld 3 (.t 24)),
 kG 26 23 (.bin .gtr 3 (.t 25) (kI 2147483647)), kO 27 (.pk (.t 23) (.b true) (.t 26)), kM 28 27, kG 29 28 (.fa 42 (.t 1) 2),
 kG 30 28 (.ld 3 (.t 29)), kG 31 28 (.bin .lss 3 (.t 30) (kI 0)), kO 32 (.pk (.t 28) (.b true) (.t 31)), kM 33 32, kG 34 33 (.fa 42 (.t 1) 2),
 kG 35 33 (.ld 3 (.t 34)), kG 36 33 (.bin .gtr 3 (.t 35) (kI 2147483647)), kO 37 (.pk (.t 33) (.b true) (.t 36)), kM 9 37])
 (.cond (.t 9) (.seq (.reg [kO 2 (.mv (.ns)), kO 3 (.mv (kI 1))])
 (.ret))
 (.seq (.reg [kO 39 (.fa 42 (.t 1) 3), kO 40 (.ld 24 (.t 39)), kO 41 (.bi .len [24] [.t 40]), kM 42 4, kO 43 (.bin .gtr 3 (.t 41) (.t 42)), kM 38 43])
 (.cond (.t 38) (.seq (.reg [kO 2 (.mv (.ns)), kO 3 (.mv (kI 4))])
 (.ret))
 (.skip))))))
 (.seq (.reg [kO 44 (.bld 102 []), kO 45 (.box 102 (.t 44)), kM 5 45])
 (.seq (.reg [kM 46 5, kO 47 (.fa 42 (.t 1) 0), kO 48 (.ld 3 (.t 47)), kO 49 (.cvt 3 5 (.t 48)), kO 50 (.call (.fn 49) [.t 46, .t 49])])
 (.seq (.reg [kM 51 5, kO 52 (.fa 42 (.t 1) 1), kO 53 (.ld 3 (.t 52)), kO 54 (.call (.fn 50) [.t 51, .t 53])])
 (.seq (.reg [kM 55 5, kO 56 (.fa 42 (.t 1) 2), kO 57 (.ld 3 (.t 56)), kO 58 (.call (.fn 50) [.t 55, .t 57])])
 (.seq (.drw drw19_0 [kM 59 5, kM 60 5, kO 61 (.nc (.t 60)), kO 62 (.fa 102 (.t 61) 0), kO 63 (.ld 24 (.t 62)), kO 64 (.fa 42 (.t 1) 3), kO 65 (.ld 24 (.t 64)),
 kO 66 (.bi .len [24] [.t 65]), kO 67 (.bin .shr 3 (.t 66) (.i .u64 8)), kO 68 (.cvt 3 5 (.t 67)), kO 69 (.fa 42 (.t 1) 3), kO 70 (.ld 24 (.t 69)),
 kO 71 (.bi .len [24] [.t 70]), kO 72 (.bin .and 3 (.t 71) (kI 255)), kO 73 (.cvt 3 5 (.t 72)), kO 74 (.bsl 24 2 [(0, .t 68), (1, .t 73)]),
 kO 75 (.bi .append [24, 24] [.t 63, .t 74]), kO 76 (.nc (.t 59)), kO 77 (.fa 102 (.t 76) 0), kN (.st 24 (.t 77) (.t 75))])
 (.seq (.drw drw19_1 [kM 78 5, kM 79 5, kO 80 (.nc (.t 79)), kO 81 (.fa 102 (.t 80) 0), kO 82 (.ld 24 (.t 81)), kO 83 (.fa 42 (.t 1) 3), kO 84 (.ld 24 (.t 83)),
 kO 85 (.bi .append [24, 24] [.t 82, .t 84]), kO 86 (.nc (.t 78)), kO 87 (.fa 102 (.t 86) 0), kN (.st 24 (.t 87) (.t 85))])
 (.seq (.drw drw19_2 [kM 88 5, kM 89 5, kO 90 (.nc (.t 89)), kO 91 (.fa 102 (.t 90) 0), kO 92 (.ld 24 (.t 91)), kM 93 4, kO 94 (.fa 42 (.t 1) 3), kO 95 (.ld 24 (.t 94)),
 kO 96 (.bi .len [24] [.t 95]), kO 97 (.bin .sub 3 (.t 93) (.t 96)), kO 98 (.bi .append [24, 3] [.t 92, .t 97]), kO 99 (.nc (.t 88)),
 kO 100 (.fa 102 (.t 99) 0), kN (.st 24 (.t 100) (.t 98))])
 (.seq (.reg [kM 101 5, kM 102 5, kO 103 (.nc (.t 102)), kO 104 (.fa 102 (.t 103) 0), kO 105 (.ld 24 (.t 104)), kO 106 (.call (.fn 51) [.t 105]),
 kO 107 (.cvt 106 3 (.t 106)), kO 108 (.call (.fn 50) [.t 101, .t 107])])
 (.seq (.reg [kM 109 5, kO 110 (.nc (.t 109)), kO 111 (.fa 102 (.t 110) 0), kO 112 (.ld 24 (.t 111)), kM 2 112, kO 3 (.mv (kI 0))])
 (.ret)))))))))))))
theorem b19 : Body Tryd.prog 19 113 [2, 3] k19 := ⟨Enters.of Tryd.func19 (by kernel_rfl) (by kernel_rfl), _, _, Tryd.func19, rfl, by kernel_rfl, rfl, rfl⟩

/-- cartridge/volume.Keep -/
noncomputable def drw20_0 : Array Oper := ((Tryd.f20.body.map regs).getD []).getD 0 #[]
noncomputable def k20 : KC :=
 .seq (.reg [kO 1 (.box 38 (.t 0)), kO 2 (.mv (kI 0))])
 (.seq (.reg [kO 7 (.ld 38 (.t 1)), kO 8 (.call (.fn 21) [.t 7]), kM 3 8])
 (.seq (.seq (.reg [kM 9 3, kO 10 (.bi .len [44] [.t 9]), kO 11 (.bin .gtr 3 (.t 10) (kI 0))])
 (.cond (.t 11) (.seq (.reg [kM 12 3, kM 13 3, kO 14 (.bi .len [44] [.t 13]), kO 15 (.bin .sub 3 (.t 14) (kI 1)), kO 16 (.ia 44 (.t 12) (.t 15)), kO 17 (.ld 48 (.t 16)),
 kO 4 (.al 48), kN (.st 48 (.t 4) (.t 17))])
 (.seq (.drw drw20_0 [kO 18 (.fa 48 (.t 4) 2), kO 19 (.ld 3 (.t 18)), kO 20 (.fa 48 (.t 4) 0), kO 21 (.fa 23 (.t 20) 4), kO 22 (.ld 3 (.t 21)),
 kO 23 (.call (.fn 17) [.t 22]), kO 24 (.bin .add 3 (.t 19) (.t 23)), kM 2 24])
 (.ret)))
 (.skip)))
 (.seq (.seq (.reg [kO 26 (.ld 38 (.t 1)), kO 27 (.call (.fn 52) [.t 26, .i .i64 0]), kM 25 27, kO 28 (.ex (.t 25) 0), kO 29 (.ex (.t 25) 1), kO 5 (.al 42),
 kN (.st 42 (.t 5) (.t 28)), kM 6 29])
 (.seq (.reg [kM 30 6])
 (.cond (.t 30) (.seq (.reg [kO 2 (.mv (kI 1))])
 (.ret))
 (.skip))))
 (.seq (.reg [kO 2 (.mv (kI 0))])
 (.ret)))))
theorem b20 : Body Tryd.prog 20 31 [2] k20 := ⟨Enters.of Tryd.func20 (by kernel_rfl) (by kernel_rfl), _, _, Tryd.func20, rfl, by kernel_rfl, rfl, rfl⟩

/-- cartridge/volume.Parts -/
def k21 : KC :=
 .seq (.reg [kO 1 (.box 38 (.t 0)), kO 2 (.mv (.ns))])
 (.seq (.reg [kO 3 (.mv (.ns))])
 (.seq (.seq (.reg [kO 7 (.fa 38 (.t 1) 3), kO 8 (.ld 4 (.t 7))])
 (.cond (.t 8) (.seq (.reg [kO 2 (.mv (.ns))])
 (.ret))
 (.skip)))
 (.seq (.seq (.reg [kO 4 (.mv (kI 1))])
 (.block 0 (.loop (.seq (.seq (.reg [kM 9 4, kO 10 (.fa 38 (.t 1) 2), kO 11 (.ld 26 (.t 10)), kO 12 (.bi .len [26] [.t 11]), kO 13 (.bin .lss 3 (.t 9) (.t 12))])
 (.cond (.t 13) (.skip)
 (.exit 0)))
 (.seq (.block 1 (.seq (.reg [kO 17 (.ld 38 (.t 1)), kM 18 4, kO 19 (.call (.fn 53) [.t 17, .t 18]), kM 16 19, kO 20 (.ex (.t 16) 0), kO 21 (.ex (.t 16) 1), kO 5 (.al 48),
 kN (.st 48 (.t 5) (.t 20)), kM 6 21])
 (.seq (.reg [kM 22 6])
 (.cond (.t 22) (.seq (.reg [kM 23 3, kO 24 (.ld 48 (.t 5)), kO 25 (.bsl 44 1 [(0, .t 24)]), kO 26 (.bi .append [44, 44] [.t 23, .t 25]), kM 3 26])
 (.reg [kM 27 4, kO 28 (.fa 48 (.t 5) 0), kO 29 (.fa 23 (.t 28) 4), kO 30 (.ld 3 (.t 29)), kO 31 (.call (.fn 46) [.t 30]),
 kO 32 (.bin .add 3 (.t 31) (kI 1)), kO 33 (.bin .add 3 (.t 27) (.t 32)), kM 4 33]))
 (.skip)))))
 (.reg [kM 14 4, kO 15 (.bin .add 3 (.t 14) (kI 1)), kM 4 15]))))))
 (.seq (.reg [kM 34 3, kM 2 34])
 (.ret)))))
theorem b21 : Body Tryd.prog 21 35 [2] k21 := ⟨Enters.of Tryd.func21 (by kernel_rfl) (by kernel_rfl), _, _, Tryd.func21, rfl, by kernel_rfl, rfl, rfl⟩

/-- cartridge/cartridgeref1.GetFrame -/
def k22 : KC :=
 .seq (.reg [kO 2 (.al 42), kO 3 (.mv (kI 0))])
 (.seq (.reg [kM 9 0, kO 10 (.call (.fn 54) [.t 9]), kM 4 10])
 (.seq (.reg [kM 11 4, kO 12 (.call (.fn 55) [.t 11]), kO 13 (.cvt 5 3 (.t 12)), kM 14 4, kO 15 (.call (.fn 56) [.t 14]), kM 16 4, kO 17 (.call (.fn 56) [.t 16]),
 kO 18 (.bld 42 [(0, .t 13), (1, .t 15), (2, .t 17)]), kO 5 (.al 42), kN (.st 42 (.t 5) (.t 18))])
 (.seq (.reg [kM 19 4, kO 20 (.call (.fn 55) [.t 19]), kO 21 (.cvt 5 3 (.t 20)), kO 22 (.bin .mul 3 (kI 256) (.t 21)), kM 23 4, kO 24 (.call (.fn 55) [.t 23]),
 kO 25 (.cvt 5 3 (.t 24)), kO 26 (.bin .add 3 (.t 22) (.t 25)), kM 6 26])
 (.seq (.seq (.reg [kM 27 4, kO 28 (.call (.fn 57) [.t 27]), kM 29 28, kG 30 29 (.mv (.t 6)), kG 31 29 (.mv (.t 4)), kG 32 29 (.call (.fn 58) [.t 31]),
 kG 33 29 (.bin .gtr 3 (.t 30) (.t 32)), kO 34 (.pk (.t 29) (.b true) (.t 33))])
 (.cond (.t 34) (.seq (.reg [kO 35 (.bld 42 []), kN (.st 42 (.t 2) (.t 35)), kO 3 (.mv (kI 2))])
 (.ret))
 (.skip)))
 (.seq (.reg [kM 36 4, kM 37 6, kO 38 (.call (.fn 59) [.t 36, .t 37]), kO 39 (.bi .append [24, 24] [.ns, .t 38]), kO 40 (.fa 42 (.t 5) 3),
 kN (.st 24 (.t 40) (.t 39))])
 (.seq (.reg [kO 42 (.ld 42 (.t 5)), kO 43 (.call (.fn 19) [.t 42]), kM 41 43, kO 44 (.ex (.t 41) 0), kO 45 (.ex (.t 41) 1), kM 7 44, kM 8 45])
 (.seq (.seq (.reg [kM 46 8, kO 47 (.bin .neq 3 (.t 46) (kI 0)), kM 48 47, kG 49 48 (.mv (.t 7)), kG 50 48 (.cvt 24 9 (.t 49)), kG 51 48 (.mv (.t 0)),
 kG 52 48 (.cvt 24 9 (.t 51)), kG 53 48 (.bin .neq 9 (.t 50) (.t 52)), kO 54 (.pk (.t 48) (.b true) (.t 53))])
 (.cond (.t 54) (.seq (.reg [kO 55 (.bld 42 []), kN (.st 42 (.t 2) (.t 55)), kO 3 (.mv (kI 2))])
 (.ret))
 (.skip)))
 (.seq (.reg [kO 56 (.ld 42 (.t 5)), kN (.st 42 (.t 2) (.t 56)), kO 3 (.mv (kI 0))])
 (.ret)))))))))

/-- cartridge/cartridgelaw11.SameParts -/
noncomputable def drw23_0 : Array Oper := ((Tryd.f23.body.map regs).getD []).getD 0 #[]
noncomputable def k23 : KC :=
 .seq (.reg [kO 4 (.mv (.b false))])
 (.seq (.seq (.reg [kM 6 0, kO 7 (.bi .len [44] [.t 6]), kM 8 1, kO 9 (.bi .len [44] [.t 8]), kO 10 (.bin .neq 3 (.t 7) (.t 9))])
 (.cond (.t 10) (.seq (.reg [kO 4 (.mv (.b false))])
 (.ret))
 (.skip)))
 (.seq (.seq (.reg [kO 5 (.mv (kI 0))])
 (.block 0 (.loop (.seq (.seq (.reg [kM 11 5, kM 12 0, kO 13 (.bi .len [44] [.t 12]), kO 14 (.bin .lss 3 (.t 11) (.t 13))])
 (.cond (.t 14) (.skip)
 (.exit 0)))
 (.seq (.block 1 (.seq (.drw drw23_0 [kM 17 0, kM 18 5, kO 19 (.ia 44 (.t 17) (.t 18)), kO 20 (.ld 48 (.t 19)), kM 21 1, kM 22 5, kO 23 (.ia 44 (.t 21) (.t 22)), kO 24 (.ld 48 (.t 23)),
 kO 25 (.bin .neq 48 (.t 20) (.t 24))])
 (.cond (.t 25) (.seq (.reg [kO 4 (.mv (.b false))])
 (.ret))
 (.skip))))
 (.reg [kM 15 5, kO 16 (.bin .add 3 (.t 15) (kI 1)), kM 5 16]))))))
 (.seq (.reg [kO 4 (.mv (.b true))])
 (.ret))))
theorem b23 : Body Tryd.prog 23 26 [4] k23 := ⟨Enters.of Tryd.func23 (by kernel_rfl) (by kernel_rfl), _, _, Tryd.func23, rfl, by kernel_rfl, rfl, rfl⟩

/-- cartridge/record.RightHead -/
def k41 : KC :=
 .seq (.reg [kO 1 (.box 23 (.t 0)), kO 2 (.mv (.b false))])
 (.seq (.seq (.reg [kO 3 (.fa 23 (.t 1) 0), kO 4 (.ld 9 (.t 3)), kO 5 (.call (.fn 64) [.t 4]), kO 6 (.un .not (.t 5)), kM 7 6, kG 8 7 (.fa 23 (.t 1) 1),
 kG 9 7 (.ld 3 (.t 8)), kG 10 7 (.call (.fn 80) [.t 9, .i .i64 1, .i .i64 1073741824]), kG 11 7 (.un .not (.t 10)),
 kO 12 (.pk (.t 7) (.b true) (.t 11)), kM 13 12, kG 14 13 (.fa 23 (.t 1) 5), kG 15 13 (.ld 3 (.t 14)),
 kG 16 13 (.call (.fn 80) [.t 15, .i .i64 1, .i .i64 1073741824]), kG 17 13 (.un .not (.t 16)), kO 18 (.pk (.t 13) (.b true) (.t 17)), kM 19 18,
 kG 20 19 (.fa 23 (.t 1) 2), kG 21 19 (.ld 3 (.t 20)), kG 22 19 (.call (.fn 80) [.t 21, .i .i64 0, .i .i64 4000]), kG 23 19 (.un .not (.t 22)),
 kO 24 (.pk (.t 19) (.b true) (.t 23)), kM 25 24, kG 26 25 (.fa 23 (.t 1) 6), kG 27 25 (.ld 3 (.t 26)),
 kG 28 25 (.call (.fn 80) [.t 27, .i .i64 0, .i .i64 4294967295]), kG 29 25 (.un .not (.t 28)), kO 30 (.pk (.t 25) (.b true) (.t 29))])
 (.cond (.t 30) (.seq (.reg [kO 2 (.mv (.b false))])
 (.ret))
 (.skip)))
 (.seq (.seq (.reg [kO 31 (.fa 23 (.t 1) 3), kO 32 (.ld 3 (.t 31)), kO 33 (.fa 23 (.t 1) 2), kO 34 (.ld 3 (.t 33)), kO 35 (.call (.fn 80) [.t 32, .i .i64 0, .t 34]),
 kO 36 (.un .not (.t 35)), kM 37 36, kG 38 37 (.fa 23 (.t 1) 4), kG 39 37 (.ld 3 (.t 38)), kG 40 37 (.fa 23 (.t 1) 2), kG 41 37 (.ld 3 (.t 40)),
 kG 42 37 (.fa 23 (.t 1) 3), kG 43 37 (.ld 3 (.t 42)), kG 44 37 (.bin .sub 3 (.t 41) (.t 43)), kG 45 37 (.call (.fn 80) [.t 39, .i .i64 0, .t 44]),
 kG 46 37 (.un .not (.t 45)), kO 47 (.pk (.t 37) (.b true) (.t 46)), kM 48 47, kG 49 48 (.fa 23 (.t 1) 4), kG 50 48 (.ld 3 (.t 49)),
 kG 51 48 (.bin .eql 3 (.t 50) (kI 0)), kG 52 48 (.mv (.t 51)), kT 53 52 (.fa 23 (.t 1) 2), kT 54 52 (.ld 3 (.t 53)),
 kT 55 52 (.bin .gtr 3 (.t 54) (kI 0)), kG 56 48 (.pk (.t 52) (.t 55) (.b false)), kO 57 (.pk (.t 48) (.b true) (.t 56))])
 (.cond (.t 57) (.seq (.reg [kO 2 (.mv (.b false))])
 (.ret))
 (.skip)))
 (.seq (.reg [kO 58 (.fa 23 (.t 1) 7), kO 59 (.ld 4 (.t 58)), kO 60 (.un .not (.t 59)), kM 61 60, kG 62 61 (.fa 23 (.t 1) 2), kG 63 61 (.ld 3 (.t 62)),
 kG 64 61 (.bin .eql 3 (.t 63) (kI 0)), kG 65 61 (.mv (.t 64)), kT 66 65 (.fa 23 (.t 1) 6), kT 67 65 (.ld 3 (.t 66)),
 kT 68 65 (.bin .eql 3 (.t 67) (kI 0)), kG 69 61 (.pk (.t 65) (.t 68) (.b false)), kO 70 (.pk (.t 61) (.b true) (.t 69)), kM 2 70])
 (.ret))))
theorem b41 : Body Tryd.prog 41 71 [2] k41 := ⟨Enters.of Tryd.func41 (by kernel_rfl) (by kernel_rfl), _, _, Tryd.func41, rfl, by kernel_rfl, rfl, rfl⟩

/-- cartridge/record.HeadBytes -/
def k42 : KC :=
 .seq (.reg [kO 1 (.box 23 (.t 0)), kO 2 (.mv (.ns))])
 (.seq (.seq (.reg [kO 7 (.ld 23 (.t 1)), kO 8 (.call (.fn 41) [.t 7]), kO 9 (.un .not (.t 8))])
 (.cond (.t 9) (.seq (.reg [kO 2 (.mv (.ns))])
 (.ret))
 (.skip)))
 (.seq (.reg [kO 10 (.bld 147 []), kO 11 (.box 147 (.t 10)), kM 3 11])
 (.seq (.reg [kM 12 3, kO 13 (.fa 23 (.t 1) 0), kO 14 (.ld 9 (.t 13)), kO 15 (.call (.fn 81) [.t 12, .t 14])])
 (.seq (.seq (.reg [kO 16 (.fa 23 (.t 1) 1), kO 17 (.ld 3 (.t 16)), kO 18 (.fa 23 (.t 1) 2), kO 19 (.ld 3 (.t 18)), kO 20 (.fa 23 (.t 1) 3), kO 21 (.ld 3 (.t 20)),
 kO 22 (.fa 23 (.t 1) 4), kO 23 (.ld 3 (.t 22)), kO 24 (.fa 23 (.t 1) 5), kO 25 (.ld 3 (.t 24)), kO 26 (.fa 23 (.t 1) 6), kO 27 (.ld 3 (.t 26)),
 kO 28 (.bsl 36 6 [(0, .t 17), (1, .t 19), (2, .t 21), (3, .t 23), (4, .t 25), (5, .t 27)]), kO 29 (.bi .len [36] [.t 28]), kO 30 (.mv (kI 0))])
 (.block 0 (.loop (.seq (.reg [kO 31 (.bin .lss 3 (.t 30) (.t 29))])
 (.seq (.cond (.t 31) (.skip)
 (.exit 0))
 (.seq (.block 1 (.seq (.reg [kO 32 (.ia 36 (.t 28) (.t 30)), kO 33 (.ld 3 (.t 32)), kM 5 33])
 (.reg [kM 34 3, kM 35 5, kO 36 (.call (.fn 82) [.t 34, .t 35])])))
 (.reg [kO 37 (.bin .add 3 (.t 30) (kI 1)), kM 30 37])))))))
 (.seq (.reg [kO 6 (.mv (.i .u8 0))])
 (.seq (.seq (.reg [kO 38 (.fa 23 (.t 1) 7), kO 39 (.ld 4 (.t 38))])
 (.cond (.t 39) (.reg [kO 6 (.mv (.i .u8 1))])
 (.skip)))
 (.seq (.reg [kM 40 3, kM 41 6, kO 42 (.call (.fn 83) [.t 40, .t 41])])
 (.seq (.reg [kM 43 3, kO 44 (.call (.fn 84) [.t 43]), kM 2 44])
 (.ret)))))))))
theorem b42 : Body Tryd.prog 42 45 [2] k42 := ⟨Enters.of Tryd.func42 (by kernel_rfl) (by kernel_rfl), _, _, Tryd.func42, rfl, by kernel_rfl, rfl, rfl⟩

/-- cartridge/frame.Put -/
def k43 : KC :=
 .seq (.reg [kO 1 (.box 42 (.t 0)), kO 2 (.mv (.ns)), kO 3 (.mv (kI 0))])
 (.seq (.seq (.reg [kO 5 (.ld 42 (.t 1)), kO 6 (.call (.fn 85) [.t 5]), kM 4 6])
 (.seq (.reg [kM 7 4, kO 8 (.bin .neq 27 (.t 7) (kI 0))])
 (.cond (.t 8) (.seq (.reg [kM 9 4, kO 2 (.mv (.ns)), kM 3 9])
 (.ret))
 (.skip))))
 (.seq (.reg [kO 10 (.ld 42 (.t 1)), kO 11 (.call (.fn 86) [.t 10]), kM 2 11, kO 3 (.mv (kI 0))])
 (.ret)))
theorem b43 : Body Tryd.prog 43 12 [2, 3] k43 := ⟨Enters.of Tryd.func43 (by kernel_rfl) (by kernel_rfl), _, _, Tryd.func43, rfl, by kernel_rfl, rfl, rfl⟩

/-- cartridge/cartridgeref10.RightHead -/
def k44 : KC :=
 .seq (.reg [kO 1 (.box 23 (.t 0)), kO 2 (.mv (.b false))])
 (.seq (.seq (.reg [kO 3 (.fa 23 (.t 1) 0), kO 4 (.ld 9 (.t 3)), kO 5 (.call (.fn 67) [.t 4]), kO 6 (.un .not (.t 5)), kM 7 6, kG 8 7 (.fa 23 (.t 1) 1),
 kG 9 7 (.ld 3 (.t 8)), kG 10 7 (.bin .lss 3 (.t 9) (kI 1)), kO 11 (.pk (.t 7) (.b true) (.t 10)), kM 12 11, kG 13 12 (.fa 23 (.t 1) 1),
 kG 14 12 (.ld 3 (.t 13)), kG 15 12 (.bin .gtr 3 (.t 14) (kI 1073741824)), kO 16 (.pk (.t 12) (.b true) (.t 15)), kM 17 16,
 kG 18 17 (.fa 23 (.t 1) 5), kG 19 17 (.ld 3 (.t 18)), kG 20 17 (.bin .lss 3 (.t 19) (kI 1)), kO 21 (.pk (.t 17) (.b true) (.t 20)), kM 22 21,
 kG 23 22 (.fa 23 (.t 1) 5), kG 24 22 (.ld 3 (.t 23)), kG 25 22 (.bin .gtr 3 (.t 24) (kI 1073741824)), kO 26 (.pk (.t 22) (.b true) (.t 25)),
 kM 27 26, kG 28 27 (.fa 23 (.t 1) 2), kG 29 27 (.ld 3 (.t 28)), kG 30 27 (.bin .lss 3 (.t 29) (kI 0)), kO 31 (.pk (.t 27) (.b true) (.t 30)),
 kM 32 31, kG 33 32 (.fa 23 (.t 1) 2), kG 34 32 (.ld 3 (.t 33)), kG 35 32 (.bin .gtr 3 (.t 34) (kI 4000)), kO 36 (.pk (.t 32) (.b true) (.t 35)),
 kM 37 36, kG 38 37 (.fa 23 (.t 1) 3), kG 39 37 (.ld 3 (.t 38)), kG 40 37 (.bin .lss 3 (.t 39) (kI 0)), kO 41 (.pk (.t 37) (.b true) (.t 40)),
 kM 42 41, kG 43 42 (.fa 23 (.t 1) 4), kG 44 42 (.ld 3 (.t 43)), kG 45 42 (.bin .lss 3 (.t 44) (kI 0)), kO 46 (.pk (.t 42) (.b true) (.t 45)),
 kM 47 46, kG 48 47 (.fa 23 (.t 1) 3), kG 49 47 (.ld 3 (.t 48)), kG 50 47 (.fa 23 (.t 1) 2), kG 51 47 (.ld 3 (.t 50)),
 kG 52 47 (.bin .gtr 3 (.t 49) (.t 51)), kO 53 (.pk (.t 47) (.b true) (.t 52)), kM 54 53, kG 55 54 (.fa 23 (.t 1) 4), kG 56 54 (.ld 3 (.t 55)),
 kG 57 54 (.fa 23 (.t 1) 2), kG 58 54 (.ld 3 (.t 57)), kG 59 54 (.fa 23 (.t 1) 3), kG 60 54 (.ld 3 (.t 59)), kG 61 54 (.bin .sub 3 (.t 58) (.t 60)),
 kG 62 54 (.bin .gtr 3 (.t 56) (.t 61)), kO 63 (.pk (.t 54) (.b true) (.t 62)), kM 64 63, kG 65 64 (.fa 23 (.t 1) 4), kG 66 64 (.ld 3 (.t 65)),
 kG 67 64 (.bin .eql 3 (.t 66) (kI 0)), kG 68 64 (.mv (.t 67)), kT 69 68 (.fa 23 (.t 1) 2), kT 70 68 (.ld 3 (.t 69)),
 kT 71 68 (.bin .gtr 3 (.t 70) (kI 0)), kG 72 64 (.pk (.t 68) (.t 71) (.b false)), kO 73 (.pk (.t 64) (.b true) (.t 72)), kM 74 73,
 kG 75 74 (.fa 23 (.t 1) 6), kG 76 74 (.ld 3 (.t 75)), kG 77 74 (.bin .lss 3 (.t 76) (kI 0)), kO 78 (.pk (.t 74) (.b true) (.t 77)), kM 79 78,
 kG 80 79 (.fa 23 (.t 1) 6), kG 81 79 (.ld 3 (.t 80)), kG 82 79 (.bin .gtr 3 (.t 81) (kI 4294967295)), kO 83 (.pk (.t 79) (.b true) (.t 82))])
 (.cond (.t 83) (.seq (.reg [kO 2 (.mv (.b false))])
 (.ret))
 (.skip)))
 (.seq (.reg [kO 84 (.fa 23 (.t 1) 7), kO 85 (.ld 4 (.t 84)), kO 86 (.un .not (.t 85)), kM 87 86, kG 88 87 (.fa 23 (.t 1) 2), kG 89 87 (.ld 3 (.t 88)),
 kG 90 87 (.bin .eql 3 (.t 89) (kI 0)), kG 91 87 (.mv (.t 90)), kT 92 91 (.fa 23 (.t 1) 3), kT 93 91 (.ld 3 (.t 92)),
 kT 94 91 (.bin .eql 3 (.t 93) (kI 0)), kG 95 87 (.pk (.t 91) (.t 94) (.b false)), kG 96 87 (.mv (.t 95)), kT 97 96 (.fa 23 (.t 1) 4),
 kT 98 96 (.ld 3 (.t 97)), kT 99 96 (.bin .eql 3 (.t 98) (kI 0)), kG 100 87 (.pk (.t 96) (.t 99) (.b false)), kG 101 87 (.mv (.t 100)),
 kT 102 101 (.fa 23 (.t 1) 6), kT 103 101 (.ld 3 (.t 102)), kT 104 101 (.bin .eql 3 (.t 103) (kI 0)), kG 105 87 (.pk (.t 101) (.t 104) (.b false)),
 kO 106 (.pk (.t 87) (.b true) (.t 105)), kM 2 106])
 (.ret)))
theorem b44 : Body Tryd.prog 44 107 [2] k44 := ⟨Enters.of Tryd.func44 (by kernel_rfl) (by kernel_rfl), _, _, Tryd.func44, rfl, by kernel_rfl, rfl, rfl⟩

/-- cartridge/cartridgeref10.HeadBytes -/
def k45 : KC :=
 .seq (.reg [kO 1 (.box 23 (.t 0)), kO 2 (.mv (.ns))])
 (.seq (.seq (.reg [kO 5 (.ld 23 (.t 1)), kO 6 (.call (.fn 44) [.t 5]), kO 7 (.un .not (.t 6))])
 (.cond (.t 7) (.seq (.reg [kO 2 (.mv (.ns))])
 (.ret))
 (.skip)))
 (.seq (.reg [kO 8 (.bld 102 []), kO 9 (.box 102 (.t 8)), kM 3 9])
 (.seq (.reg [kM 10 3, kO 11 (.fa 23 (.t 1) 0), kO 12 (.ld 9 (.t 11)), kO 13 (.call (.fn 87) [.t 10, .t 12])])
 (.seq (.reg [kM 14 3, kO 15 (.fa 23 (.t 1) 1), kO 16 (.ld 3 (.t 15)), kO 17 (.call (.fn 50) [.t 14, .t 16])])
 (.seq (.reg [kM 18 3, kO 19 (.fa 23 (.t 1) 2), kO 20 (.ld 3 (.t 19)), kO 21 (.call (.fn 50) [.t 18, .t 20])])
 (.seq (.reg [kM 22 3, kO 23 (.fa 23 (.t 1) 3), kO 24 (.ld 3 (.t 23)), kO 25 (.call (.fn 50) [.t 22, .t 24])])
 (.seq (.reg [kM 26 3, kO 27 (.fa 23 (.t 1) 4), kO 28 (.ld 3 (.t 27)), kO 29 (.call (.fn 50) [.t 26, .t 28])])
 (.seq (.reg [kM 30 3, kO 31 (.fa 23 (.t 1) 5), kO 32 (.ld 3 (.t 31)), kO 33 (.call (.fn 50) [.t 30, .t 32])])
 (.seq (.reg [kM 34 3, kO 35 (.fa 23 (.t 1) 6), kO 36 (.ld 3 (.t 35)), kO 37 (.call (.fn 50) [.t 34, .t 36])])
 (.seq (.reg [kO 4 (.mv (.i .u8 0))])
 (.seq (.seq (.reg [kO 38 (.fa 23 (.t 1) 7), kO 39 (.ld 4 (.t 38))])
 (.cond (.t 39) (.reg [kO 4 (.mv (.i .u8 1))])
 (.skip)))
 (.seq (.reg [kM 40 3, kM 41 4, kO 42 (.call (.fn 49) [.t 40, .t 41])])
 (.seq (.reg [kM 43 3, kO 44 (.nc (.t 43)), kO 45 (.fa 102 (.t 44) 0), kO 46 (.ld 24 (.t 45)), kM 2 46])
 (.ret))))))))))))))
theorem b45 : Body Tryd.prog 45 47 [2] k45 := ⟨Enters.of Tryd.func45 (by kernel_rfl) (by kernel_rfl), _, _, Tryd.func45, rfl, by kernel_rfl, rfl, rfl⟩

/-- cartridge/volume.data -/
def k46 : KC :=
 .seq (.reg [kO 2 (.mv (kI 0))])
 (.seq (.seq (.reg [kM 3 0, kO 4 (.bin .lss 3 (.t 3) (kI 1))])
 (.cond (.t 4) (.seq (.reg [kO 2 (.mv (kI 0))])
 (.ret))
 (.skip)))
 (.seq (.reg [kM 5 0, kO 6 (.bin .sub 3 (.t 5) (kI 1)), kO 7 (.bin .quo 3 (.t 6) (kI 64)), kO 8 (.bin .add 3 (.t 7) (kI 1)), kM 2 8])
 (.ret)))
theorem b46 : Body Tryd.prog 46 9 [2] k46 := ⟨Enters.of Tryd.func46 (by kernel_rfl) (by kernel_rfl), _, _, Tryd.func46, rfl, by kernel_rfl, rfl, rfl⟩

/-- (*cartridge/cartridgeref1.Writer).Byte -/
def k49 : KC :=
 .reg [kM 4 0, kM 5 0, kO 6 (.nc (.t 5)), kO 7 (.fa 102 (.t 6) 0), kO 8 (.ld 24 (.t 7)), kM 9 1, kO 10 (.bsl 24 1 [(0, .t 9)]),
 kO 11 (.bi .append [24, 24] [.t 8, .t 10]), kO 12 (.nc (.t 4)), kO 13 (.fa 102 (.t 12) 0), kN (.st 24 (.t 13) (.t 11))]
theorem b49 : Body Tryd.prog 49 14 [] k49 := ⟨Enters.of Tryd.func49 (by kernel_rfl) (by kernel_rfl), _, _, Tryd.func49, rfl, by kernel_rfl, rfl, rfl⟩

/-- (*cartridge/cartridgeref1.Writer).Int -/
def k50 : KC :=
 .seq (.reg [kM 5 1, kO 6 (.cvt 3 152 (.t 5)), kM 4 6])
 (.reg [kM 7 0, kM 8 0, kO 9 (.nc (.t 8)), kO 10 (.fa 102 (.t 9) 0), kO 11 (.ld 24 (.t 10)), kM 12 4, kO 13 (.bin .shr 152 (.t 12) (.i .u64 24)),
 kO 14 (.bin .and 152 (.t 13) (.i .u64 255)), kO 15 (.cvt 152 5 (.t 14)), kM 16 4, kO 17 (.bin .shr 152 (.t 16) (.i .u64 16)),
 kO 18 (.bin .and 152 (.t 17) (.i .u64 255)), kO 19 (.cvt 152 5 (.t 18)), kM 20 4, kO 21 (.bin .shr 152 (.t 20) (.i .u64 8)),
 kO 22 (.bin .and 152 (.t 21) (.i .u64 255)), kO 23 (.cvt 152 5 (.t 22)), kM 24 4, kO 25 (.bin .and 152 (.t 24) (.i .u64 255)),
 kO 26 (.cvt 152 5 (.t 25)), kO 27 (.bsl 24 4 [(0, .t 15), (1, .t 19), (2, .t 23), (3, .t 26)]), kO 28 (.bi .append [24, 24] [.t 11, .t 27]),
 kO 29 (.nc (.t 7)), kO 30 (.fa 102 (.t 29) 0), kN (.st 24 (.t 30) (.t 28))])
theorem b50 : Body Tryd.prog 50 31 [] k50 := ⟨Enters.of Tryd.func50 (by kernel_rfl) (by kernel_rfl), _, _, Tryd.func50, rfl, by kernel_rfl, rfl, rfl⟩

/-- cartridge/cartridgeref1.Crc -/
def k51 : KC :=
 .seq (.reg [kO 2 (.mv (.i .u32 0))])
 (.seq (.reg [kM 3 0, kO 4 (.call (.fn 88) [.i .u32 0, .t 3]), kM 2 4])
 (.ret))
theorem b51 : Body Tryd.prog 51 5 [2] k51 := ⟨Enters.of Tryd.func51 (by kernel_rfl) (by kernel_rfl), _, _, Tryd.func51, rfl, by kernel_rfl, rfl, rfl⟩

/-- cartridge/volume.Good -/
def k52 : KC :=
 .seq (.reg [kO 2 (.box 38 (.t 0)), kO 4 (.al 42), kO 5 (.mv (.b false))])
 (.seq (.seq (.reg [kO 8 (.fa 38 (.t 2) 3), kO 9 (.ld 4 (.t 8)), kM 10 9, kG 11 10 (.mv (.t 1)), kG 12 10 (.bin .lss 3 (.t 11) (kI 0)),
 kO 13 (.pk (.t 10) (.b true) (.t 12)), kM 14 13, kG 15 14 (.mv (.t 1)), kG 16 14 (.fa 38 (.t 2) 2), kG 17 14 (.ld 26 (.t 16)),
 kG 18 14 (.bi .len [26] [.t 17]), kG 19 14 (.bin .geq 3 (.t 15) (.t 18)), kO 20 (.pk (.t 14) (.b true) (.t 19))])
 (.cond (.t 20) (.seq (.reg [kO 21 (.bld 42 []), kN (.st 42 (.t 4) (.t 21)), kO 5 (.mv (.b false))])
 (.ret))
 (.skip)))
 (.seq (.reg [kO 23 (.fa 38 (.t 2) 2), kO 24 (.ld 26 (.t 23)), kM 25 1, kO 26 (.ia 26 (.t 24) (.t 25)), kO 27 (.ld 24 (.t 26)), kO 28 (.call (.fn 89) [.t 27]),
 kM 22 28, kO 29 (.ex (.t 22) 0), kO 30 (.ex (.t 22) 1), kO 6 (.al 42), kN (.st 42 (.t 6) (.t 29)), kM 7 30])
 (.seq (.seq (.reg [kM 31 7, kO 32 (.bin .neq 27 (.t 31) (kI 0)), kM 33 32, kG 34 33 (.fa 42 (.t 6) 1), kG 35 33 (.ld 3 (.t 34)), kG 36 33 (.fa 38 (.t 2) 0),
 kG 37 33 (.ld 3 (.t 36)), kG 38 33 (.bin .neq 3 (.t 35) (.t 37)), kO 39 (.pk (.t 33) (.b true) (.t 38)), kM 40 39, kG 41 40 (.fa 42 (.t 6) 2),
 kG 42 40 (.ld 3 (.t 41)), kG 43 40 (.mv (.t 1)), kG 44 40 (.bin .neq 3 (.t 42) (.t 43)), kO 45 (.pk (.t 40) (.b true) (.t 44))])
 (.cond (.t 45) (.seq (.reg [kO 46 (.bld 42 []), kN (.st 42 (.t 4) (.t 46)), kO 5 (.mv (.b false))])
 (.ret))
 (.skip)))
 (.seq (.reg [kO 47 (.ld 42 (.t 6)), kN (.st 42 (.t 4) (.t 47)), kO 5 (.mv (.b true))])
 (.ret)))))

/-- cartridge/volume.part -/
noncomputable def drw53_0 : Array Oper := ((Tryd.f53.body.map regs).getD []).getD 0 #[]
noncomputable def k53 : KC :=
 .seq (.reg [kO 2 (.box 38 (.t 0)), kO 4 (.al 48), kO 5 (.mv (.b false))])
 (.seq (.reg [kO 11 (.ld 38 (.t 2)), kM 12 1, kO 13 (.call (.fn 52) [.t 11, .t 12]), kM 10 13, kO 14 (.ex (.t 10) 0), kO 15 (.ex (.t 10) 1), kO 6 (.al 42),
 kN (.st 42 (.t 6) (.t 14)), kM 7 15])
 (.seq (.seq (.reg [kM 16 7, kO 17 (.un .not (.t 16)), kM 18 17, kG 19 18 (.fa 42 (.t 6) 0), kG 20 18 (.ld 3 (.t 19)), kG 21 18 (.bin .neq 3 (.t 20) (kI 2)),
 kO 22 (.pk (.t 18) (.b true) (.t 21))])
 (.cond (.t 22) (.seq (.reg [kO 23 (.bld 48 []), kN (.st 48 (.t 4) (.t 23)), kO 5 (.mv (.b false))])
 (.ret))
 (.skip)))
 (.seq (.reg [kO 25 (.fa 42 (.t 6) 3), kO 26 (.ld 24 (.t 25)), kO 27 (.call (.fn 90) [.t 26]), kM 24 27, kO 28 (.ex (.t 24) 0), kO 29 (.ex (.t 24) 1),
 kO 8 (.al 23), kN (.st 23 (.t 8) (.t 28)), kM 9 29])
 (.seq (.seq (.drw drw53_0 [kM 30 9, kO 31 (.bin .neq 27 (.t 30) (kI 0)), kM 32 31, kG 33 32 (.mv (.t 1)), kG 34 32 (.bin .add 3 (.t 33) (kI 1)), kG 35 32 (.fa 23 (.t 8) 4),
 kG 36 32 (.ld 3 (.t 35)), kG 37 32 (.call (.fn 46) [.t 36]), kG 38 32 (.bin .add 3 (.t 34) (.t 37)), kG 39 32 (.fa 38 (.t 2) 2),
 kG 40 32 (.ld 26 (.t 39)), kG 41 32 (.bi .len [26] [.t 40]), kG 42 32 (.bin .geq 3 (.t 38) (.t 41)), kO 43 (.pk (.t 32) (.b true) (.t 42))])
 (.cond (.t 43) (.seq (.reg [kO 44 (.bld 48 []), kN (.st 48 (.t 4) (.t 44)), kO 5 (.mv (.b false))])
 (.ret))
 (.skip)))
 (.seq (.reg [kO 45 (.ld 23 (.t 8)), kO 46 (.fa 38 (.t 2) 0), kO 47 (.ld 3 (.t 46)), kM 48 1, kO 49 (.bld 48 [(0, .t 45), (1, .t 47), (2, .t 48)]),
 kN (.st 48 (.t 4) (.t 49)), kO 5 (.mv (.b true))])
 (.ret))))))

/-- cartridge/cartridgeref1.NewReader -/
def k54 : KC :=
 .seq (.reg [kO 2 (.mv (.np))])
 (.seq (.reg [kM 3 0, kO 4 (.bld 159 [(0, .t 3)]), kO 5 (.box 159 (.t 4)), kM 2 5])
 (.ret))
theorem b54 : Body Tryd.prog 54 6 [2] k54 := ⟨Enters.of Tryd.func54 (by kernel_rfl) (by kernel_rfl), _, _, Tryd.func54, rfl, by kernel_rfl, rfl, rfl⟩

/-- (*cartridge/cartridgeref1.Reader).Byte -/
def k55 : KC :=
 .seq (.reg [kO 2 (.mv (.i .u8 0))])
 (.seq (.reg [kM 4 0, kO 5 (.call (.fn 59) [.t 4, .i .i64 1]), kM 3 5])
 (.seq (.seq (.reg [kM 6 3, kO 7 (.bi .len [24] [.t 6]), kO 8 (.bin .eql 3 (.t 7) (kI 0))])
 (.cond (.t 8) (.seq (.reg [kO 2 (.mv (.i .u8 0))])
 (.ret))
 (.skip)))
 (.seq (.reg [kM 9 3, kO 10 (.ia 24 (.t 9) (kI 0)), kO 11 (.ld 5 (.t 10)), kM 2 11])
 (.ret))))
theorem b55 : Body Tryd.prog 55 12 [2] k55 := ⟨Enters.of Tryd.func55 (by kernel_rfl) (by kernel_rfl), _, _, Tryd.func55, rfl, by kernel_rfl, rfl, rfl⟩

/-- (*cartridge/cartridgeref1.Reader).Int -/
def k56 : KC :=
 .seq (.reg [kO 2 (.mv (kI 0))])
 (.seq (.reg [kM 6 0, kO 7 (.call (.fn 59) [.t 6, .i .i64 4]), kM 3 7])
 (.seq (.reg [kO 4 (.mv (kI 0))])
 (.seq (.seq (.reg [kO 5 (.mv (kI 0))])
 (.block 0 (.loop (.seq (.seq (.reg [kM 8 5, kM 9 3, kO 10 (.bi .len [24] [.t 9]), kO 11 (.bin .lss 3 (.t 8) (.t 10))])
 (.cond (.t 11) (.skip)
 (.exit 0)))
 (.seq (.block 1 (.reg [kM 14 4, kO 15 (.bin .shl 3 (.t 14) (.i .u64 8)), kM 16 3, kM 17 5, kO 18 (.ia 24 (.t 16) (.t 17)), kO 19 (.ld 5 (.t 18)), kO 20 (.cvt 5 3 (.t 19)),
 kO 21 (.bin .or 3 (.t 15) (.t 20)), kM 4 21]))
 (.reg [kM 12 5, kO 13 (.bin .add 3 (.t 12) (kI 1)), kM 5 13]))))))
 (.seq (.reg [kM 22 4, kM 2 22])
 (.ret)))))
theorem b56 : Body Tryd.prog 56 23 [2] k56 := ⟨Enters.of Tryd.func56 (by kernel_rfl) (by kernel_rfl), _, _, Tryd.func56, rfl, by kernel_rfl, rfl, rfl⟩

/-- (*cartridge/cartridgeref1.Reader).Bad -/
def k57 : KC :=
 .seq (.reg [kO 2 (.mv (.b false))])
 (.seq (.reg [kM 3 0, kO 4 (.nc (.t 3)), kO 5 (.fa 159 (.t 4) 1), kO 6 (.ld 4 (.t 5)), kM 2 6])
 (.ret))
theorem b57 : Body Tryd.prog 57 7 [2] k57 := ⟨Enters.of Tryd.func57 (by kernel_rfl) (by kernel_rfl), _, _, Tryd.func57, rfl, by kernel_rfl, rfl, rfl⟩

/-- (*cartridge/cartridgeref1.Reader).Left -/
def k58 : KC :=
 .seq (.reg [kO 2 (.mv (kI 0))])
 (.seq (.seq (.reg [kM 3 0, kO 4 (.nc (.t 3)), kO 5 (.fa 159 (.t 4) 1), kO 6 (.ld 4 (.t 5))])
 (.cond (.t 6) (.seq (.reg [kO 2 (.mv (kI 0))])
 (.ret))
 (.skip)))
 (.seq (.reg [kM 7 0, kO 8 (.nc (.t 7)), kO 9 (.fa 159 (.t 8) 0), kO 10 (.ld 24 (.t 9)), kO 11 (.bi .len [24] [.t 10]), kM 2 11])
 (.ret)))
theorem b58 : Body Tryd.prog 58 12 [2] k58 := ⟨Enters.of Tryd.func58 (by kernel_rfl) (by kernel_rfl), _, _, Tryd.func58, rfl, by kernel_rfl, rfl, rfl⟩

/-- (*cartridge/cartridgeref1.Reader).take -/
def k59 : KC :=
 .seq (.reg [kO 4 (.mv (.ns))])
 (.seq (.seq (.reg [kM 6 0, kO 7 (.nc (.t 6)), kO 8 (.fa 159 (.t 7) 1), kO 9 (.ld 4 (.t 8)), kM 10 9, kG 11 10 (.mv (.t 0)), kG 12 10 (.nc (.t 11)),
 kG 13 10 (.fa 159 (.t 12) 0), kG 14 10 (.ld 24 (.t 13)), kG 15 10 (.bi .len [24] [.t 14]), kG 16 10 (.mv (.t 1)),
 kG 17 10 (.bin .lss 3 (.t 15) (.t 16)), kO 18 (.pk (.t 10) (.b true) (.t 17))])
 (.cond (.t 18) (.seq (.reg [kM 19 0, kO 20 (.nc (.t 19)), kO 21 (.fa 159 (.t 20) 1), kN (.st 4 (.t 21) (.b true))])
 (.seq (.reg [kO 4 (.mv (.ns))])
 (.ret)))
 (.skip)))
 (.seq (.reg [kM 22 0, kO 23 (.nc (.t 22)), kO 24 (.fa 159 (.t 23) 0), kO 25 (.ld 24 (.t 24)), kM 26 1, kO 27 (.sli 24 (.t 25) none (some (.t 26)) none), kM 5 27])
 (.seq (.reg [kM 28 0, kM 29 0, kO 30 (.nc (.t 29)), kO 31 (.fa 159 (.t 30) 0), kO 32 (.ld 24 (.t 31)), kM 33 1, kO 34 (.sli 24 (.t 32) (some (.t 33)) none none),
 kO 35 (.nc (.t 28)), kO 36 (.fa 159 (.t 35) 0), kN (.st 24 (.t 36) (.t 34))])
 (.seq (.reg [kM 37 5, kM 4 37])
 (.ret)))))
theorem b59 : Body Tryd.prog 59 38 [4] k59 := ⟨Enters.of Tryd.func59 (by kernel_rfl) (by kernel_rfl), _, _, Tryd.func59, rfl, by kernel_rfl, rfl, rfl⟩

/-- cartridge/path.Right -/
def k64 : KC :=
 .seq (.reg [kO 2 (.mv (.b false))])
 (.seq (.reg [kM 3 0, kO 4 (.bi .len [9] [.t 3]), kO 5 (.bin .leq 3 (.t 4) (kI 24)), kM 6 5, kT 7 6 (.mv (.t 0)), kT 8 6 (.call (.fn 98) [.t 7, .s ⟨#[47]⟩]),
 kT 9 6 (.call (.fn 97) [.t 8, .fn 99]), kT 10 6 (.un .not (.t 9)), kO 11 (.pk (.t 6) (.t 10) (.b false)), kM 2 11])
 (.ret))
theorem b64 : Body Tryd.prog 64 12 [2] k64 := ⟨Enters.of Tryd.func64 (by kernel_rfl) (by kernel_rfl), _, _, Tryd.func64, rfl, by kernel_rfl, rfl, rfl⟩

/-- slices.Clone[[]byte,byte] -/
def k66 : KC :=
 .seq (.reg [kO 2 (.mv (.ns))])
 (.seq (.seq (.reg [kM 3 0, kO 4 (.bin .eql 24 (.t 3) (.ns))])
 (.cond (.t 4) (.seq (.reg [kO 2 (.mv (.ns))])
 (.ret))
 (.skip)))
 (.seq (.reg [kO 5 (.bsl 24 0 []), kM 6 0, kO 7 (.bi .append [24, 24] [.t 5, .t 6]), kM 2 7])
 (.ret)))
theorem b66 : Body Tryd.prog 66 8 [2] k66 := ⟨Enters.of Tryd.func66 (by kernel_rfl) (by kernel_rfl), _, _, Tryd.func66, rfl, by kernel_rfl, rfl, rfl⟩

/-- cartridge/cartridgeref1.RightPath -/
def k67 : KC :=
 .seq (.reg [kO 2 (.mv (.b false))])
 (.seq (.reg [kM 3 0, kO 4 (.call (.fn 100) [.t 3]), kO 5 (.bi .len [80] [.t 4]), kO 6 (.bin .gtr 3 (.t 5) (kI 0)), kM 2 6])
 (.ret))
theorem b67 : Body Tryd.prog 67 7 [2] k67 := ⟨Enters.of Tryd.func67 (by kernel_rfl) (by kernel_rfl), _, _, Tryd.func67, rfl, by kernel_rfl, rfl, rfl⟩

/-- cartridge/record.within -/
def k80 : KC :=
 .seq (.reg [kO 6 (.mv (.b false))])
 (.seq (.reg [kM 7 0, kM 8 1, kO 9 (.bin .geq 3 (.t 7) (.t 8)), kM 10 9, kT 11 10 (.mv (.t 0)), kT 12 10 (.mv (.t 2)), kT 13 10 (.bin .leq 3 (.t 11) (.t 12)),
 kO 14 (.pk (.t 10) (.t 13) (.b false)), kM 6 14])
 (.ret))
theorem b80 : Body Tryd.prog 80 15 [6] k80 := ⟨Enters.of Tryd.func80 (by kernel_rfl) (by kernel_rfl), _, _, Tryd.func80, rfl, by kernel_rfl, rfl, rfl⟩

/-- (*cartridge/code.Writer).Text -/
def k81 : KC :=
 .seq (.reg [kM 4 1, kM 5 1, kO 6 (.bi .len [9] [.t 5]), kO 7 (.bi .min [3, 3] [.t 6, .i .i64 255]), kO 8 (.sli 9 (.t 4) none (some (.t 7)) none), kM 1 8])
 (.seq (.reg [kM 9 0, kM 10 0, kO 11 (.nc (.t 10)), kO 12 (.fa 147 (.t 11) 0), kO 13 (.ld 24 (.t 12)), kM 14 1, kO 15 (.bi .len [9] [.t 14]),
 kO 16 (.cvt 3 5 (.t 15)), kO 17 (.bsl 24 1 [(0, .t 16)]), kO 18 (.bi .append [24, 24] [.t 13, .t 17]), kO 19 (.nc (.t 9)), kO 20 (.fa 147 (.t 19) 0),
 kN (.st 24 (.t 20) (.t 18))])
 (.reg [kM 21 0, kM 22 0, kO 23 (.nc (.t 22)), kO 24 (.fa 147 (.t 23) 0), kO 25 (.ld 24 (.t 24)), kM 26 1, kO 27 (.bi .append [24, 9] [.t 25, .t 26]),
 kO 28 (.nc (.t 21)), kO 29 (.fa 147 (.t 28) 0), kN (.st 24 (.t 29) (.t 27))]))
theorem b81 : Body Tryd.prog 81 30 [] k81 := ⟨Enters.of Tryd.func81 (by kernel_rfl) (by kernel_rfl), _, _, Tryd.func81, rfl, by kernel_rfl, rfl, rfl⟩

/-- (*cartridge/code.Writer).Int -/
def k82 : KC :=
 .seq (.reg [kM 5 1, kO 6 (.cvt 3 106 (.t 5)), kM 4 6])
 (.reg [kM 7 0, kM 8 0, kO 9 (.nc (.t 8)), kO 10 (.fa 147 (.t 9) 0), kO 11 (.ld 24 (.t 10)), kM 12 4, kO 13 (.bin .shr 106 (.t 12) (.i .u64 24)),
 kO 14 (.cvt 106 5 (.t 13)), kM 15 4, kO 16 (.bin .shr 106 (.t 15) (.i .u64 16)), kO 17 (.cvt 106 5 (.t 16)), kM 18 4,
 kO 19 (.bin .shr 106 (.t 18) (.i .u64 8)), kO 20 (.cvt 106 5 (.t 19)), kM 21 4, kO 22 (.cvt 106 5 (.t 21)),
 kO 23 (.bsl 24 4 [(0, .t 14), (1, .t 17), (2, .t 20), (3, .t 22)]), kO 24 (.bi .append [24, 24] [.t 11, .t 23]), kO 25 (.nc (.t 7)),
 kO 26 (.fa 147 (.t 25) 0), kN (.st 24 (.t 26) (.t 24))])
theorem b82 : Body Tryd.prog 82 27 [] k82 := ⟨Enters.of Tryd.func82 (by kernel_rfl) (by kernel_rfl), _, _, Tryd.func82, rfl, by kernel_rfl, rfl, rfl⟩

/-- (*cartridge/code.Writer).Byte -/
def k83 : KC :=
 .reg [kM 4 0, kM 5 0, kO 6 (.nc (.t 5)), kO 7 (.fa 147 (.t 6) 0), kO 8 (.ld 24 (.t 7)), kM 9 1, kO 10 (.bsl 24 1 [(0, .t 9)]),
 kO 11 (.bi .append [24, 24] [.t 8, .t 10]), kO 12 (.nc (.t 4)), kO 13 (.fa 147 (.t 12) 0), kN (.st 24 (.t 13) (.t 11))]
theorem b83 : Body Tryd.prog 83 14 [] k83 := ⟨Enters.of Tryd.func83 (by kernel_rfl) (by kernel_rfl), _, _, Tryd.func83, rfl, by kernel_rfl, rfl, rfl⟩

/-- (*cartridge/code.Writer).Bytes -/
def k84 : KC :=
 .seq (.reg [kO 2 (.mv (.ns))])
 (.seq (.reg [kM 3 0, kO 4 (.nc (.t 3)), kO 5 (.fa 147 (.t 4) 0), kO 6 (.ld 24 (.t 5)), kO 7 (.call (.fn 66) [.t 6]), kM 2 7])
 (.ret))
theorem b84 : Body Tryd.prog 84 8 [2] k84 := ⟨Enters.of Tryd.func84 (by kernel_rfl) (by kernel_rfl), _, _, Tryd.func84, rfl, by kernel_rfl, rfl, rfl⟩

/-- cartridge/frame.check -/
noncomputable def drw85_0 : Array Oper := ((Tryd.f85.body.map regs).getD []).getD 0 #[]
noncomputable def k85 : KC :=
 .seq (.reg [kO 1 (.box 42 (.t 0)), kO 2 (.mv (kI 0))])
 (.seq (.seq (.reg [kO 3 (.fa 42 (.t 1) 1), kO 4 (.ld 3 (.t 3)), kO 5 (.bin .lss 3 (.t 4) (kI 1)), kM 6 5, kG 7 6 (.fa 42 (.t 1) 1), kG 8 6 (.ld 3 (.t 7)),
 kG 9 6 (.bin .gtr 3 (.t 8) (kI 2147483647)), kO 10 (.pk (.t 6) (.b true) (.t 9)), kM 11 10, kG 12 11 (.fa 42 (.t 1) 2), kG 13 11 (.ld 3 (.t 12)),
 kG 14 11 (.bin .lss 3 (.t 13) (kI 0)), kO 15 (.pk (.t 11) (.b true) (.t 14)), kM 16 15, kG 17 16 (.fa 42 (.t 1) 2), kG 18 16 (.ld 3 (.t 17)),
 kG 19 16 (.bin .gtr 3 (.t 18) (kI 2147483647)), kO 20 (.pk (.t 16) (.b true) (.t 19))])
 (.cond (.t 20) (.seq (.reg [kO 2 (.mv (kI 1))])
 (.ret))
 (.skip)))
 (.seq (.seq (.reg [kO 21 (.fa 42 (.t 1) 0), kO 22 (.ld 3 (.t 21))])
 (.block 0 (.seq (.block 6 (.block 5 (.block 4 (.block 3 (.block 2 (.block 1 (.seq (.seq (.seq (.reg [kO 24 (.bin .eql 3 (.t 22) (kI 1)), kM 23 24])
 (.cond (.t 23) (.exit 1)
 (.skip)))
 (.seq (.seq (.reg [kO 26 (.bin .eql 3 (.t 22) (kI 2)), kM 25 26])
 (.cond (.t 25) (.exit 2)
 (.skip)))
 (.seq (.seq (.reg [kO 28 (.bin .eql 3 (.t 22) (kI 3)), kM 27 28])
 (.cond (.t 27) (.exit 3)
 (.skip)))
 (.seq (.seq (.reg [kO 30 (.bin .eql 3 (.t 22) (kI 4)), kM 29 30])
 (.cond (.t 29) (.exit 4)
 (.skip)))
 (.seq (.seq (.reg [kO 32 (.bin .eql 3 (.t 22) (kI 5)), kM 31 32])
 (.cond (.t 31) (.exit 5)
 (.skip)))
 (.seq (.reg [kO 34 (.bin .eql 3 (.t 22) (kI 6)), kM 33 34])
 (.cond (.t 33) (.exit 6)
 (.skip))))))))
 (.exit 0))))))))
 (.seq (.seq (.seq (.drw drw85_0 [kO 35 (.fa 42 (.t 1) 3), kO 36 (.ld 24 (.t 35)), kO 37 (.bi .len [24] [.t 36]), kO 38 (.fa 42 (.t 1) 0), kO 39 (.ld 3 (.t 38)),
 kO 40 (.call (.fn 110) [.t 39]), kO 41 (.bin .gtr 3 (.t 37) (.t 40))])
 (.cond (.t 41) (.seq (.reg [kO 2 (.mv (kI 4))])
 (.ret))
 (.skip)))
 (.seq (.reg [kO 2 (.mv (kI 0))])
 (.ret)))
 (.exit 0)))))
 (.seq (.reg [kO 2 (.mv (kI 1))])
 (.ret))))
theorem b85 : Body Tryd.prog 85 42 [2] k85 := ⟨Enters.of Tryd.func85 (by kernel_rfl) (by kernel_rfl), _, _, Tryd.func85, rfl, by kernel_rfl, rfl, rfl⟩

/-- cartridge/frame.made -/
def k86 : KC :=
 .seq (.reg [kO 1 (.box 42 (.t 0)), kO 2 (.mv (.ns))])
 (.seq (.reg [kO 6 (.bld 147 []), kO 7 (.box 147 (.t 6)), kM 3 7])
 (.seq (.reg [kM 8 3, kO 9 (.fa 42 (.t 1) 0), kO 10 (.ld 3 (.t 9)), kO 11 (.cvt 3 5 (.t 10)), kO 12 (.call (.fn 83) [.t 8, .t 11])])
 (.seq (.reg [kM 13 3, kO 14 (.fa 42 (.t 1) 1), kO 15 (.ld 3 (.t 14)), kO 16 (.call (.fn 82) [.t 13, .t 15])])
 (.seq (.reg [kM 17 3, kO 18 (.fa 42 (.t 1) 2), kO 19 (.ld 3 (.t 18)), kO 20 (.call (.fn 82) [.t 17, .t 19])])
 (.seq (.reg [kM 21 3, kO 22 (.fa 42 (.t 1) 3), kO 23 (.ld 24 (.t 22)), kO 24 (.bi .len [24] [.t 23]), kO 25 (.bin .shr 3 (.t 24) (.i .u64 8)),
 kO 26 (.cvt 3 5 (.t 25)), kO 27 (.call (.fn 83) [.t 21, .t 26])])
 (.seq (.reg [kM 28 3, kO 29 (.fa 42 (.t 1) 3), kO 30 (.ld 24 (.t 29)), kO 31 (.bi .len [24] [.t 30]), kO 32 (.cvt 3 5 (.t 31)),
 kO 33 (.call (.fn 83) [.t 28, .t 32])])
 (.seq (.reg [kO 34 (.fa 42 (.t 1) 0), kO 35 (.ld 3 (.t 34)), kO 36 (.call (.fn 110) [.t 35]), kO 37 (.mk 24 (.t 36) (.t 36)), kM 4 37])
 (.seq (.reg [kM 38 4, kO 39 (.fa 42 (.t 1) 3), kO 40 (.ld 24 (.t 39)), kO 41 (.bi .copy [24, 24] [.t 38, .t 40])])
 (.seq (.reg [kM 42 3, kO 43 (.call (.fn 84) [.t 42]), kM 44 4, kO 45 (.bi .append [24, 24] [.t 43, .t 44]), kM 5 45])
 (.seq (.reg [kO 46 (.bld 147 []), kO 47 (.box 147 (.t 46)), kM 3 47])
 (.seq (.reg [kM 48 3, kM 49 5, kO 50 (.call (.fn 92) [.t 49]), kO 51 (.cvt 106 3 (.t 50)), kO 52 (.call (.fn 82) [.t 48, .t 51])])
 (.seq (.reg [kM 53 5, kM 54 3, kO 55 (.call (.fn 84) [.t 54]), kO 56 (.bi .append [24, 24] [.t 53, .t 55]), kM 2 56])
 (.ret)))))))))))))
theorem b86 : Body Tryd.prog 86 57 [2] k86 := ⟨Enters.of Tryd.func86 (by kernel_rfl) (by kernel_rfl), _, _, Tryd.func86, rfl, by kernel_rfl, rfl, rfl⟩

/-- (*cartridge/cartridgeref1.Writer).Text -/
def k87 : KC :=
 .seq (.seq (.reg [kM 4 1, kO 5 (.bi .len [9] [.t 4]), kO 6 (.bin .gtr 3 (.t 5) (kI 255))])
 (.cond (.t 6) (.reg [kM 7 1, kO 8 (.sli 9 (.t 7) none (some (kI 255)) none), kM 1 8])
 (.skip)))
 (.seq (.reg [kM 9 0, kM 10 0, kO 11 (.nc (.t 10)), kO 12 (.fa 102 (.t 11) 0), kO 13 (.ld 24 (.t 12)), kM 14 1, kO 15 (.bi .len [9] [.t 14]),
 kO 16 (.cvt 3 5 (.t 15)), kO 17 (.bsl 24 1 [(0, .t 16)]), kO 18 (.bi .append [24, 24] [.t 13, .t 17]), kO 19 (.nc (.t 9)), kO 20 (.fa 102 (.t 19) 0),
 kN (.st 24 (.t 20) (.t 18))])
 (.reg [kM 21 0, kM 22 0, kO 23 (.nc (.t 22)), kO 24 (.fa 102 (.t 23) 0), kO 25 (.ld 24 (.t 24)), kM 26 1, kO 27 (.bi .append [24, 9] [.t 25, .t 26]),
 kO 28 (.nc (.t 21)), kO 29 (.fa 102 (.t 28) 0), kN (.st 24 (.t 29) (.t 27))]))
theorem b87 : Body Tryd.prog 87 30 [] k87 := ⟨Enters.of Tryd.func87 (by kernel_rfl) (by kernel_rfl), _, _, Tryd.func87, rfl, by kernel_rfl, rfl, rfl⟩

/-- cartridge/cartridgeref1.More -/
def k88 : KC :=
 .seq (.reg [kO 4 (.mv (.i .u32 0))])
 (.seq (.reg [kM 8 0, kO 9 (.bin .xor 106 (.t 8) (.i .u32 4294967295)), kM 5 9])
 (.seq (.seq (.reg [kO 6 (.mv (kI 0))])
 (.block 0 (.loop (.seq (.seq (.reg [kM 10 6, kM 11 1, kO 12 (.bi .len [24] [.t 11]), kO 13 (.bin .lss 3 (.t 10) (.t 12))])
 (.cond (.t 13) (.skip)
 (.exit 0)))
 (.seq (.block 1 (.seq (.reg [kM 16 5, kM 17 1, kM 18 6, kO 19 (.ia 24 (.t 17) (.t 18)), kO 20 (.ld 5 (.t 19)), kO 21 (.cvt 5 106 (.t 20)), kO 22 (.bin .xor 106 (.t 16) (.t 21)),
 kM 5 22])
 (.seq (.reg [kO 7 (.mv (kI 0))])
 (.block 2 (.loop (.seq (.seq (.reg [kM 23 7, kO 24 (.bin .lss 3 (.t 23) (kI 8))])
 (.cond (.t 24) (.skip)
 (.exit 2)))
 (.seq (.block 3 (.seq (.reg [kM 27 5, kO 28 (.bin .and 106 (.t 27) (.i .u32 1)), kO 29 (.bin .eql 106 (.t 28) (.i .u32 1))])
 (.cond (.t 29) (.reg [kM 30 5, kO 31 (.bin .shr 106 (.t 30) (.i .u64 1)), kO 32 (.bin .xor 106 (.t 31) (.i .u32 2197175160)), kM 5 32])
 (.reg [kM 33 5, kO 34 (.bin .shr 106 (.t 33) (.i .u64 1)), kM 5 34]))))
 (.reg [kM 25 7, kO 26 (.bin .add 3 (.t 25) (kI 1)), kM 7 26]))))))))
 (.reg [kM 14 6, kO 15 (.bin .add 3 (.t 14) (kI 1)), kM 6 15]))))))
 (.seq (.reg [kM 35 5, kO 36 (.bin .xor 106 (.t 35) (.i .u32 4294967295)), kM 4 36])
 (.ret))))
theorem b88 : Body Tryd.prog 88 37 [4] k88 := ⟨Enters.of Tryd.func88 (by kernel_rfl) (by kernel_rfl), _, _, Tryd.func88, rfl, by kernel_rfl, rfl, rfl⟩

/-- cartridge/frame.Get -/
def k89 : KC :=
 .seq (.reg [kO 2 (.al 42), kO 3 (.mv (kI 0))])
 (.seq (.reg [kM 7 0, kO 8 (.call (.fn 111) [.t 7]), kM 4 8])
 (.seq (.reg [kM 9 4, kO 10 (.call (.fn 112) [.t 9]), kO 11 (.cvt 5 3 (.t 10)), kO 12 (.bld 42 [(0, .t 11)]), kO 5 (.al 42), kN (.st 42 (.t 5) (.t 12))])
 (.seq (.reg [kM 13 4, kO 14 (.call (.fn 113) [.t 13]), kO 15 (.fa 42 (.t 5) 1), kN (.st 3 (.t 15) (.t 14))])
 (.seq (.reg [kM 16 4, kO 17 (.call (.fn 113) [.t 16]), kO 18 (.fa 42 (.t 5) 2), kN (.st 3 (.t 18) (.t 17))])
 (.seq (.reg [kM 19 4, kO 20 (.call (.fn 112) [.t 19]), kO 21 (.cvt 5 3 (.t 20)), kO 22 (.bin .shl 3 (.t 21) (.i .u64 8)), kM 23 4,
 kO 24 (.call (.fn 112) [.t 23]), kO 25 (.cvt 5 3 (.t 24)), kO 26 (.bin .or 3 (.t 22) (.t 25)), kM 6 26])
 (.seq (.reg [kM 27 4, kM 28 6, kO 29 (.call (.fn 114) [.t 27, .t 28]), kO 30 (.fa 42 (.t 5) 3), kN (.st 24 (.t 30) (.t 29))])
 (.seq (.seq (.reg [kM 31 4, kO 32 (.call (.fn 115) [.t 31]), kM 33 32, kG 34 33 (.ld 42 (.t 5)), kG 35 33 (.call (.fn 85) [.t 34]),
 kG 36 33 (.bin .neq 27 (.t 35) (kI 0)), kO 37 (.pk (.t 33) (.b true) (.t 36)), kM 38 37, kG 39 38 (.mv (.t 0)), kG 40 38 (.ld 42 (.t 5)),
 kG 41 38 (.call (.fn 86) [.t 40]), kG 42 38 (.call (.fn 116) [.t 39, .t 41]), kG 43 38 (.un .not (.t 42)), kO 44 (.pk (.t 38) (.b true) (.t 43))])
 (.cond (.t 44) (.seq (.reg [kO 45 (.bld 42 []), kN (.st 42 (.t 2) (.t 45)), kO 3 (.mv (kI 2))])
 (.ret))
 (.skip)))
 (.seq (.reg [kO 46 (.ld 42 (.t 5)), kN (.st 42 (.t 2) (.t 46)), kO 3 (.mv (kI 0))])
 (.ret)))))))))

/-- cartridge/record.ReadHead -/
def k90 : KC :=
 .seq (.reg [kO 2 (.al 23), kO 3 (.mv (kI 0))])
 (.seq (.reg [kM 8 0, kO 9 (.call (.fn 111) [.t 8]), kM 4 9])
 (.seq (.reg [kM 10 4, kO 11 (.call (.fn 117) [.t 10]), kO 12 (.bld 23 [(0, .t 11)]), kO 5 (.al 23), kN (.st 23 (.t 5) (.t 12))])
 (.seq (.seq (.reg [kO 13 (.fa 23 (.t 5) 1), kO 14 (.fa 23 (.t 5) 2), kO 15 (.fa 23 (.t 5) 3), kO 16 (.fa 23 (.t 5) 4), kO 17 (.fa 23 (.t 5) 5), kO 18 (.fa 23 (.t 5) 6),
 kO 19 (.bsl 189 6 [(0, .t 13), (1, .t 14), (2, .t 15), (3, .t 16), (4, .t 17), (5, .t 18)]), kO 20 (.bi .len [189] [.t 19]), kO 21 (.mv (kI 0))])
 (.block 0 (.loop (.seq (.reg [kO 22 (.bin .lss 3 (.t 21) (.t 20))])
 (.seq (.cond (.t 22) (.skip)
 (.exit 0))
 (.seq (.block 1 (.seq (.reg [kO 23 (.ia 189 (.t 19) (.t 21)), kO 24 (.ld 188 (.t 23)), kM 7 24])
 (.reg [kM 25 7, kM 26 4, kO 27 (.call (.fn 113) [.t 26]), kO 28 (.nc (.t 25)), kN (.st 3 (.t 28) (.t 27))])))
 (.reg [kO 29 (.bin .add 3 (.t 21) (kI 1)), kM 21 29])))))))
 (.seq (.reg [kM 30 4, kO 31 (.call (.fn 112) [.t 30]), kO 32 (.bin .eql 5 (.t 31) (.i .u8 1)), kO 33 (.fa 23 (.t 5) 7), kN (.st 4 (.t 33) (.t 32))])
 (.seq (.seq (.reg [kM 34 4, kO 35 (.call (.fn 115) [.t 34]), kM 36 35, kG 37 36 (.ld 23 (.t 5)), kG 38 36 (.call (.fn 41) [.t 37]), kG 39 36 (.un .not (.t 38)),
 kO 40 (.pk (.t 36) (.b true) (.t 39)), kM 41 40, kG 42 41 (.mv (.t 0)), kG 43 41 (.ld 23 (.t 5)), kG 44 41 (.call (.fn 42) [.t 43]),
 kG 45 41 (.call (.fn 116) [.t 42, .t 44]), kG 46 41 (.un .not (.t 45)), kO 47 (.pk (.t 41) (.b true) (.t 46))])
 (.cond (.t 47) (.seq (.reg [kO 48 (.bld 23 []), kN (.st 23 (.t 2) (.t 48)), kO 3 (.mv (kI 2))])
 (.ret))
 (.skip)))
 (.seq (.reg [kO 49 (.ld 23 (.t 5)), kN (.st 23 (.t 2) (.t 49)), kO 3 (.mv (kI 0))])
 (.ret)))))))

/-- cartridge/castagnoli.Sum -/
def k92 : KC :=
 .seq (.reg [kO 2 (.mv (.i .u32 0))])
 (.seq (.reg [kM 3 0, kO 4 (.call (.fn 119) [.i .u32 0, .t 3]), kM 2 4])
 (.ret))
theorem b92 : Body Tryd.prog 92 5 [2] k92 := ⟨Enters.of Tryd.func92 (by kernel_rfl) (by kernel_rfl), _, _, Tryd.func92, rfl, by kernel_rfl, rfl, rfl⟩

/-- slices.ContainsFunc[[]string,string] -/
def k97 : KC :=
 .seq (.reg [kO 4 (.mv (.b false))])
 (.seq (.reg [kM 5 0, kM 6 1, kO 7 (.call (.fn 126) [.t 5, .t 6]), kO 8 (.bin .geq 3 (.t 7) (kI 0)), kM 4 8])
 (.ret))
theorem b97 : Body Tryd.prog 97 9 [4] k97 := ⟨Enters.of Tryd.func97 (by kernel_rfl) (by kernel_rfl), _, _, Tryd.func97, rfl, by kernel_rfl, rfl, rfl⟩

/-- strings.Split -/
def k98 : KC :=
 .seq (.reg [kO 4 (.mv (.ns))])
 (.seq (.reg [kM 5 0, kM 6 1, kO 7 (.call (.fn 127) [.t 5, .t 6, .i .i64 0, .i .i64 (-1)]), kM 4 7])
 (.ret))
theorem b98 : Body Tryd.prog 98 8 [4] k98 := ⟨Enters.of Tryd.func98 (by kernel_rfl) (by kernel_rfl), _, _, Tryd.func98, rfl, by kernel_rfl, rfl, rfl⟩

/-- cartridge/path.wrong -/
def k99 : KC :=
 .seq (.reg [kO 2 (.mv (.b false))])
 (.seq (.reg [kM 3 0, kO 4 (.bin .eql 9 (.t 3) (.s ⟨#[]⟩)), kM 5 4, kG 6 5 (.mv (.t 0)), kG 7 5 (.bin .eql 9 (.t 6) (.s ⟨#[46]⟩)),
 kO 8 (.pk (.t 5) (.b true) (.t 7)), kM 9 8, kG 10 9 (.mv (.t 0)), kG 11 9 (.bin .eql 9 (.t 10) (.s ⟨#[46, 46]⟩)),
 kO 12 (.pk (.t 9) (.b true) (.t 11)), kM 13 12, kG 14 13 (.mv (.t 0)), kG 15 13 (.call (.fn 128) [.t 14, .fn 129]),
 kO 16 (.pk (.t 13) (.b true) (.t 15)), kM 2 16])
 (.ret))
theorem b99 : Body Tryd.prog 99 17 [2] k99 := ⟨Enters.of Tryd.func99 (by kernel_rfl) (by kernel_rfl), _, _, Tryd.func99, rfl, by kernel_rfl, rfl, rfl⟩

/-- cartridge/cartridgeref1.PathParts -/
def k100 : KC :=
 .seq (.reg [kO 2 (.mv (.ns))])
 (.seq (.seq (.reg [kM 7 0, kO 8 (.bi .len [9] [.t 7]), kO 9 (.bin .lss 3 (.t 8) (kI 1)), kM 10 9, kG 11 10 (.mv (.t 0)), kG 12 10 (.bi .len [9] [.t 11]),
 kG 13 10 (.bin .gtr 3 (.t 12) (kI 24)), kO 14 (.pk (.t 10) (.b true) (.t 13))])
 (.cond (.t 14) (.seq (.reg [kO 2 (.mv (.ns))])
 (.ret))
 (.skip)))
 (.seq (.reg [kO 3 (.mv (.ns))])
 (.seq (.reg [kO 4 (.mv (.s ⟨#[]⟩))])
 (.seq (.seq (.reg [kO 5 (.mv (kI 0))])
 (.block 0 (.loop (.seq (.seq (.reg [kM 15 5, kM 16 0, kO 17 (.bi .len [9] [.t 16]), kO 18 (.bin .leq 3 (.t 15) (.t 17))])
 (.cond (.t 18) (.skip)
 (.exit 0)))
 (.seq (.block 1 (.seq (.seq (.reg [kM 21 5, kM 22 0, kO 23 (.bi .len [9] [.t 22]), kO 24 (.bin .eql 3 (.t 21) (.t 23)), kM 25 24, kG 26 25 (.mv (.t 0)), kG 27 25 (.mv (.t 5)),
 kG 28 25 (.ix 9 (.t 26) (.t 27)), kG 29 25 (.bin .eql 5 (.t 28) (.i .u8 47)), kO 30 (.pk (.t 25) (.b true) (.t 29))])
 (.cond (.t 30) (.seq (.seq (.reg [kM 31 4, kO 32 (.bin .eql 9 (.t 31) (.s ⟨#[]⟩)), kM 33 32, kG 34 33 (.mv (.t 4)), kG 35 33 (.bin .eql 9 (.t 34) (.s ⟨#[46]⟩)),
 kO 36 (.pk (.t 33) (.b true) (.t 35)), kM 37 36, kG 38 37 (.mv (.t 4)), kG 39 37 (.bin .eql 9 (.t 38) (.s ⟨#[46, 46]⟩)),
 kO 40 (.pk (.t 37) (.b true) (.t 39))])
 (.cond (.t 40) (.seq (.reg [kO 2 (.mv (.ns))])
 (.ret))
 (.skip)))
 (.seq (.reg [kM 41 3, kM 42 4, kO 43 (.bsl 80 1 [(0, .t 42)]), kO 44 (.bi .append [80, 80] [.t 41, .t 43]), kM 3 44])
 (.seq (.reg [kO 4 (.mv (.s ⟨#[]⟩))])
 (.exit 1))))
 (.skip)))
 (.seq (.reg [kM 45 0, kM 46 5, kO 47 (.ix 9 (.t 45) (.t 46)), kM 6 47])
 (.seq (.seq (.reg [kM 48 6, kO 49 (.bin .geq 5 (.t 48) (.i .u8 97)), kM 50 49, kT 51 50 (.mv (.t 6)), kT 52 50 (.bin .leq 5 (.t 51) (.i .u8 122)),
 kO 53 (.pk (.t 50) (.t 52) (.b false)), kM 54 53, kG 55 54 (.mv (.t 6)), kG 56 54 (.bin .geq 5 (.t 55) (.i .u8 48)), kG 57 54 (.mv (.t 56)),
 kT 58 57 (.mv (.t 6)), kT 59 57 (.bin .leq 5 (.t 58) (.i .u8 57)), kG 60 54 (.pk (.t 57) (.t 59) (.b false)), kO 61 (.pk (.t 54) (.b true) (.t 60)),
 kM 62 61, kG 63 62 (.mv (.t 6)), kG 64 62 (.bin .eql 5 (.t 63) (.i .u8 46)), kO 65 (.pk (.t 62) (.b true) (.t 64)), kM 66 65, kG 67 66 (.mv (.t 6)),
 kG 68 66 (.bin .eql 5 (.t 67) (.i .u8 45)), kO 69 (.pk (.t 66) (.b true) (.t 68)), kM 70 69, kG 71 70 (.mv (.t 6)),
 kG 72 70 (.bin .eql 5 (.t 71) (.i .u8 95)), kO 73 (.pk (.t 70) (.b true) (.t 72)), kO 74 (.un .not (.t 73))])
 (.cond (.t 74) (.seq (.reg [kO 2 (.mv (.ns))])
 (.ret))
 (.skip)))
 (.reg [kM 75 4, kM 76 0, kM 77 5, kM 78 5, kO 79 (.bin .add 3 (.t 78) (kI 1)), kO 80 (.sli 9 (.t 76) (some (.t 77)) (some (.t 79)) none),
 kO 81 (.bin .add 9 (.t 75) (.t 80)), kM 4 81])))))
 (.reg [kM 19 5, kO 20 (.bin .add 3 (.t 19) (kI 1)), kM 5 20]))))))
 (.seq (.reg [kM 82 3, kM 2 82])
 (.ret))))))
theorem b100 : Body Tryd.prog 100 83 [2] k100 := ⟨Enters.of Tryd.func100 (by kernel_rfl) (by kernel_rfl), _, _, Tryd.func100, rfl, by kernel_rfl, rfl, rfl⟩

/-- cartridge/frame.room -/
def k110 : KC :=
 .seq (.reg [kO 2 (.mv (kI 0))])
 (.seq (.seq (.reg [kM 3 0, kO 4 (.bin .eql 3 (.t 3) (kI 6))])
 (.cond (.t 4) (.seq (.reg [kO 2 (.mv (kI 79))])
 (.ret))
 (.skip)))
 (.seq (.reg [kO 2 (.mv (kI 64))])
 (.ret)))
theorem b110 : Body Tryd.prog 110 5 [2] k110 := ⟨Enters.of Tryd.func110 (by kernel_rfl) (by kernel_rfl), _, _, Tryd.func110, rfl, by kernel_rfl, rfl, rfl⟩

/-- cartridge/code.NewReader -/
def k111 : KC :=
 .seq (.reg [kO 2 (.mv (.np))])
 (.seq (.reg [kM 3 0, kO 4 (.call (.fn 66) [.t 3]), kO 5 (.bld 215 [(0, .t 4)]), kO 6 (.box 215 (.t 5)), kM 2 6])
 (.ret))
theorem b111 : Body Tryd.prog 111 7 [2] k111 := ⟨Enters.of Tryd.func111 (by kernel_rfl) (by kernel_rfl), _, _, Tryd.func111, rfl, by kernel_rfl, rfl, rfl⟩

/-- (*cartridge/code.Reader).Byte -/
def k112 : KC :=
 .seq (.reg [kO 2 (.mv (.i .u8 0))])
 (.seq (.reg [kM 4 0, kO 5 (.call (.fn 146) [.t 4, .i .i64 1]), kM 3 5])
 (.seq (.seq (.reg [kM 6 3, kO 7 (.bi .len [24] [.t 6]), kO 8 (.bin .eql 3 (.t 7) (kI 0))])
 (.cond (.t 8) (.seq (.reg [kO 2 (.mv (.i .u8 0))])
 (.ret))
 (.skip)))
 (.seq (.reg [kM 9 3, kO 10 (.ia 24 (.t 9) (kI 0)), kO 11 (.ld 5 (.t 10)), kM 2 11])
 (.ret))))
theorem b112 : Body Tryd.prog 112 12 [2] k112 := ⟨Enters.of Tryd.func112 (by kernel_rfl) (by kernel_rfl), _, _, Tryd.func112, rfl, by kernel_rfl, rfl, rfl⟩

/-- (*cartridge/code.Reader).Int -/
def k113 : KC :=
 .seq (.reg [kO 2 (.mv (kI 0))])
 (.seq (.reg [kO 3 (.mv (.i .u32 0))])
 (.seq (.seq (.reg [kM 6 0, kO 7 (.call (.fn 146) [.t 6, .i .i64 4]), kO 8 (.bi .len [24] [.t 7]), kO 9 (.mv (kI 0))])
 (.block 0 (.loop (.seq (.reg [kO 10 (.bin .lss 3 (.t 9) (.t 8))])
 (.seq (.cond (.t 10) (.skip)
 (.exit 0))
 (.seq (.block 1 (.seq (.reg [kO 11 (.ia 24 (.t 7) (.t 9)), kO 12 (.ld 5 (.t 11)), kM 5 12])
 (.reg [kM 13 3, kO 14 (.bin .shl 106 (.t 13) (.i .u64 8)), kM 15 5, kO 16 (.cvt 5 106 (.t 15)), kO 17 (.bin .or 106 (.t 14) (.t 16)), kM 3 17])))
 (.reg [kO 18 (.bin .add 3 (.t 9) (kI 1)), kM 9 18])))))))
 (.seq (.reg [kM 19 3, kO 20 (.cvt 106 3 (.t 19)), kM 2 20])
 (.ret))))
theorem b113 : Body Tryd.prog 113 21 [2] k113 := ⟨Enters.of Tryd.func113 (by kernel_rfl) (by kernel_rfl), _, _, Tryd.func113, rfl, by kernel_rfl, rfl, rfl⟩

/-- (*cartridge/code.Reader).Raw -/
def k114 : KC :=
 .seq (.reg [kO 4 (.mv (.ns))])
 (.seq (.reg [kM 5 0, kM 6 1, kO 7 (.bi .max [3, 3] [.i .i64 0, .t 6]), kO 8 (.call (.fn 146) [.t 5, .t 7]), kO 9 (.call (.fn 66) [.t 8]), kM 4 9])
 (.ret))
theorem b114 : Body Tryd.prog 114 10 [4] k114 := ⟨Enters.of Tryd.func114 (by kernel_rfl) (by kernel_rfl), _, _, Tryd.func114, rfl, by kernel_rfl, rfl, rfl⟩

/-- (*cartridge/code.Reader).Bad -/
def k115 : KC :=
 .seq (.reg [kO 2 (.mv (.b false))])
 (.seq (.reg [kM 3 0, kO 4 (.bin .neq 184 (.t 3) (.np)), kM 5 4, kT 6 5 (.mv (.t 0)), kT 7 5 (.nc (.t 6)), kT 8 5 (.fa 215 (.t 7) 1), kT 9 5 (.ld 4 (.t 8)),
 kO 10 (.pk (.t 5) (.t 9) (.b false)), kM 2 10])
 (.ret))
theorem b115 : Body Tryd.prog 115 11 [2] k115 := ⟨Enters.of Tryd.func115 (by kernel_rfl) (by kernel_rfl), _, _, Tryd.func115, rfl, by kernel_rfl, rfl, rfl⟩

/-- slices.Equal[[]byte,byte] -/
noncomputable def drw116_0 : Array Oper := ((Tryd.f116.body.map regs).getD []).getD 0 #[]
noncomputable def k116 : KC :=
 .seq (.reg [kO 4 (.mv (.b false))])
 (.seq (.seq (.reg [kM 6 0, kO 7 (.bi .len [24] [.t 6]), kM 8 1, kO 9 (.bi .len [24] [.t 8]), kO 10 (.bin .neq 3 (.t 7) (.t 9))])
 (.cond (.t 10) (.seq (.reg [kO 4 (.mv (.b false))])
 (.ret))
 (.skip)))
 (.seq (.seq (.reg [kM 11 0, kO 12 (.bi .len [24] [.t 11]), kO 13 (.mv (kI 0))])
 (.block 0 (.loop (.seq (.reg [kO 14 (.bin .lss 3 (.t 13) (.t 12))])
 (.seq (.cond (.t 14) (.skip)
 (.exit 0))
 (.seq (.block 1 (.seq (.reg [kM 15 13, kM 5 15])
 (.seq (.drw drw116_0 [kM 16 0, kM 17 5, kO 18 (.ia 24 (.t 16) (.t 17)), kO 19 (.ld 5 (.t 18)), kM 20 1, kM 21 5, kO 22 (.ia 24 (.t 20) (.t 21)), kO 23 (.ld 5 (.t 22)),
 kO 24 (.bin .neq 5 (.t 19) (.t 23))])
 (.cond (.t 24) (.seq (.reg [kO 4 (.mv (.b false))])
 (.ret))
 (.skip)))))
 (.reg [kO 25 (.bin .add 3 (.t 13) (kI 1)), kM 13 25])))))))
 (.seq (.reg [kO 4 (.mv (.b true))])
 (.ret))))
theorem b116 : Body Tryd.prog 116 26 [4] k116 := ⟨Enters.of Tryd.func116 (by kernel_rfl) (by kernel_rfl), _, _, Tryd.func116, rfl, by kernel_rfl, rfl, rfl⟩

/-- (*cartridge/code.Reader).Text -/
def k117 : KC :=
 .seq (.reg [kO 2 (.mv (.s ⟨#[]⟩))])
 (.seq (.reg [kM 3 0, kM 4 0, kO 5 (.call (.fn 112) [.t 4]), kO 6 (.cvt 5 3 (.t 5)), kO 7 (.call (.fn 146) [.t 3, .t 6]), kO 8 (.cvt 24 9 (.t 7)), kM 2 8])
 (.ret))
theorem b117 : Body Tryd.prog 117 9 [2] k117 := ⟨Enters.of Tryd.func117 (by kernel_rfl) (by kernel_rfl), _, _, Tryd.func117, rfl, by kernel_rfl, rfl, rfl⟩

/-- cartridge/castagnoli.More -/
def k119 : KC :=
 .seq (.reg [kO 4 (.mv (.i .u32 0))])
 (.seq (.reg [kM 8 0, kO 9 (.bin .xor 106 (.t 8) (.i .u32 4294967295)), kM 5 9])
 (.seq (.seq (.reg [kM 10 1, kO 11 (.bi .len [24] [.t 10]), kO 12 (.mv (kI 0))])
 (.block 0 (.loop (.seq (.reg [kO 13 (.bin .lss 3 (.t 12) (.t 11))])
 (.seq (.cond (.t 13) (.skip)
 (.exit 0))
 (.seq (.block 1 (.seq (.reg [kO 14 (.ia 24 (.t 10) (.t 12)), kO 15 (.ld 5 (.t 14)), kM 7 15])
 (.seq (.reg [kM 16 5, kM 17 7, kO 18 (.cvt 5 106 (.t 17)), kO 19 (.bin .xor 106 (.t 16) (.t 18)), kM 5 19])
 (.seq (.reg [kO 20 (.mv (kI 0))])
 (.block 2 (.loop (.seq (.reg [kO 21 (.bin .lss 3 (.t 20) (kI 8))])
 (.seq (.cond (.t 21) (.skip)
 (.exit 2))
 (.seq (.block 3 (.seq (.reg [kM 22 5, kO 23 (.bin .and 106 (.t 22) (.i .u32 1)), kO 24 (.bin .eql 106 (.t 23) (.i .u32 1))])
 (.cond (.t 24) (.reg [kM 25 5, kO 26 (.bin .shr 106 (.t 25) (.i .u64 1)), kO 27 (.bin .xor 106 (.t 26) (.i .u32 2197175160)), kM 5 27])
 (.reg [kM 28 5, kO 29 (.bin .shr 106 (.t 28) (.i .u64 1)), kM 5 29]))))
 (.reg [kO 30 (.bin .add 3 (.t 20) (kI 1)), kM 20 30]))))))))))
 (.reg [kO 31 (.bin .add 3 (.t 12) (kI 1)), kM 12 31])))))))
 (.seq (.reg [kM 32 5, kO 33 (.bin .xor 106 (.t 32) (.i .u32 4294967295)), kM 4 33])
 (.ret))))
theorem b119 : Body Tryd.prog 119 34 [4] k119 := ⟨Enters.of Tryd.func119 (by kernel_rfl) (by kernel_rfl), _, _, Tryd.func119, rfl, by kernel_rfl, rfl, rfl⟩

/-- slices.IndexFunc[[]string,string] -/
def k126 : KC :=
 .seq (.reg [kO 4 (.mv (kI 0))])
 (.seq (.seq (.reg [kM 6 0, kO 7 (.bi .len [80] [.t 6]), kO 8 (.mv (kI 0))])
 (.block 0 (.loop (.seq (.reg [kO 9 (.bin .lss 3 (.t 8) (.t 7))])
 (.seq (.cond (.t 9) (.skip)
 (.exit 0))
 (.seq (.block 1 (.seq (.reg [kM 10 8, kM 5 10])
 (.seq (.reg [kM 11 1, kM 12 0, kM 13 5, kO 14 (.ia 80 (.t 12) (.t 13)), kO 15 (.ld 9 (.t 14)), kO 16 (.call (.t 11) [.t 15])])
 (.cond (.t 16) (.seq (.reg [kM 17 5, kM 4 17])
 (.ret))
 (.skip)))))
 (.reg [kO 18 (.bin .add 3 (.t 8) (kI 1)), kM 8 18])))))))
 (.seq (.reg [kO 4 (.mv (kI (-1)))])
 (.ret)))
theorem b126 : Body Tryd.prog 126 19 [4] k126 := ⟨Enters.of Tryd.func126 (by kernel_rfl) (by kernel_rfl), _, _, Tryd.func126, rfl, by kernel_rfl, rfl, rfl⟩

/-- strings.genSplit -/
def k127 : KC :=
 .seq (.reg [kO 8 (.mv (.ns))])
 (.seq (.seq (.reg [kM 12 3, kO 13 (.bin .eql 3 (.t 12) (kI 0))])
 (.cond (.t 13) (.seq (.reg [kO 8 (.mv (.ns))])
 (.ret))
 (.skip)))
 (.seq (.seq (.reg [kM 14 1, kO 15 (.bin .eql 9 (.t 14) (.s ⟨#[]⟩))])
 (.cond (.t 15) (.seq (.reg [kM 16 0, kM 17 3, kO 18 (.call (.fn 152) [.t 16, .t 17]), kM 8 18])
 (.ret))
 (.skip)))
 (.seq (.seq (.reg [kM 19 3, kO 20 (.bin .lss 3 (.t 19) (kI 0))])
 (.cond (.t 20) (.reg [kM 21 0, kM 22 1, kO 23 (.call (.fn 153) [.t 21, .t 22]), kO 24 (.bin .add 3 (.t 23) (kI 1)), kM 3 24])
 (.skip)))
 (.seq (.reg [kM 25 3, kM 26 0, kO 27 (.bi .len [9] [.t 26]), kO 28 (.bin .add 3 (.t 27) (kI 1)), kO 29 (.bi .min [3, 3] [.t 25, .t 28]), kM 3 29])
 (.seq (.reg [kM 30 3, kO 31 (.mk 80 (.t 30) (.t 30)), kM 9 31])
 (.seq (.reg [kM 32 3, kO 33 (.bin .sub 3 (.t 32) (kI 1)), kM 3 33])
 (.seq (.reg [kO 10 (.mv (kI 0))])
 (.seq (.block 0 (.loop (.seq (.seq (.reg [kM 34 10, kM 35 3, kO 36 (.bin .lss 3 (.t 34) (.t 35))])
 (.cond (.t 36) (.skip)
 (.exit 0)))
 (.block 1 (.seq (.reg [kM 37 0, kM 38 1, kO 39 (.call (.fn 154) [.t 37, .t 38]), kM 11 39])
 (.seq (.seq (.reg [kM 40 11, kO 41 (.bin .lss 3 (.t 40) (kI 0))])
 (.cond (.t 41) (.exit 0)
 (.skip)))
 (.seq (.reg [kM 42 9, kM 43 10, kM 44 0, kM 45 11, kM 46 2, kO 47 (.bin .add 3 (.t 45) (.t 46)), kO 48 (.sli 9 (.t 44) none (some (.t 47)) none),
 kO 49 (.ia 80 (.t 42) (.t 43)), kN (.st 9 (.t 49) (.t 48))])
 (.seq (.reg [kM 50 0, kM 51 11, kM 52 1, kO 53 (.bi .len [9] [.t 52]), kO 54 (.bin .add 3 (.t 51) (.t 53)), kO 55 (.sli 9 (.t 50) (some (.t 54)) none none),
 kM 0 55])
 (.reg [kM 56 10, kO 57 (.bin .add 3 (.t 56) (kI 1)), kM 10 57])))))))))
 (.seq (.reg [kM 58 9, kM 59 10, kM 60 0, kO 61 (.ia 80 (.t 58) (.t 59)), kN (.st 9 (.t 61) (.t 60))])
 (.seq (.reg [kM 62 9, kM 63 10, kO 64 (.bin .add 3 (.t 63) (kI 1)), kO 65 (.sli 80 (.t 62) none (some (.t 64)) none), kM 8 65])
 (.ret)))))))))))
theorem b127 : Body Tryd.prog 127 66 [8] k127 := ⟨Enters.of Tryd.func127 (by kernel_rfl) (by kernel_rfl), _, _, Tryd.func127, rfl, by kernel_rfl, rfl, rfl⟩

/-- strings.ContainsFunc -/
def k128 : KC :=
 .seq (.reg [kO 4 (.mv (.b false))])
 (.seq (.reg [kM 5 0, kM 6 1, kO 7 (.call (.fn 155) [.t 5, .t 6]), kO 8 (.bin .geq 3 (.t 7) (kI 0)), kM 4 8])
 (.ret))
theorem b128 : Body Tryd.prog 128 9 [4] k128 := ⟨Enters.of Tryd.func128 (by kernel_rfl) (by kernel_rfl), _, _, Tryd.func128, rfl, by kernel_rfl, rfl, rfl⟩

/-- cartridge/path.other -/
def k129 : KC :=
 .seq (.reg [kO 2 (.mv (.b false))])
 (.seq (.reg [kM 3 0, kO 4 (.bin .lss 21 (.t 3) (.i .i32 97)), kM 5 4, kG 6 5 (.mv (.t 0)), kG 7 5 (.bin .gtr 21 (.t 6) (.i .i32 122)),
 kO 8 (.pk (.t 5) (.b true) (.t 7)), kM 9 8, kT 10 9 (.mv (.t 0)), kT 11 9 (.bin .lss 21 (.t 10) (.i .i32 48)), kT 12 9 (.mv (.t 11)),
 kG 13 12 (.mv (.t 0)), kG 14 12 (.bin .gtr 21 (.t 13) (.i .i32 57)), kT 15 9 (.pk (.t 12) (.b true) (.t 14)), kO 16 (.pk (.t 9) (.t 15) (.b false)),
 kM 17 16, kT 18 17 (.mv (.t 0)), kT 19 17 (.bin .neq 21 (.t 18) (.i .i32 46)), kO 20 (.pk (.t 17) (.t 19) (.b false)), kM 21 20,
 kT 22 21 (.mv (.t 0)), kT 23 21 (.bin .neq 21 (.t 22) (.i .i32 45)), kO 24 (.pk (.t 21) (.t 23) (.b false)), kM 25 24, kT 26 25 (.mv (.t 0)),
 kT 27 25 (.bin .neq 21 (.t 26) (.i .i32 95)), kO 28 (.pk (.t 25) (.t 27) (.b false)), kM 2 28])
 (.ret))
theorem b129 : Body Tryd.prog 129 29 [2] k129 := ⟨Enters.of Tryd.func129 (by kernel_rfl) (by kernel_rfl), _, _, Tryd.func129, rfl, by kernel_rfl, rfl, rfl⟩

/-- (*cartridge/code.Reader).take -/
def k146 : KC :=
 .seq (.reg [kO 4 (.mv (.ns))])
 (.seq (.seq (.reg [kM 6 0, kO 7 (.bin .eql 184 (.t 6) (.np)), kM 8 7, kG 9 8 (.mv (.t 0)), kG 10 8 (.nc (.t 9)), kG 11 8 (.fa 215 (.t 10) 1), kG 12 8 (.ld 4 (.t 11)),
 kO 13 (.pk (.t 8) (.b true) (.t 12))])
 (.cond (.t 13) (.seq (.reg [kO 4 (.mv (.ns))])
 (.ret))
 (.skip)))
 (.seq (.seq (.reg [kM 14 1, kM 15 0, kO 16 (.nc (.t 15)), kO 17 (.fa 215 (.t 16) 0), kO 18 (.ld 24 (.t 17)), kO 19 (.bi .len [24] [.t 18]),
 kO 20 (.bin .gtr 3 (.t 14) (.t 19))])
 (.cond (.t 20) (.seq (.reg [kM 21 0, kM 22 0, kO 23 (.nc (.t 21)), kO 24 (.fa 215 (.t 23) 0), kN (.st 24 (.t 24) (.ns)), kO 25 (.nc (.t 22)), kO 26 (.fa 215 (.t 25) 1),
 kN (.st 4 (.t 26) (.b true))])
 (.seq (.reg [kO 4 (.mv (.ns))])
 (.ret)))
 (.skip)))
 (.seq (.reg [kM 27 0, kO 28 (.nc (.t 27)), kO 29 (.fa 215 (.t 28) 0), kO 30 (.ld 24 (.t 29)), kM 31 1, kO 32 (.sli 24 (.t 30) none (some (.t 31)) none), kM 5 32])
 (.seq (.reg [kM 33 0, kM 34 0, kO 35 (.nc (.t 34)), kO 36 (.fa 215 (.t 35) 0), kO 37 (.ld 24 (.t 36)), kM 38 1, kO 39 (.sli 24 (.t 37) (some (.t 38)) none none),
 kO 40 (.nc (.t 33)), kO 41 (.fa 215 (.t 40) 0), kN (.st 24 (.t 41) (.t 39))])
 (.seq (.reg [kM 42 5, kM 4 42])
 (.ret))))))
theorem b146 : Body Tryd.prog 146 43 [4] k146 := ⟨Enters.of Tryd.func146 (by kernel_rfl) (by kernel_rfl), _, _, Tryd.func146, rfl, by kernel_rfl, rfl, rfl⟩

/-- strings.Count -/
def k153 : KC :=
 .seq (.reg [kO 4 (.mv (kI 0))])
 (.seq (.seq (.reg [kM 7 1, kO 8 (.bi .len [9] [.t 7]), kO 9 (.bin .eql 3 (.t 8) (kI 0))])
 (.cond (.t 9) (.seq (.reg [kM 10 0, kO 11 (.call (.fn 165) [.t 10]), kO 12 (.bin .add 3 (.t 11) (kI 1)), kM 4 12])
 (.ret))
 (.skip)))
 (.seq (.seq (.reg [kM 13 1, kO 14 (.bi .len [9] [.t 13]), kO 15 (.bin .eql 3 (.t 14) (kI 1))])
 (.cond (.t 15) (.seq (.reg [kM 16 0, kM 17 1, kO 18 (.ix 9 (.t 17) (kI 0)), kO 19 (.call (.fn 167) [.t 16, .t 18]), kM 4 19])
 (.ret))
 (.skip)))
 (.seq (.reg [kO 5 (.mv (kI 0))])
 (.block 0 (.loop (.block 1 (.seq (.reg [kM 20 0, kM 21 1, kO 22 (.call (.fn 154) [.t 20, .t 21]), kM 6 22])
 (.seq (.seq (.reg [kM 23 6, kO 24 (.bin .eql 3 (.t 23) (kI (-1)))])
 (.cond (.t 24) (.seq (.reg [kM 25 5, kM 4 25])
 (.ret))
 (.skip)))
 (.seq (.reg [kM 26 5, kO 27 (.bin .add 3 (.t 26) (kI 1)), kM 5 27])
 (.reg [kM 28 0, kM 29 6, kM 30 1, kO 31 (.bi .len [9] [.t 30]), kO 32 (.bin .add 3 (.t 29) (.t 31)), kO 33 (.sli 9 (.t 28) (some (.t 32)) none none), kM 0 33]))))))))))
theorem b153 : Body Tryd.prog 153 34 [4] k153 := ⟨Enters.of Tryd.func153 (by kernel_rfl) (by kernel_rfl), _, _, Tryd.func153, rfl, by kernel_rfl, rfl, rfl⟩

/-- strings.Index -/
def k154 : KC :=
 .seq (.reg [kO 4 (.mv (kI 0))])
 (.seq (.reg [kM 5 0, kM 6 1, kO 7 (.call (.fn 168) [.t 5, .t 6]), kM 4 7])
 (.ret))
theorem b154 : Body Tryd.prog 154 8 [4] k154 := ⟨Enters.of Tryd.func154 (by kernel_rfl) (by kernel_rfl), _, _, Tryd.func154, rfl, by kernel_rfl, rfl, rfl⟩

/-- strings.IndexFunc -/
def k155 : KC :=
 .seq (.reg [kO 4 (.mv (kI 0))])
 (.seq (.reg [kM 5 0, kM 6 1, kO 7 (.call (.fn 169) [.t 5, .t 6, .b true]), kM 4 7])
 (.ret))
theorem b155 : Body Tryd.prog 155 8 [4] k155 := ⟨Enters.of Tryd.func155 (by kernel_rfl) (by kernel_rfl), _, _, Tryd.func155, rfl, by kernel_rfl, rfl, rfl⟩

/-- internal/stringslite.Index -/
def k168 : KC :=
 .seq (.reg [kO 4 (.mv (kI 0))])
 (.seq (.reg [kM 14 1, kO 15 (.bi .len [9] [.t 14]), kM 5 15])
 (.seq (.block 0 (.seq (.reg [kM 17 5, kO 18 (.bin .eql 3 (.t 17) (kI 0)), kM 19 18, kG 20 19 (.mv (.t 1)), kG 21 19 (.mv (.t 0)), kG 22 19 (.bin .eql 9 (.t 20) (.t 21)),
 kO 23 (.pk (.t 19) (.b true) (.t 22)), kM 16 23])
 (.cond (.t 16) (.seq (.reg [kO 4 (.mv (kI 0))])
 (.ret))
 (.seq (.reg [kM 25 5, kO 26 (.bin .eql 3 (.t 25) (kI 1)), kM 24 26])
 (.cond (.t 24) (.seq (.reg [kM 27 0, kM 28 1, kO 29 (.ix 9 (.t 28) (kI 0)), kO 30 (.call (.fn 173) [.t 27, .t 29]), kM 4 30])
 (.ret))
 (.seq (.reg [kM 32 5, kM 33 0, kO 34 (.bi .len [9] [.t 33]), kO 35 (.bin .geq 3 (.t 32) (.t 34)), kM 31 35])
 (.cond (.t 31) (.seq (.reg [kO 4 (.mv (kI (-1)))])
 (.ret))
 (.seq (.reg [kM 37 5, kO 38 (.ld 3 (.gl 0)), kO 39 (.bin .leq 3 (.t 37) (.t 38)), kM 40 39, kT 41 40 (.mv (.t 0)), kT 42 40 (.bi .len [9] [.t 41]),
 kT 43 40 (.bin .leq 3 (.t 42) (kI 64)), kO 44 (.pk (.t 40) (.t 43) (.b false)), kM 36 44])
 (.cond (.t 36) (.seq (.reg [kM 45 0, kM 46 1, kO 47 (.call (.fn 174) [.t 45, .t 46]), kM 4 47])
 (.ret))
 (.skip))))))))))
 (.seq (.reg [kM 48 1, kO 49 (.ix 9 (.t 48) (kI 0)), kM 6 49])
 (.seq (.reg [kM 50 1, kO 51 (.ix 9 (.t 50) (kI 1)), kM 7 51])
 (.seq (.reg [kO 8 (.mv (kI 0))])
 (.seq (.reg [kM 52 0, kO 53 (.bi .len [9] [.t 52]), kM 54 5, kO 55 (.bin .sub 3 (.t 53) (.t 54)), kO 56 (.bin .add 3 (.t 55) (kI 1)), kM 9 56])
 (.seq (.reg [kO 10 (.mv (kI 0))])
 (.seq (.block 1 (.loop (.seq (.seq (.reg [kM 57 8, kM 58 9, kO 59 (.bin .lss 3 (.t 57) (.t 58))])
 (.cond (.t 59) (.skip)
 (.exit 1)))
 (.block 2 (.seq (.seq (.reg [kM 60 0, kM 61 8, kO 62 (.ix 9 (.t 60) (.t 61)), kM 63 6, kO 64 (.bin .neq 5 (.t 62) (.t 63))])
 (.cond (.t 64) (.seq (.reg [kM 65 0, kM 66 8, kO 67 (.bin .add 3 (.t 66) (kI 1)), kM 68 9, kO 69 (.sli 9 (.t 65) (some (.t 67)) (some (.t 68)) none), kM 70 6,
 kO 71 (.call (.fn 173) [.t 69, .t 70]), kM 11 71])
 (.seq (.seq (.reg [kM 72 11, kO 73 (.bin .lss 3 (.t 72) (kI 0))])
 (.cond (.t 73) (.seq (.reg [kO 4 (.mv (kI (-1)))])
 (.ret))
 (.skip)))
 (.reg [kM 74 8, kM 75 11, kO 76 (.bin .add 3 (.t 75) (kI 1)), kO 77 (.bin .add 3 (.t 74) (.t 76)), kM 8 77])))
 (.skip)))
 (.seq (.seq (.reg [kM 78 0, kM 79 8, kO 80 (.bin .add 3 (.t 79) (kI 1)), kO 81 (.ix 9 (.t 78) (.t 80)), kM 82 7, kO 83 (.bin .eql 5 (.t 81) (.t 82)), kM 84 83,
 kT 85 84 (.mv (.t 0)), kT 86 84 (.mv (.t 8)), kT 87 84 (.mv (.t 8)), kT 88 84 (.mv (.t 5)), kT 89 84 (.bin .add 3 (.t 87) (.t 88)),
 kT 90 84 (.sli 9 (.t 85) (some (.t 86)) (some (.t 89)) none), kT 91 84 (.mv (.t 1)), kT 92 84 (.bin .eql 9 (.t 90) (.t 91)),
 kO 93 (.pk (.t 84) (.t 92) (.b false))])
 (.cond (.t 93) (.seq (.reg [kM 94 8, kM 4 94])
 (.ret))
 (.skip)))
 (.seq (.reg [kM 95 8, kO 96 (.bin .add 3 (.t 95) (kI 1)), kM 8 96])
 (.seq (.reg [kM 97 10, kO 98 (.bin .add 3 (.t 97) (kI 1)), kM 10 98])
 (.seq (.reg [kM 99 5, kO 100 (.ld 3 (.gl 0)), kO 101 (.bin .leq 3 (.t 99) (.t 100)), kM 102 101, kT 103 102 (.mv (.t 10)), kT 104 102 (.mv (.t 8)),
 kT 105 102 (.call (.fn 175) [.t 104]), kT 106 102 (.bin .gtr 3 (.t 103) (.t 105)), kO 107 (.pk (.t 102) (.t 106) (.b false))])
 (.cond (.t 107) (.seq (.reg [kM 108 0, kM 109 8, kO 110 (.sli 9 (.t 108) (some (.t 109)) none none), kM 111 1, kO 112 (.call (.fn 174) [.t 110, .t 111]), kM 12 112])
 (.seq (.seq (.reg [kM 113 12, kO 114 (.bin .geq 3 (.t 113) (kI 0))])
 (.cond (.t 114) (.seq (.reg [kM 115 12, kM 116 8, kO 117 (.bin .add 3 (.t 115) (.t 116)), kM 4 117])
 (.ret))
 (.skip)))
 (.seq (.reg [kO 4 (.mv (kI (-1)))])
 (.ret))))
 (.seq (.reg [kM 118 5, kO 119 (.ld 3 (.gl 0)), kO 120 (.bin .gtr 3 (.t 118) (.t 119)), kM 121 120, kT 122 121 (.mv (.t 10)), kT 123 121 (.mv (.t 8)),
 kT 124 121 (.bin .shr 3 (.t 123) (.i .u64 4)), kT 125 121 (.bin .add 3 (kI 4) (.t 124)), kT 126 121 (.bin .geq 3 (.t 122) (.t 125)),
 kO 127 (.pk (.t 121) (.t 126) (.b false)), kM 128 127, kT 129 128 (.mv (.t 8)), kT 130 128 (.mv (.t 9)), kT 131 128 (.bin .lss 3 (.t 129) (.t 130)),
 kO 132 (.pk (.t 128) (.t 131) (.b false))])
 (.cond (.t 132) (.seq (.reg [kM 133 0, kM 134 8, kO 135 (.sli 9 (.t 133) (some (.t 134)) none none), kM 136 1, kO 137 (.call (.fn 176) [.t 135, .t 136]), kM 13 137])
 (.seq (.seq (.reg [kM 138 13, kO 139 (.bin .lss 3 (.t 138) (kI 0))])
 (.cond (.t 139) (.seq (.reg [kO 4 (.mv (kI (-1)))])
 (.ret))
 (.skip)))
 (.seq (.reg [kM 140 8, kM 141 13, kO 142 (.bin .add 3 (.t 140) (.t 141)), kM 4 142])
 (.ret))))
 (.skip)))))))))))))
 (.seq (.reg [kO 4 (.mv (kI (-1)))])
 (.ret))))))))))
theorem b168 : Body Tryd.prog 168 143 [4] k168 := ⟨Enters.of Tryd.func168 (by kernel_rfl) (by kernel_rfl), _, _, Tryd.func168, rfl, by kernel_rfl, rfl, rfl⟩

/-- strings.indexFunc -/
def k169 : KC :=
 .seq (.reg [kO 6 (.mv (kI 0))])
 (.seq (.seq (.reg [kM 9 0, kO 10 (.unk)])
 (.block 0 (.loop (.seq (.reg [kO 11 (.unk), kO 12 (.ex (.t 11) 0)])
 (.seq (.cond (.t 12) (.skip)
 (.exit 0))
 (.block 1 (.seq (.reg [kO 13 (.ex (.t 11) 1), kO 14 (.ex (.t 11) 2), kM 7 13, kM 8 14])
 (.seq (.reg [kM 15 1, kM 16 8, kO 17 (.call (.t 15) [.t 16]), kM 18 2, kO 19 (.bin .eql 4 (.t 17) (.t 18))])
 (.cond (.t 19) (.seq (.reg [kM 20 7, kM 6 20])
 (.ret))
 (.skip))))))))))
 (.seq (.reg [kO 6 (.mv (kI (-1)))])
 (.ret)))
theorem b169 : Body Tryd.prog 169 21 [6] k169 := ⟨Enters.of Tryd.func169 (by kernel_rfl) (by kernel_rfl), _, _, Tryd.func169, rfl, by kernel_rfl, rfl, rfl⟩

/-- internal/stringslite.IndexByte -/
def k173 : KC :=
 .seq (.reg [kO 4 (.mv (kI 0))])
 (.seq (.reg [kM 5 0, kM 6 1, kO 7 (.call (.fn 177) [.t 5, .t 6]), kM 4 7])
 (.ret))
theorem b173 : Body Tryd.prog 173 8 [4] k173 := ⟨Enters.of Tryd.func173 (by kernel_rfl) (by kernel_rfl), _, _, Tryd.func173, rfl, by kernel_rfl, rfl, rfl⟩

end Go.Proofs.YtliahlgkinhjlaaDoor
