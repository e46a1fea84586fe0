import Derived.Test.YtliahlgkinhjlaaDoorAmT
/- The code, cooked, and tied to the program's; written by gen.py. -/
namespace Go.Proofs.YtliahlgkinhjlaaDoor
open Go.AM

/-- cartridge/cartridgelaw20.WriteRooms -/
def k6 : KC :=
 .seq (.reg [kO 6 (.mv (.b false))])
 (.seq (.reg [kO 15 (.call (.fn 24) []), kM 7 15])
 (.seq (.seq (.reg [kM 16 7, kO 17 (.un .not (.t 16)), kM 18 17, kG 19 18 (.mv (.t 0)), kG 20 18 (.bin .lss 3 (.t 19) (kI 0)), kO 21 (.pk (.t 18) (.b true) (.t 20)),
 kM 22 21, kG 23 22 (.mv (.t 0)), kG 24 22 (.bin .gtr 3 (.t 23) (kI 30)), kO 25 (.pk (.t 22) (.b true) (.t 24)), kM 26 25, kG 27 26 (.mv (.t 1)),
 kG 28 26 (.bin .lss 3 (.t 27) (kI 0)), kO 29 (.pk (.t 26) (.b true) (.t 28)), kM 30 29, kG 31 30 (.mv (.t 1)), kG 32 30 (.mv (.t 0)),
 kG 33 30 (.bin .gtr 3 (.t 31) (.t 32)), kO 34 (.pk (.t 30) (.b true) (.t 33)), kM 35 34, kG 36 35 (.mv (.t 2)),
 kG 37 35 (.bin .lss 3 (.t 36) (kI 0)), kO 38 (.pk (.t 35) (.b true) (.t 37)), kM 39 38, kG 40 39 (.mv (.t 2)), kG 41 39 (.bin .gtr 3 (.t 40) (kI 3)),
 kO 42 (.pk (.t 39) (.b true) (.t 41))])
 (.cond (.t 42) (.seq (.reg [kM 43 7, kM 6 43])
 (.ret))
 (.skip)))
 (.seq (.reg [kM 44 0, kO 45 (.bld 38 [(0, .i .i64 3), (1, .t 44)]), kO 8 (.al 38), kN (.st 38 (.t 8) (.t 45))])
 (.seq (.seq (.reg [kO 9 (.mv (kI 0))])
 (.block 0 (.loop (.seq (.seq (.reg [kM 46 9, kM 47 1, kO 48 (.bin .lss 3 (.t 46) (.t 47))])
 (.cond (.t 48) (.skip)
 (.exit 0)))
 (.seq (.block 1 (.seq (.reg [kM 52 9, kO 53 (.bld 42 [(0, .i .i64 4), (1, .i .i64 3), (2, .t 52)]), kO 54 (.call (.fn 19) [.t 53]), kM 51 54, kO 55 (.ex (.t 51) 0),
 kO 56 (.ex (.t 51) 1), kM 10 55, kM 11 56])
 (.reg [kO 57 (.fa 38 (.t 8) 2), kO 58 (.ld 26 (.t 57)), kM 59 10, kO 60 (.bsl 26 1 [(0, .t 59)]), kO 61 (.bi .append [26, 26] [.t 58, .t 60]),
 kO 62 (.fa 38 (.t 8) 2), kN (.st 26 (.t 62) (.t 61))])))
 (.reg [kM 49 9, kO 50 (.bin .add 3 (.t 49) (kI 1)), kM 9 50]))))))
 (.seq (.reg [kM 63 0, kM 64 1, kO 65 (.bin .sub 3 (.t 63) (.t 64)), kM 12 65])
 (.seq (.seq (.reg [kM 66 1, kO 67 (.bin .eql 3 (.t 66) (kI 0)), kM 68 67, kT 69 68 (.mv (.t 12)), kT 70 68 (.bin .gtr 3 (.t 69) (kI 0)),
 kO 71 (.pk (.t 68) (.t 70) (.b false))])
 (.cond (.t 71) (.reg [kM 72 12, kO 73 (.bin .sub 3 (.t 72) (kI 1)), kM 12 73])
 (.skip)))
 (.seq (.reg [kO 13 (.mv (.ns))])
 (.seq (.seq (.reg [kM 74 2])
 (.block 2 (.seq (.reg [kO 76 (.bin .eql 3 (.t 74) (kI 1)), kM 75 76])
 (.cond (.t 75) (.seq (.reg [kO 77 (.fa 38 (.t 8) 3), kN (.st 4 (.t 77) (.b true))])
 (.reg [kO 12 (.mv (kI 0))]))
 (.seq (.reg [kO 79 (.bin .eql 3 (.t 74) (kI 2)), kM 78 79])
 (.cond (.t 78) (.seq (.reg [kO 80 (.bsl 36 2 [(0, .i .i64 3), (1, .i .i64 4)]), kO 81 (.bld 55 [(0, .i .i64 1), (2, .i .i64 1), (3, .i .i64 1), (4, .t 80)]),
 kO 82 (.bsl 53 1 [(0, .t 81)]), kM 13 82])
 (.reg [kO 12 (.mv (kI 0))]))
 (.seq (.reg [kO 84 (.bin .eql 3 (.t 74) (kI 3)), kM 83 84])
 (.cond (.t 83) (.seq (.reg [kM 85 1, kO 86 (.bin .gtr 3 (.t 85) (kI 0))])
 (.cond (.t 86) (.seq (.reg [kO 87 (.fa 38 (.t 8) 2), kO 88 (.ld 26 (.t 87)), kM 89 1, kO 90 (.bin .sub 3 (.t 89) (kI 1)), kO 91 (.ia 26 (.t 88) (.t 90)), kO 92 (.ld 24 (.t 91)),
 kO 93 (.ia 24 (.t 92) (kI 7)), kN (.st 5 (.t 93) (.i .u8 5))])
 (.reg [kO 12 (.mv (kI 0))]))
 (.skip)))
 (.skip)))))))))
 (.seq (.reg [kO 94 (.ld 38 (.t 8)), kO 95 (.bsl 57 1 [(0, .t 94)]), kM 96 13, kO 97 (.call (.fn 25) [.t 95, .t 96]), kM 14 97])
 (.seq (.reg [kM 98 14, kO 99 (.bi .len [36] [.t 98]), kO 100 (.bin .eql 3 (.t 99) (kI 1)), kM 101 100, kT 102 101 (.mv (.t 14)),
 kT 103 101 (.ia 36 (.t 102) (kI 0)), kT 104 101 (.ld 3 (.t 103)), kT 105 101 (.mv (.t 12)), kT 106 101 (.bin .eql 3 (.t 104) (.t 105)),
 kO 107 (.pk (.t 101) (.t 106) (.b false)), kM 6 107])
 (.ret)))))))))))
theorem b6 : Body Tryd.prog 6 108 [6] k6 := ⟨Enters.of Tryd.func6 (by kernel_rfl) (by kernel_rfl), _, _, Tryd.func6, rfl, by kernel_rfl, rfl, rfl⟩

/-- cartridge/volume.Blocks -/
def k13 : KC :=
 .seq (.reg [kO 6 (.box 23 (.t 2)), kO 8 (.mv (.ns)), kO 9 (.mv (kI 0))])
 (.seq (.seq (.reg [kO 16 (.ld 23 (.t 6)), kO 17 (.call (.fn 41) [.t 16]), kO 18 (.un .not (.t 17)), kM 19 18, kG 20 19 (.mv (.t 3)), kG 21 19 (.bi .len [24] [.t 20]),
 kG 22 19 (.fa 23 (.t 6) 4), kG 23 19 (.ld 3 (.t 22)), kG 24 19 (.bin .neq 3 (.t 21) (.t 23)), kO 25 (.pk (.t 19) (.b true) (.t 24))])
 (.cond (.t 25) (.seq (.reg [kO 8 (.mv (.ns)), kO 9 (.mv (kI 1))])
 (.ret))
 (.skip)))
 (.seq (.reg [kO 26 (.ld 23 (.t 6)), kO 27 (.call (.fn 42) [.t 26]), kO 28 (.bld 42 [(0, .i .i64 2), (3, .t 27)]), kO 29 (.bsl 97 1 [(0, .t 28)]), kM 10 29])
 (.seq (.block 0 (.loop (.seq (.seq (.reg [kM 30 3, kO 31 (.bi .len [24] [.t 30]), kO 32 (.bin .gtr 3 (.t 31) (kI 0))])
 (.cond (.t 32) (.skip)
 (.exit 0)))
 (.seq (.block 1 (.reg [kM 38 10, kM 39 3, kM 40 3, kO 41 (.bi .len [24] [.t 40]), kO 42 (.bi .min [3, 3] [.t 41, .i .i64 64]),
 kO 43 (.sli 24 (.t 39) none (some (.t 42)) none), kO 44 (.bld 42 [(0, .i .i64 3), (3, .t 43)]), kO 45 (.bsl 97 1 [(0, .t 44)]),
 kO 46 (.bi .append [97, 97] [.t 38, .t 45]), kM 10 46]))
 (.reg [kM 33 3, kM 34 3, kO 35 (.bi .len [24] [.t 34]), kO 36 (.bi .min [3, 3] [.t 35, .i .i64 64]), kO 37 (.sli 24 (.t 33) (some (.t 36)) none none),
 kM 3 37])))))
 (.seq (.reg [kM 47 10, kO 48 (.bld 42 [(0, .i .i64 4)]), kO 49 (.bsl 97 1 [(0, .t 48)]), kO 50 (.bi .append [97, 97] [.t 47, .t 49]), kM 10 50])
 (.seq (.reg [kO 11 (.mv (.ns))])
 (.seq (.seq (.reg [kM 51 10, kO 52 (.bi .len [97] [.t 51]), kO 53 (.mv (kI 0))])
 (.block 2 (.loop (.seq (.reg [kO 54 (.bin .lss 3 (.t 53) (.t 52))])
 (.seq (.cond (.t 54) (.skip)
 (.exit 2))
 (.seq (.block 3 (.seq (.reg [kM 55 53, kO 56 (.ia 97 (.t 51) (.t 53)), kO 57 (.ld 42 (.t 56)), kO 13 (.al 42), kM 12 55, kN (.st 42 (.t 13) (.t 57))])
 (.seq (.reg [kM 58 0, kM 59 1, kM 60 12, kO 61 (.bin .add 3 (.t 59) (.t 60)), kO 62 (.fa 42 (.t 13) 1), kN (.st 3 (.t 62) (.t 58)), kO 63 (.fa 42 (.t 13) 2),
 kN (.st 3 (.t 63) (.t 61))])
 (.seq (.reg [kO 65 (.ld 42 (.t 13)), kO 66 (.call (.fn 43) [.t 65]), kM 64 66, kO 67 (.ex (.t 64) 0), kO 68 (.ex (.t 64) 1), kM 14 67, kM 15 68])
 (.seq (.seq (.reg [kM 69 15, kO 70 (.bin .neq 27 (.t 69) (kI 0))])
 (.cond (.t 70) (.seq (.reg [kM 71 15, kO 8 (.mv (.ns)), kM 9 71])
 (.ret))
 (.skip)))
 (.reg [kM 72 11, kM 73 14, kO 74 (.bsl 26 1 [(0, .t 73)]), kO 75 (.bi .append [26, 26] [.t 72, .t 74]), kM 11 75]))))))
 (.reg [kO 76 (.bin .add 3 (.t 53) (kI 1)), kM 53 76])))))))
 (.seq (.reg [kM 77 11, kM 8 77, kO 9 (.mv (kI 0))])
 (.ret))))))))
theorem b13 : Body Tryd.prog 13 78 [8, 9] k13 := ⟨Enters.of Tryd.func13 (by kernel_rfl) (by kernel_rfl), _, _, Tryd.func13, rfl, by kernel_rfl, rfl, rfl⟩

/-- cartridge/cartridgeref1.PutFrame -/
noncomputable def drw19_0 : Array Oper := ((Tryd.f19.body.map regs).getD []).getD 0 #[]
noncomputable def drw19_1 : Array Oper := ((Tryd.f19.body.map regs).getD []).getD 1 #[]
noncomputable def drw19_2 : Array Oper := ((Tryd.f19.body.map regs).getD []).getD 2 #[]
noncomputable def k19 : KC :=
 .seq (.reg [kO 1 (.box 42 (.t 0)), kO 2 (.mv (.ns)), kO 3 (.mv (kI 0))])
 (.seq (.reg [kO 4 (.mv (kI 64))])
 (.seq (.seq (.reg [kO 6 (.fa 42 (.t 1) 0), kO 7 (.ld 3 (.t 6)), kO 8 (.bin .eql 3 (.t 7) (kI 6))])
 (.cond (.t 8) (.reg [kO 4 (.mv (kI 79))])
 (.skip)))
 (.seq (.block 0 (.seq (.reg [kO 10 (.fa 42 (.t 1) 0), kO 11 (.ld 3 (.t 10)), kO 12 (.bin .lss 3 (.t 11) (kI 1)), kM 13 12, kG 14 13 (.fa 42 (.t 1) 0), kG 15 13 (.ld 3 (.t 14)),
 kG 16 13 (.bin .gtr 3 (.t 15) (kI 6)), kO 17 (.pk (.t 13) (.b true) (.t 16)), kM 18 17, kG 19 18 (.fa 42 (.t 1) 1), kG 20 18 (.ld 3 (.t 19)),
 kG 21 18 (.bin .lss 3 (.t 20) (kI 1)), kO 22 (.pk (.t 18) (.b true) (.t 21)), kM 23 22, kG 24 23 (.fa 42 (.t 1) 1), kG 25 23 (.ld 3 (.t 24)),
 kG 26 23 (.bin .gtr 3 (.t 25) (kI 2147483647)), kO 27 (.pk (.t 23) (.b true) (.t 26)), kM 28 27, kG 29 28 (.fa 42 (.t 1) 2),
 kG 30 28 (.ld 3 (.t 29)), kG 31 28 (.bin .lss 3 (.t 30) (kI 0)), kO 32 (.pk (.t 28) (.b true) (.t 31)), kM 33 32, kG 34 33 (.fa 42 (.t 1) 2),
 kG 35 33 (.ld 3 (.t 34)), kG 36 33 (.bin .gtr 3 (.t 35) (kI 2147483647)), kO 37 (.pk (.t 33) (.b true) (.t 36)), kM 9 37])
 (.cond (.t 9) (.seq (.reg [kO 2 (.mv (.ns)), kO 3 (.mv (kI 1))])
 (.ret))
 (.seq (.reg [kO 39 (.fa 42 (.t 1) 3), kO 40 (.ld 24 (.t 39)), kO 41 (.bi .len [24] [.t 40]), kM 42 4, kO 43 (.bin .gtr 3 (.t 41) (.t 42)), kM 38 43])
 (.cond (.t 38) (.seq (.reg [kO 2 (.mv (.ns)), kO 3 (.mv (kI 4))])
 (.ret))
 (.skip))))))
 (.seq (.reg [kO 44 (.bld 102 []), kO 45 (.box 102 (.t 44)), kM 5 45])
 (.seq (.reg [kM 46 5, kO 47 (.fa 42 (.t 1) 0), kO 48 (.ld 3 (.t 47)), kO 49 (.cvt 3 5 (.t 48)), kO 50 (.call (.fn 49) [.t 46, .t 49])])
 (.seq (.reg [kM 51 5, kO 52 (.fa 42 (.t 1) 1), kO 53 (.ld 3 (.t 52)), kO 54 (.call (.fn 50) [.t 51, .t 53])])
 (.seq (.reg [kM 55 5, kO 56 (.fa 42 (.t 1) 2), kO 57 (.ld 3 (.t 56)), kO 58 (.call (.fn 50) [.t 55, .t 57])])
 (.seq (.drw drw19_0 [kM 59 5, kM 60 5, kO 61 (.nc (.t 60)), kO 62 (.fa 102 (.t 61) 0), kO 63 (.ld 24 (.t 62)), kO 64 (.fa 42 (.t 1) 3), kO 65 (.ld 24 (.t 64)),
 kO 66 (.bi .len [24] [.t 65]), kO 67 (.bin .shr 3 (.t 66) (.i .u64 8)), kO 68 (.cvt 3 5 (.t 67)), kO 69 (.fa 42 (.t 1) 3), kO 70 (.ld 24 (.t 69)),
 kO 71 (.bi .len [24] [.t 70]), kO 72 (.bin .and 3 (.t 71) (kI 255)), kO 73 (.cvt 3 5 (.t 72)), kO 74 (.bsl 24 2 [(0, .t 68), (1, .t 73)]),
 kO 75 (.bi .append [24, 24] [.t 63, .t 74]), kO 76 (.nc (.t 59)), kO 77 (.fa 102 (.t 76) 0), kN (.st 24 (.t 77) (.t 75))])
 (.seq (.drw drw19_1 [kM 78 5, kM 79 5, kO 80 (.nc (.t 79)), kO 81 (.fa 102 (.t 80) 0), kO 82 (.ld 24 (.t 81)), kO 83 (.fa 42 (.t 1) 3), kO 84 (.ld 24 (.t 83)),
 kO 85 (.bi .append [24, 24] [.t 82, .t 84]), kO 86 (.nc (.t 78)), kO 87 (.fa 102 (.t 86) 0), kN (.st 24 (.t 87) (.t 85))])
 (.seq (.drw drw19_2 [kM 88 5, kM 89 5, kO 90 (.nc (.t 89)), kO 91 (.fa 102 (.t 90) 0), kO 92 (.ld 24 (.t 91)), kM 93 4, kO 94 (.fa 42 (.t 1) 3), kO 95 (.ld 24 (.t 94)),
 kO 96 (.bi .len [24] [.t 95]), kO 97 (.bin .sub 3 (.t 93) (.t 96)), kO 98 (.bi .append [24, 3] [.t 92, .t 97]), kO 99 (.nc (.t 88)),
 kO 100 (.fa 102 (.t 99) 0), kN (.st 24 (.t 100) (.t 98))])
 (.seq (.reg [kM 101 5, kM 102 5, kO 103 (.nc (.t 102)), kO 104 (.fa 102 (.t 103) 0), kO 105 (.ld 24 (.t 104)), kO 106 (.call (.fn 51) [.t 105]),
 kO 107 (.cvt 106 3 (.t 106)), kO 108 (.call (.fn 50) [.t 101, .t 107])])
 (.seq (.reg [kM 109 5, kO 110 (.nc (.t 109)), kO 111 (.fa 102 (.t 110) 0), kO 112 (.ld 24 (.t 111)), kM 2 112, kO 3 (.mv (kI 0))])
 (.ret)))))))))))))
theorem b19 : Body Tryd.prog 19 113 [2, 3] k19 := ⟨Enters.of Tryd.func19 (by kernel_rfl) (by kernel_rfl), _, _, Tryd.func19, rfl, by kernel_rfl, rfl, rfl⟩

/-- cartridge/cartridgelaw20.alive -/
def k24 : KC :=
 .seq (.reg [kO 0 (.mv (.b false))])
 (.seq (.reg [kO 6 (.bld 38 [(0, .i .i64 1), (1, .i .i64 9)]), kO 7 (.bsl 57 1 [(0, .t 6)]), kM 1 7])
 (.seq (.reg [kM 9 1, kO 10 (.bld 23 [(0, .s ⟨#[97]⟩), (1, .i .i64 1), (5, .i .i64 1), (2, .i .i64 1)]), kO 11 (.bsl 24 1 [(0, .i .u8 120)]),
 kO 12 (.cvt 24 24 (.t 11)), kO 13 (.call (.fn 60) [.t 9, .ns, .t 10, .t 12]), kM 8 13, kO 14 (.ex (.t 8) 0), kO 15 (.ex (.t 8) 1), kM 2 14, kM 3 15])
 (.seq (.reg [kM 17 1, kM 18 2, kO 19 (.call (.fn 61) [.t 17, .t 18, .i .i64 (-1), .i .i64 0]), kM 16 19, kO 20 (.ex (.t 16) 0), kO 21 (.ex (.t 16) 1), kM 4 20,
 kM 5 21])
 (.seq (.reg [kO 22 (.call (.fn 25) [.ns, .ns]), kO 23 (.bi .len [36] [.t 22]), kO 24 (.bin .eql 3 (.t 23) (kI 0)), kM 25 24, kT 26 25 (.mv (.t 3)),
 kT 27 25 (.call (.fn 62) [.t 26]), kT 28 25 (.bin .eql 3 (.t 27) (kI 0)), kO 29 (.pk (.t 25) (.t 28) (.b false)), kM 30 29, kT 31 30 (.mv (.t 2)),
 kT 32 30 (.bi .len [117] [.t 31]), kT 33 30 (.bin .eql 3 (.t 32) (kI 4)), kO 34 (.pk (.t 30) (.t 33) (.b false)), kM 35 34, kT 36 35 (.mv (.t 4)),
 kT 37 35 (.bi .len [57] [.t 36]), kT 38 35 (.bin .eql 3 (.t 37) (kI 1)), kO 39 (.pk (.t 35) (.t 38) (.b false)), kM 40 39, kT 41 40 (.mv (.t 4)),
 kT 42 40 (.ia 57 (.t 41) (kI 0)), kT 43 40 (.fa 38 (.t 42) 2), kT 44 40 (.ld 26 (.t 43)), kT 45 40 (.bi .len [26] [.t 44]),
 kT 46 40 (.bin .eql 3 (.t 45) (kI 4)), kO 47 (.pk (.t 40) (.t 46) (.b false)), kM 48 47, kT 49 48 (.mv (.t 5)), kT 50 48 (.un .not (.t 49)),
 kO 51 (.pk (.t 48) (.t 50) (.b false)), kM 0 51])
 (.ret)))))
theorem b24 : Body Tryd.prog 24 52 [0] k24 := ⟨Enters.of Tryd.func24 (by kernel_rfl) (by kernel_rfl), _, _, Tryd.func24, rfl, by kernel_rfl, rfl, rfl⟩

/-- cartridge/write.Rooms -/
def k25 : KC :=
 .seq (.reg [kO 4 (.mv (.ns))])
 (.seq (.reg [kO 5 (.mv (.ns))])
 (.seq (.seq (.reg [kM 8 0, kO 9 (.bi .len [57] [.t 8]), kO 10 (.mv (kI 0))])
 (.block 0 (.loop (.seq (.reg [kO 11 (.bin .lss 3 (.t 10) (.t 9))])
 (.seq (.cond (.t 11) (.skip)
 (.exit 0))
 (.seq (.block 1 (.seq (.reg [kO 12 (.ia 57 (.t 8) (.t 10)), kO 13 (.ld 38 (.t 12)), kO 7 (.al 38), kN (.st 38 (.t 7) (.t 13))])
 (.reg [kM 14 5, kO 15 (.ld 38 (.t 7)), kM 16 1, kO 17 (.call (.fn 63) [.t 15, .t 16]), kO 18 (.bsl 36 1 [(0, .t 17)]),
 kO 19 (.bi .append [36, 36] [.t 14, .t 18]), kM 5 19])))
 (.reg [kO 20 (.bin .add 3 (.t 10) (kI 1)), kM 10 20])))))))
 (.seq (.reg [kM 21 5, kM 4 21])
 (.ret))))
theorem b25 : Body Tryd.prog 25 22 [4] k25 := ⟨Enters.of Tryd.func25 (by kernel_rfl) (by kernel_rfl), _, _, Tryd.func25, rfl, by kernel_rfl, rfl, rfl⟩

/-- cartridge/record.RightHead -/
def k41 : KC :=
 .seq (.reg [kO 1 (.box 23 (.t 0)), kO 2 (.mv (.b false))])
 (.seq (.seq (.reg [kO 3 (.fa 23 (.t 1) 0), kO 4 (.ld 9 (.t 3)), kO 5 (.call (.fn 64) [.t 4]), kO 6 (.un .not (.t 5)), kM 7 6, kG 8 7 (.fa 23 (.t 1) 1),
 kG 9 7 (.ld 3 (.t 8)), kG 10 7 (.call (.fn 80) [.t 9, .i .i64 1, .i .i64 1073741824]), kG 11 7 (.un .not (.t 10)),
 kO 12 (.pk (.t 7) (.b true) (.t 11)), kM 13 12, kG 14 13 (.fa 23 (.t 1) 5), kG 15 13 (.ld 3 (.t 14)),
 kG 16 13 (.call (.fn 80) [.t 15, .i .i64 1, .i .i64 1073741824]), kG 17 13 (.un .not (.t 16)), kO 18 (.pk (.t 13) (.b true) (.t 17)), kM 19 18,
 kG 20 19 (.fa 23 (.t 1) 2), kG 21 19 (.ld 3 (.t 20)), kG 22 19 (.call (.fn 80) [.t 21, .i .i64 0, .i .i64 4000]), kG 23 19 (.un .not (.t 22)),
 kO 24 (.pk (.t 19) (.b true) (.t 23)), kM 25 24, kG 26 25 (.fa 23 (.t 1) 6), kG 27 25 (.ld 3 (.t 26)),
 kG 28 25 (.call (.fn 80) [.t 27, .i .i64 0, .i .i64 4294967295]), kG 29 25 (.un .not (.t 28)), kO 30 (.pk (.t 25) (.b true) (.t 29))])
 (.cond (.t 30) (.seq (.reg [kO 2 (.mv (.b false))])
 (.ret))
 (.skip)))
 (.seq (.seq (.reg [kO 31 (.fa 23 (.t 1) 3), kO 32 (.ld 3 (.t 31)), kO 33 (.fa 23 (.t 1) 2), kO 34 (.ld 3 (.t 33)), kO 35 (.call (.fn 80) [.t 32, .i .i64 0, .t 34]),
 kO 36 (.un .not (.t 35)), kM 37 36, kG 38 37 (.fa 23 (.t 1) 4), kG 39 37 (.ld 3 (.t 38)), kG 40 37 (.fa 23 (.t 1) 2), kG 41 37 (.ld 3 (.t 40)),
 kG 42 37 (.fa 23 (.t 1) 3), kG 43 37 (.ld 3 (.t 42)), kG 44 37 (.bin .sub 3 (.t 41) (.t 43)), kG 45 37 (.call (.fn 80) [.t 39, .i .i64 0, .t 44]),
 kG 46 37 (.un .not (.t 45)), kO 47 (.pk (.t 37) (.b true) (.t 46)), kM 48 47, kG 49 48 (.fa 23 (.t 1) 4), kG 50 48 (.ld 3 (.t 49)),
 kG 51 48 (.bin .eql 3 (.t 50) (kI 0)), kG 52 48 (.mv (.t 51)), kT 53 52 (.fa 23 (.t 1) 2), kT 54 52 (.ld 3 (.t 53)),
 kT 55 52 (.bin .gtr 3 (.t 54) (kI 0)), kG 56 48 (.pk (.t 52) (.t 55) (.b false)), kO 57 (.pk (.t 48) (.b true) (.t 56))])
 (.cond (.t 57) (.seq (.reg [kO 2 (.mv (.b false))])
 (.ret))
 (.skip)))
 (.seq (.reg [kO 58 (.fa 23 (.t 1) 7), kO 59 (.ld 4 (.t 58)), kO 60 (.un .not (.t 59)), kM 61 60, kG 62 61 (.fa 23 (.t 1) 2), kG 63 61 (.ld 3 (.t 62)),
 kG 64 61 (.bin .eql 3 (.t 63) (kI 0)), kG 65 61 (.mv (.t 64)), kT 66 65 (.fa 23 (.t 1) 6), kT 67 65 (.ld 3 (.t 66)),
 kT 68 65 (.bin .eql 3 (.t 67) (kI 0)), kG 69 61 (.pk (.t 65) (.t 68) (.b false)), kO 70 (.pk (.t 61) (.b true) (.t 69)), kM 2 70])
 (.ret))))
theorem b41 : Body Tryd.prog 41 71 [2] k41 := ⟨Enters.of Tryd.func41 (by kernel_rfl) (by kernel_rfl), _, _, Tryd.func41, rfl, by kernel_rfl, rfl, rfl⟩

/-- cartridge/record.HeadBytes -/
def k42 : KC :=
 .seq (.reg [kO 1 (.box 23 (.t 0)), kO 2 (.mv (.ns))])
 (.seq (.seq (.reg [kO 7 (.ld 23 (.t 1)), kO 8 (.call (.fn 41) [.t 7]), kO 9 (.un .not (.t 8))])
 (.cond (.t 9) (.seq (.reg [kO 2 (.mv (.ns))])
 (.ret))
 (.skip)))
 (.seq (.reg [kO 10 (.bld 147 []), kO 11 (.box 147 (.t 10)), kM 3 11])
 (.seq (.reg [kM 12 3, kO 13 (.fa 23 (.t 1) 0), kO 14 (.ld 9 (.t 13)), kO 15 (.call (.fn 81) [.t 12, .t 14])])
 (.seq (.seq (.reg [kO 16 (.fa 23 (.t 1) 1), kO 17 (.ld 3 (.t 16)), kO 18 (.fa 23 (.t 1) 2), kO 19 (.ld 3 (.t 18)), kO 20 (.fa 23 (.t 1) 3), kO 21 (.ld 3 (.t 20)),
 kO 22 (.fa 23 (.t 1) 4), kO 23 (.ld 3 (.t 22)), kO 24 (.fa 23 (.t 1) 5), kO 25 (.ld 3 (.t 24)), kO 26 (.fa 23 (.t 1) 6), kO 27 (.ld 3 (.t 26)),
 kO 28 (.bsl 36 6 [(0, .t 17), (1, .t 19), (2, .t 21), (3, .t 23), (4, .t 25), (5, .t 27)]), kO 29 (.bi .len [36] [.t 28]), kO 30 (.mv (kI 0))])
 (.block 0 (.loop (.seq (.reg [kO 31 (.bin .lss 3 (.t 30) (.t 29))])
 (.seq (.cond (.t 31) (.skip)
 (.exit 0))
 (.seq (.block 1 (.seq (.reg [kO 32 (.ia 36 (.t 28) (.t 30)), kO 33 (.ld 3 (.t 32)), kM 5 33])
 (.reg [kM 34 3, kM 35 5, kO 36 (.call (.fn 82) [.t 34, .t 35])])))
 (.reg [kO 37 (.bin .add 3 (.t 30) (kI 1)), kM 30 37])))))))
 (.seq (.reg [kO 6 (.mv (.i .u8 0))])
 (.seq (.seq (.reg [kO 38 (.fa 23 (.t 1) 7), kO 39 (.ld 4 (.t 38))])
 (.cond (.t 39) (.reg [kO 6 (.mv (.i .u8 1))])
 (.skip)))
 (.seq (.reg [kM 40 3, kM 41 6, kO 42 (.call (.fn 83) [.t 40, .t 41])])
 (.seq (.reg [kM 43 3, kO 44 (.call (.fn 84) [.t 43]), kM 2 44])
 (.ret)))))))))
theorem b42 : Body Tryd.prog 42 45 [2] k42 := ⟨Enters.of Tryd.func42 (by kernel_rfl) (by kernel_rfl), _, _, Tryd.func42, rfl, by kernel_rfl, rfl, rfl⟩

/-- cartridge/frame.Put -/
def k43 : KC :=
 .seq (.reg [kO 1 (.box 42 (.t 0)), kO 2 (.mv (.ns)), kO 3 (.mv (kI 0))])
 (.seq (.seq (.reg [kO 5 (.ld 42 (.t 1)), kO 6 (.call (.fn 85) [.t 5]), kM 4 6])
 (.seq (.reg [kM 7 4, kO 8 (.bin .neq 27 (.t 7) (kI 0))])
 (.cond (.t 8) (.seq (.reg [kM 9 4, kO 2 (.mv (.ns)), kM 3 9])
 (.ret))
 (.skip))))
 (.seq (.reg [kO 10 (.ld 42 (.t 1)), kO 11 (.call (.fn 86) [.t 10]), kM 2 11, kO 3 (.mv (kI 0))])
 (.ret)))
theorem b43 : Body Tryd.prog 43 12 [2, 3] k43 := ⟨Enters.of Tryd.func43 (by kernel_rfl) (by kernel_rfl), _, _, Tryd.func43, rfl, by kernel_rfl, rfl, rfl⟩

/-- (*cartridge/cartridgeref1.Writer).Byte -/
def k49 : KC :=
 .reg [kM 4 0, kM 5 0, kO 6 (.nc (.t 5)), kO 7 (.fa 102 (.t 6) 0), kO 8 (.ld 24 (.t 7)), kM 9 1, kO 10 (.bsl 24 1 [(0, .t 9)]),
 kO 11 (.bi .append [24, 24] [.t 8, .t 10]), kO 12 (.nc (.t 4)), kO 13 (.fa 102 (.t 12) 0), kN (.st 24 (.t 13) (.t 11))]
theorem b49 : Body Tryd.prog 49 14 [] k49 := ⟨Enters.of Tryd.func49 (by kernel_rfl) (by kernel_rfl), _, _, Tryd.func49, rfl, by kernel_rfl, rfl, rfl⟩

/-- (*cartridge/cartridgeref1.Writer).Int -/
def k50 : KC :=
 .seq (.reg [kM 5 1, kO 6 (.cvt 3 152 (.t 5)), kM 4 6])
 (.reg [kM 7 0, kM 8 0, kO 9 (.nc (.t 8)), kO 10 (.fa 102 (.t 9) 0), kO 11 (.ld 24 (.t 10)), kM 12 4, kO 13 (.bin .shr 152 (.t 12) (.i .u64 24)),
 kO 14 (.bin .and 152 (.t 13) (.i .u64 255)), kO 15 (.cvt 152 5 (.t 14)), kM 16 4, kO 17 (.bin .shr 152 (.t 16) (.i .u64 16)),
 kO 18 (.bin .and 152 (.t 17) (.i .u64 255)), kO 19 (.cvt 152 5 (.t 18)), kM 20 4, kO 21 (.bin .shr 152 (.t 20) (.i .u64 8)),
 kO 22 (.bin .and 152 (.t 21) (.i .u64 255)), kO 23 (.cvt 152 5 (.t 22)), kM 24 4, kO 25 (.bin .and 152 (.t 24) (.i .u64 255)),
 kO 26 (.cvt 152 5 (.t 25)), kO 27 (.bsl 24 4 [(0, .t 15), (1, .t 19), (2, .t 23), (3, .t 26)]), kO 28 (.bi .append [24, 24] [.t 11, .t 27]),
 kO 29 (.nc (.t 7)), kO 30 (.fa 102 (.t 29) 0), kN (.st 24 (.t 30) (.t 28))])
theorem b50 : Body Tryd.prog 50 31 [] k50 := ⟨Enters.of Tryd.func50 (by kernel_rfl) (by kernel_rfl), _, _, Tryd.func50, rfl, by kernel_rfl, rfl, rfl⟩

/-- cartridge/cartridgeref1.Crc -/
def k51 : KC :=
 .seq (.reg [kO 2 (.mv (.i .u32 0))])
 (.seq (.reg [kM 3 0, kO 4 (.call (.fn 88) [.i .u32 0, .t 3]), kM 2 4])
 (.ret))
theorem b51 : Body Tryd.prog 51 5 [2] k51 := ⟨Enters.of Tryd.func51 (by kernel_rfl) (by kernel_rfl), _, _, Tryd.func51, rfl, by kernel_rfl, rfl, rfl⟩

/-- cartridge/volume.Good -/
def k52 : KC :=
 .seq (.reg [kO 2 (.box 38 (.t 0)), kO 4 (.al 42), kO 5 (.mv (.b false))])
 (.seq (.seq (.reg [kO 8 (.fa 38 (.t 2) 3), kO 9 (.ld 4 (.t 8)), kM 10 9, kG 11 10 (.mv (.t 1)), kG 12 10 (.bin .lss 3 (.t 11) (kI 0)),
 kO 13 (.pk (.t 10) (.b true) (.t 12)), kM 14 13, kG 15 14 (.mv (.t 1)), kG 16 14 (.fa 38 (.t 2) 2), kG 17 14 (.ld 26 (.t 16)),
 kG 18 14 (.bi .len [26] [.t 17]), kG 19 14 (.bin .geq 3 (.t 15) (.t 18)), kO 20 (.pk (.t 14) (.b true) (.t 19))])
 (.cond (.t 20) (.seq (.reg [kO 21 (.bld 42 []), kN (.st 42 (.t 4) (.t 21)), kO 5 (.mv (.b false))])
 (.ret))
 (.skip)))
 (.seq (.reg [kO 23 (.fa 38 (.t 2) 2), kO 24 (.ld 26 (.t 23)), kM 25 1, kO 26 (.ia 26 (.t 24) (.t 25)), kO 27 (.ld 24 (.t 26)), kO 28 (.call (.fn 89) [.t 27]),
 kM 22 28, kO 29 (.ex (.t 22) 0), kO 30 (.ex (.t 22) 1), kO 6 (.al 42), kN (.st 42 (.t 6) (.t 29)), kM 7 30])
 (.seq (.seq (.reg [kM 31 7, kO 32 (.bin .neq 27 (.t 31) (kI 0)), kM 33 32, kG 34 33 (.fa 42 (.t 6) 1), kG 35 33 (.ld 3 (.t 34)), kG 36 33 (.fa 38 (.t 2) 0),
 kG 37 33 (.ld 3 (.t 36)), kG 38 33 (.bin .neq 3 (.t 35) (.t 37)), kO 39 (.pk (.t 33) (.b true) (.t 38)), kM 40 39, kG 41 40 (.fa 42 (.t 6) 2),
 kG 42 40 (.ld 3 (.t 41)), kG 43 40 (.mv (.t 1)), kG 44 40 (.bin .neq 3 (.t 42) (.t 43)), kO 45 (.pk (.t 40) (.b true) (.t 44))])
 (.cond (.t 45) (.seq (.reg [kO 46 (.bld 42 []), kN (.st 42 (.t 4) (.t 46)), kO 5 (.mv (.b false))])
 (.ret))
 (.skip)))
 (.seq (.reg [kO 47 (.ld 42 (.t 6)), kN (.st 42 (.t 4) (.t 47)), kO 5 (.mv (.b true))])
 (.ret)))))

/-- cartridge/write.File -/
noncomputable def drw60_0 : Array Oper := ((Tryd.f60.body.map regs).getD []).getD 0 #[]
noncomputable def drw60_1 : Array Oper := ((Tryd.f60.body.map regs).getD []).getD 1 #[]
noncomputable def k60 : KC :=
 .seq (.reg [kO 6 (.box 23 (.t 2)), kO 8 (.mv (.ns)), kO 9 (.mv (kI 0))])
 (.seq (.reg [kM 20 0, kM 21 1, kO 22 (.call (.fn 25) [.t 20, .t 21]), kM 23 3, kO 24 (.bi .len [24] [.t 23]), kO 25 (.call (.fn 91) [.t 22, .t 24]), kM 19 25,
 kO 26 (.ex (.t 19) 0), kO 27 (.ex (.t 19) 1), kM 10 26, kM 11 27])
 (.seq (.seq (.reg [kM 28 11, kO 29 (.bin .neq 27 (.t 28) (kI 0))])
 (.cond (.t 29) (.seq (.reg [kM 30 11, kO 8 (.mv (.ns)), kM 9 30])
 (.ret))
 (.skip)))
 (.seq (.reg [kM 31 3, kO 32 (.call (.fn 92) [.t 31]), kO 33 (.cvt 106 3 (.t 32)), kO 34 (.fa 23 (.t 6) 6), kN (.st 3 (.t 34) (.t 33))])
 (.seq (.seq (.reg [kO 35 (.fa 23 (.t 6) 2), kO 36 (.ld 3 (.t 35)), kM 37 3, kO 38 (.bi .len [24] [.t 37]), kO 39 (.bin .neq 3 (.t 36) (.t 38))])
 (.cond (.t 39) (.seq (.reg [kO 8 (.mv (.ns)), kO 9 (.mv (kI 1))])
 (.ret))
 (.skip)))
 (.seq (.reg [kO 12 (.mv (.ns))])
 (.seq (.seq (.reg [kM 40 10, kO 41 (.bi .len [160] [.t 40]), kO 42 (.mv (kI 0))])
 (.block 0 (.loop (.seq (.reg [kO 43 (.bin .lss 3 (.t 42) (.t 41))])
 (.seq (.cond (.t 43) (.skip)
 (.exit 0))
 (.seq (.block 1 (.seq (.reg [kO 44 (.ia 160 (.t 40) (.t 42)), kO 45 (.ld 164 (.t 44)), kO 14 (.al 164), kN (.st 164 (.t 14) (.t 45))])
 (.seq (.drw drw60_0 [kO 46 (.fa 164 (.t 14) 1), kO 47 (.ld 3 (.t 46)), kO 48 (.fa 164 (.t 14) 2), kO 49 (.ld 3 (.t 48)), kO 50 (.fa 23 (.t 6) 3),
 kN (.st 3 (.t 50) (.t 47)), kO 51 (.fa 23 (.t 6) 4), kN (.st 3 (.t 51) (.t 49))])
 (.seq (.seq (.reg [kO 52 (.ld 23 (.t 6)), kO 53 (.call (.fn 41) [.t 52]), kO 54 (.un .not (.t 53))])
 (.cond (.t 54) (.seq (.reg [kO 8 (.mv (.ns)), kO 9 (.mv (kI 1))])
 (.ret))
 (.skip)))
 (.seq (.drw drw60_1 [kM 56 0, kO 57 (.fa 164 (.t 14) 0), kO 58 (.ld 3 (.t 57)), kO 59 (.ia 57 (.t 56) (.t 58)), kO 60 (.ld 38 (.t 59)), kO 61 (.ld 23 (.t 6)), kM 62 3,
 kO 63 (.fa 164 (.t 14) 1), kO 64 (.ld 3 (.t 63)), kO 65 (.fa 164 (.t 14) 1), kO 66 (.ld 3 (.t 65)), kO 67 (.fa 164 (.t 14) 2), kO 68 (.ld 3 (.t 67)),
 kO 69 (.bin .add 3 (.t 66) (.t 68)), kO 70 (.sli 24 (.t 62) (some (.t 64)) (some (.t 69)) none), kO 71 (.call (.fn 93) [.t 60, .t 61, .t 70]),
 kM 55 71, kO 72 (.ex (.t 55) 0), kO 73 (.ex (.t 55) 1), kM 15 72, kM 16 73])
 (.seq (.seq (.reg [kM 74 16, kO 75 (.bin .neq 27 (.t 74) (kI 0))])
 (.cond (.t 75) (.seq (.reg [kM 76 16, kO 8 (.mv (.ns)), kM 9 76])
 (.ret))
 (.skip)))
 (.seq (.reg [kM 77 15, kO 78 (.bi .len [26] [.t 77]), kO 79 (.mv (kI 0))])
 (.block 2 (.loop (.seq (.reg [kO 80 (.bin .lss 3 (.t 79) (.t 78))])
 (.seq (.cond (.t 80) (.skip)
 (.exit 2))
 (.seq (.block 3 (.seq (.reg [kO 81 (.ia 26 (.t 77) (.t 79)), kO 82 (.ld 24 (.t 81)), kM 18 82])
 (.reg [kM 83 12, kO 84 (.fa 164 (.t 14) 0), kO 85 (.ld 3 (.t 84)), kM 86 18, kO 87 (.bld 167 [(0, .t 85), (1, .t 86)]), kO 88 (.bsl 117 1 [(0, .t 87)]),
 kO 89 (.bi .append [117, 117] [.t 83, .t 88]), kM 12 89])))
 (.reg [kO 90 (.bin .add 3 (.t 79) (kI 1)), kM 79 90])))))))))))))
 (.reg [kO 91 (.bin .add 3 (.t 42) (kI 1)), kM 42 91])))))))
 (.seq (.reg [kM 92 12, kM 8 92, kO 9 (.mv (kI 0))])
 (.ret))))))))
theorem b60 : Body Tryd.prog 60 93 [8, 9] k60 := ⟨Enters.of Tryd.func60 (by kernel_rfl) (by kernel_rfl), _, _, Tryd.func60, rfl, by kernel_rfl, rfl, rfl⟩

/-- cartridge/write.Do -/
noncomputable def drw61_0 : Array Oper := ((Tryd.f61.body.map regs).getD []).getD 0 #[]
noncomputable def k61 : KC :=
 .seq (.reg [kO 8 (.mv (.ns)), kO 9 (.mv (.b false))])
 (.seq (.reg [kM 13 0, kO 14 (.call (.fn 94) [.t 13]), kM 10 14])
 (.seq (.seq (.reg [kM 15 1, kO 16 (.bi .len [117] [.t 15]), kO 17 (.mv (kI 0))])
 (.block 0 (.loop (.seq (.reg [kO 18 (.bin .lss 3 (.t 17) (.t 16))])
 (.seq (.cond (.t 18) (.skip)
 (.exit 0))
 (.seq (.block 1 (.seq (.reg [kM 19 17, kO 20 (.ia 117 (.t 15) (.t 17)), kO 21 (.ld 167 (.t 20)), kO 12 (.al 167), kM 11 19, kN (.st 167 (.t 12) (.t 21))])
 (.seq (.seq (.reg [kM 22 11, kM 23 2, kO 24 (.bin .eql 3 (.t 22) (.t 23))])
 (.cond (.t 24) (.seq (.seq (.reg [kM 25 3, kO 26 (.bin .gtr 3 (.t 25) (kI 0))])
 (.cond (.t 26) (.drw drw61_0 [kM 27 10, kO 28 (.fa 167 (.t 12) 0), kO 29 (.ld 3 (.t 28)), kO 30 (.fa 167 (.t 12) 1), kO 31 (.ld 24 (.t 30)), kM 32 3, kO 33 (.fa 167 (.t 12) 1),
 kO 34 (.ld 24 (.t 33)), kO 35 (.bi .len [24] [.t 34]), kO 36 (.bi .min [3, 3] [.t 32, .t 35]), kO 37 (.sli 24 (.t 31) none (some (.t 36)) none),
 kO 38 (.call (.fn 95) [.t 27, .t 29, .t 37])])
 (.skip)))
 (.seq (.reg [kM 39 10, kM 8 39, kO 9 (.mv (.b true))])
 (.ret)))
 (.skip)))
 (.reg [kM 40 10, kO 41 (.fa 167 (.t 12) 0), kO 42 (.ld 3 (.t 41)), kO 43 (.fa 167 (.t 12) 1), kO 44 (.ld 24 (.t 43)),
 kO 45 (.call (.fn 95) [.t 40, .t 42, .t 44])]))))
 (.reg [kO 46 (.bin .add 3 (.t 17) (kI 1)), kM 17 46])))))))
 (.seq (.reg [kM 47 10, kM 8 47, kO 9 (.mv (.b false))])
 (.ret))))
theorem b61 : Body Tryd.prog 61 48 [8, 9] k61 := ⟨Enters.of Tryd.func61 (by kernel_rfl) (by kernel_rfl), _, _, Tryd.func61, rfl, by kernel_rfl, rfl, rfl⟩

/-- cartridge/cartridgelaw20.num -/
def k62 : KC :=
 .seq (.reg [kO 2 (.mv (kI 0))])
 (.seq (.reg [kM 3 0, kM 2 3])
 (.ret))
theorem b62 : Body Tryd.prog 62 4 [2] k62 := ⟨Enters.of Tryd.func62 (by kernel_rfl) (by kernel_rfl), _, _, Tryd.func62, rfl, by kernel_rfl, rfl, rfl⟩

/-- cartridge/write.room -/
def k63 : KC :=
 .seq (.reg [kO 2 (.box 38 (.t 0)), kO 4 (.mv (kI 0))])
 (.seq (.seq (.reg [kM 11 1, kO 12 (.fa 38 (.t 2) 0), kO 13 (.ld 3 (.t 12)), kO 14 (.call (.fn 96) [.t 11, .t 13]), kM 10 14, kO 15 (.ex (.t 10) 0),
 kO 16 (.ex (.t 10) 1), kO 5 (.al 55), kN (.st 55 (.t 5) (.t 15)), kM 6 16])
 (.seq (.reg [kM 17 6, kM 18 17, kG 19 18 (.fa 38 (.t 2) 3), kG 20 18 (.ld 4 (.t 19)), kO 21 (.pk (.t 18) (.b true) (.t 20))])
 (.cond (.t 21) (.seq (.reg [kO 4 (.mv (kI 0))])
 (.ret))
 (.skip))))
 (.seq (.reg [kO 22 (.fa 38 (.t 2) 2), kO 23 (.ld 26 (.t 22)), kO 24 (.bi .len [26] [.t 23]), kM 7 24])
 (.seq (.seq (.reg [kM 25 7, kO 26 (.bin .eql 3 (.t 25) (kI 0))])
 (.cond (.t 26) (.seq (.reg [kO 27 (.fa 38 (.t 2) 1), kO 28 (.ld 3 (.t 27)), kO 29 (.bi .max [3, 3] [.i .i64 1, .t 28]), kO 30 (.bin .sub 3 (.t 29) (kI 1)), kM 4 30])
 (.ret))
 (.skip)))
 (.seq (.seq (.reg [kO 32 (.ld 38 (.t 2)), kM 33 7, kO 34 (.bin .sub 3 (.t 33) (kI 1)), kO 35 (.call (.fn 52) [.t 32, .t 34]), kM 31 35, kO 36 (.ex (.t 31) 0),
 kO 37 (.ex (.t 31) 1), kO 8 (.al 42), kN (.st 42 (.t 8) (.t 36)), kM 9 37])
 (.seq (.reg [kM 38 9, kO 39 (.un .not (.t 38))])
 (.cond (.t 39) (.seq (.reg [kO 4 (.mv (kI 0))])
 (.ret))
 (.skip))))
 (.seq (.reg [kM 40 7, kO 41 (.fa 38 (.t 2) 1), kO 42 (.ld 3 (.t 41)), kO 43 (.bi .max [3, 3] [.t 40, .t 42]), kM 44 7, kO 45 (.bin .sub 3 (.t 43) (.t 44)), kM 4 45])
 (.ret))))))
theorem b63 : Body Tryd.prog 63 46 [4] k63 := ⟨Enters.of Tryd.func63 (by kernel_rfl) (by kernel_rfl), _, _, Tryd.func63, rfl, by kernel_rfl, rfl, rfl⟩

/-- cartridge/path.Right -/
def k64 : KC :=
 .seq (.reg [kO 2 (.mv (.b false))])
 (.seq (.reg [kM 3 0, kO 4 (.bi .len [9] [.t 3]), kO 5 (.bin .leq 3 (.t 4) (kI 24)), kM 6 5, kT 7 6 (.mv (.t 0)), kT 8 6 (.call (.fn 98) [.t 7, .s ⟨#[47]⟩]),
 kT 9 6 (.call (.fn 97) [.t 8, .fn 99]), kT 10 6 (.un .not (.t 9)), kO 11 (.pk (.t 6) (.t 10) (.b false)), kM 2 11])
 (.ret))
theorem b64 : Body Tryd.prog 64 12 [2] k64 := ⟨Enters.of Tryd.func64 (by kernel_rfl) (by kernel_rfl), _, _, Tryd.func64, rfl, by kernel_rfl, rfl, rfl⟩

/-- slices.Clone[[]byte,byte] -/
def k66 : KC :=
 .seq (.reg [kO 2 (.mv (.ns))])
 (.seq (.seq (.reg [kM 3 0, kO 4 (.bin .eql 24 (.t 3) (.ns))])
 (.cond (.t 4) (.seq (.reg [kO 2 (.mv (.ns))])
 (.ret))
 (.skip)))
 (.seq (.reg [kO 5 (.bsl 24 0 []), kM 6 0, kO 7 (.bi .append [24, 24] [.t 5, .t 6]), kM 2 7])
 (.ret)))
theorem b66 : Body Tryd.prog 66 8 [2] k66 := ⟨Enters.of Tryd.func66 (by kernel_rfl) (by kernel_rfl), _, _, Tryd.func66, rfl, by kernel_rfl, rfl, rfl⟩

/-- cartridge/record.within -/
def k80 : KC :=
 .seq (.reg [kO 6 (.mv (.b false))])
 (.seq (.reg [kM 7 0, kM 8 1, kO 9 (.bin .geq 3 (.t 7) (.t 8)), kM 10 9, kT 11 10 (.mv (.t 0)), kT 12 10 (.mv (.t 2)), kT 13 10 (.bin .leq 3 (.t 11) (.t 12)),
 kO 14 (.pk (.t 10) (.t 13) (.b false)), kM 6 14])
 (.ret))
theorem b80 : Body Tryd.prog 80 15 [6] k80 := ⟨Enters.of Tryd.func80 (by kernel_rfl) (by kernel_rfl), _, _, Tryd.func80, rfl, by kernel_rfl, rfl, rfl⟩

/-- (*cartridge/code.Writer).Text -/
def k81 : KC :=
 .seq (.reg [kM 4 1, kM 5 1, kO 6 (.bi .len [9] [.t 5]), kO 7 (.bi .min [3, 3] [.t 6, .i .i64 255]), kO 8 (.sli 9 (.t 4) none (some (.t 7)) none), kM 1 8])
 (.seq (.reg [kM 9 0, kM 10 0, kO 11 (.nc (.t 10)), kO 12 (.fa 147 (.t 11) 0), kO 13 (.ld 24 (.t 12)), kM 14 1, kO 15 (.bi .len [9] [.t 14]),
 kO 16 (.cvt 3 5 (.t 15)), kO 17 (.bsl 24 1 [(0, .t 16)]), kO 18 (.bi .append [24, 24] [.t 13, .t 17]), kO 19 (.nc (.t 9)), kO 20 (.fa 147 (.t 19) 0),
 kN (.st 24 (.t 20) (.t 18))])
 (.reg [kM 21 0, kM 22 0, kO 23 (.nc (.t 22)), kO 24 (.fa 147 (.t 23) 0), kO 25 (.ld 24 (.t 24)), kM 26 1, kO 27 (.bi .append [24, 9] [.t 25, .t 26]),
 kO 28 (.nc (.t 21)), kO 29 (.fa 147 (.t 28) 0), kN (.st 24 (.t 29) (.t 27))]))
theorem b81 : Body Tryd.prog 81 30 [] k81 := ⟨Enters.of Tryd.func81 (by kernel_rfl) (by kernel_rfl), _, _, Tryd.func81, rfl, by kernel_rfl, rfl, rfl⟩

/-- (*cartridge/code.Writer).Int -/
def k82 : KC :=
 .seq (.reg [kM 5 1, kO 6 (.cvt 3 106 (.t 5)), kM 4 6])
 (.reg [kM 7 0, kM 8 0, kO 9 (.nc (.t 8)), kO 10 (.fa 147 (.t 9) 0), kO 11 (.ld 24 (.t 10)), kM 12 4, kO 13 (.bin .shr 106 (.t 12) (.i .u64 24)),
 kO 14 (.cvt 106 5 (.t 13)), kM 15 4, kO 16 (.bin .shr 106 (.t 15) (.i .u64 16)), kO 17 (.cvt 106 5 (.t 16)), kM 18 4,
 kO 19 (.bin .shr 106 (.t 18) (.i .u64 8)), kO 20 (.cvt 106 5 (.t 19)), kM 21 4, kO 22 (.cvt 106 5 (.t 21)),
 kO 23 (.bsl 24 4 [(0, .t 14), (1, .t 17), (2, .t 20), (3, .t 22)]), kO 24 (.bi .append [24, 24] [.t 11, .t 23]), kO 25 (.nc (.t 7)),
 kO 26 (.fa 147 (.t 25) 0), kN (.st 24 (.t 26) (.t 24))])
theorem b82 : Body Tryd.prog 82 27 [] k82 := ⟨Enters.of Tryd.func82 (by kernel_rfl) (by kernel_rfl), _, _, Tryd.func82, rfl, by kernel_rfl, rfl, rfl⟩

/-- (*cartridge/code.Writer).Byte -/
def k83 : KC :=
 .reg [kM 4 0, kM 5 0, kO 6 (.nc (.t 5)), kO 7 (.fa 147 (.t 6) 0), kO 8 (.ld 24 (.t 7)), kM 9 1, kO 10 (.bsl 24 1 [(0, .t 9)]),
 kO 11 (.bi .append [24, 24] [.t 8, .t 10]), kO 12 (.nc (.t 4)), kO 13 (.fa 147 (.t 12) 0), kN (.st 24 (.t 13) (.t 11))]
theorem b83 : Body Tryd.prog 83 14 [] k83 := ⟨Enters.of Tryd.func83 (by kernel_rfl) (by kernel_rfl), _, _, Tryd.func83, rfl, by kernel_rfl, rfl, rfl⟩

/-- (*cartridge/code.Writer).Bytes -/
def k84 : KC :=
 .seq (.reg [kO 2 (.mv (.ns))])
 (.seq (.reg [kM 3 0, kO 4 (.nc (.t 3)), kO 5 (.fa 147 (.t 4) 0), kO 6 (.ld 24 (.t 5)), kO 7 (.call (.fn 66) [.t 6]), kM 2 7])
 (.ret))
theorem b84 : Body Tryd.prog 84 8 [2] k84 := ⟨Enters.of Tryd.func84 (by kernel_rfl) (by kernel_rfl), _, _, Tryd.func84, rfl, by kernel_rfl, rfl, rfl⟩

/-- cartridge/frame.check -/
noncomputable def drw85_0 : Array Oper := ((Tryd.f85.body.map regs).getD []).getD 0 #[]
noncomputable def k85 : KC :=
 .seq (.reg [kO 1 (.box 42 (.t 0)), kO 2 (.mv (kI 0))])
 (.seq (.seq (.reg [kO 3 (.fa 42 (.t 1) 1), kO 4 (.ld 3 (.t 3)), kO 5 (.bin .lss 3 (.t 4) (kI 1)), kM 6 5, kG 7 6 (.fa 42 (.t 1) 1), kG 8 6 (.ld 3 (.t 7)),
 kG 9 6 (.bin .gtr 3 (.t 8) (kI 2147483647)), kO 10 (.pk (.t 6) (.b true) (.t 9)), kM 11 10, kG 12 11 (.fa 42 (.t 1) 2), kG 13 11 (.ld 3 (.t 12)),
 kG 14 11 (.bin .lss 3 (.t 13) (kI 0)), kO 15 (.pk (.t 11) (.b true) (.t 14)), kM 16 15, kG 17 16 (.fa 42 (.t 1) 2), kG 18 16 (.ld 3 (.t 17)),
 kG 19 16 (.bin .gtr 3 (.t 18) (kI 2147483647)), kO 20 (.pk (.t 16) (.b true) (.t 19))])
 (.cond (.t 20) (.seq (.reg [kO 2 (.mv (kI 1))])
 (.ret))
 (.skip)))
 (.seq (.seq (.reg [kO 21 (.fa 42 (.t 1) 0), kO 22 (.ld 3 (.t 21))])
 (.block 0 (.seq (.block 6 (.block 5 (.block 4 (.block 3 (.block 2 (.block 1 (.seq (.seq (.seq (.reg [kO 24 (.bin .eql 3 (.t 22) (kI 1)), kM 23 24])
 (.cond (.t 23) (.exit 1)
 (.skip)))
 (.seq (.seq (.reg [kO 26 (.bin .eql 3 (.t 22) (kI 2)), kM 25 26])
 (.cond (.t 25) (.exit 2)
 (.skip)))
 (.seq (.seq (.reg [kO 28 (.bin .eql 3 (.t 22) (kI 3)), kM 27 28])
 (.cond (.t 27) (.exit 3)
 (.skip)))
 (.seq (.seq (.reg [kO 30 (.bin .eql 3 (.t 22) (kI 4)), kM 29 30])
 (.cond (.t 29) (.exit 4)
 (.skip)))
 (.seq (.seq (.reg [kO 32 (.bin .eql 3 (.t 22) (kI 5)), kM 31 32])
 (.cond (.t 31) (.exit 5)
 (.skip)))
 (.seq (.reg [kO 34 (.bin .eql 3 (.t 22) (kI 6)), kM 33 34])
 (.cond (.t 33) (.exit 6)
 (.skip))))))))
 (.exit 0))))))))
 (.seq (.seq (.seq (.drw drw85_0 [kO 35 (.fa 42 (.t 1) 3), kO 36 (.ld 24 (.t 35)), kO 37 (.bi .len [24] [.t 36]), kO 38 (.fa 42 (.t 1) 0), kO 39 (.ld 3 (.t 38)),
 kO 40 (.call (.fn 110) [.t 39]), kO 41 (.bin .gtr 3 (.t 37) (.t 40))])
 (.cond (.t 41) (.seq (.reg [kO 2 (.mv (kI 4))])
 (.ret))
 (.skip)))
 (.seq (.reg [kO 2 (.mv (kI 0))])
 (.ret)))
 (.exit 0)))))
 (.seq (.reg [kO 2 (.mv (kI 1))])
 (.ret))))
theorem b85 : Body Tryd.prog 85 42 [2] k85 := ⟨Enters.of Tryd.func85 (by kernel_rfl) (by kernel_rfl), _, _, Tryd.func85, rfl, by kernel_rfl, rfl, rfl⟩

/-- cartridge/frame.made -/
def k86 : KC :=
 .seq (.reg [kO 1 (.box 42 (.t 0)), kO 2 (.mv (.ns))])
 (.seq (.reg [kO 6 (.bld 147 []), kO 7 (.box 147 (.t 6)), kM 3 7])
 (.seq (.reg [kM 8 3, kO 9 (.fa 42 (.t 1) 0), kO 10 (.ld 3 (.t 9)), kO 11 (.cvt 3 5 (.t 10)), kO 12 (.call (.fn 83) [.t 8, .t 11])])
 (.seq (.reg [kM 13 3, kO 14 (.fa 42 (.t 1) 1), kO 15 (.ld 3 (.t 14)), kO 16 (.call (.fn 82) [.t 13, .t 15])])
 (.seq (.reg [kM 17 3, kO 18 (.fa 42 (.t 1) 2), kO 19 (.ld 3 (.t 18)), kO 20 (.call (.fn 82) [.t 17, .t 19])])
 (.seq (.reg [kM 21 3, kO 22 (.fa 42 (.t 1) 3), kO 23 (.ld 24 (.t 22)), kO 24 (.bi .len [24] [.t 23]), kO 25 (.bin .shr 3 (.t 24) (.i .u64 8)),
 kO 26 (.cvt 3 5 (.t 25)), kO 27 (.call (.fn 83) [.t 21, .t 26])])
 (.seq (.reg [kM 28 3, kO 29 (.fa 42 (.t 1) 3), kO 30 (.ld 24 (.t 29)), kO 31 (.bi .len [24] [.t 30]), kO 32 (.cvt 3 5 (.t 31)),
 kO 33 (.call (.fn 83) [.t 28, .t 32])])
 (.seq (.reg [kO 34 (.fa 42 (.t 1) 0), kO 35 (.ld 3 (.t 34)), kO 36 (.call (.fn 110) [.t 35]), kO 37 (.mk 24 (.t 36) (.t 36)), kM 4 37])
 (.seq (.reg [kM 38 4, kO 39 (.fa 42 (.t 1) 3), kO 40 (.ld 24 (.t 39)), kO 41 (.bi .copy [24, 24] [.t 38, .t 40])])
 (.seq (.reg [kM 42 3, kO 43 (.call (.fn 84) [.t 42]), kM 44 4, kO 45 (.bi .append [24, 24] [.t 43, .t 44]), kM 5 45])
 (.seq (.reg [kO 46 (.bld 147 []), kO 47 (.box 147 (.t 46)), kM 3 47])
 (.seq (.reg [kM 48 3, kM 49 5, kO 50 (.call (.fn 92) [.t 49]), kO 51 (.cvt 106 3 (.t 50)), kO 52 (.call (.fn 82) [.t 48, .t 51])])
 (.seq (.reg [kM 53 5, kM 54 3, kO 55 (.call (.fn 84) [.t 54]), kO 56 (.bi .append [24, 24] [.t 53, .t 55]), kM 2 56])
 (.ret)))))))))))))
theorem b86 : Body Tryd.prog 86 57 [2] k86 := ⟨Enters.of Tryd.func86 (by kernel_rfl) (by kernel_rfl), _, _, Tryd.func86, rfl, by kernel_rfl, rfl, rfl⟩

/-- cartridge/cartridgeref1.More -/
def k88 : KC :=
 .seq (.reg [kO 4 (.mv (.i .u32 0))])
 (.seq (.reg [kM 8 0, kO 9 (.bin .xor 106 (.t 8) (.i .u32 4294967295)), kM 5 9])
 (.seq (.seq (.reg [kO 6 (.mv (kI 0))])
 (.block 0 (.loop (.seq (.seq (.reg [kM 10 6, kM 11 1, kO 12 (.bi .len [24] [.t 11]), kO 13 (.bin .lss 3 (.t 10) (.t 12))])
 (.cond (.t 13) (.skip)
 (.exit 0)))
 (.seq (.block 1 (.seq (.reg [kM 16 5, kM 17 1, kM 18 6, kO 19 (.ia 24 (.t 17) (.t 18)), kO 20 (.ld 5 (.t 19)), kO 21 (.cvt 5 106 (.t 20)), kO 22 (.bin .xor 106 (.t 16) (.t 21)),
 kM 5 22])
 (.seq (.reg [kO 7 (.mv (kI 0))])
 (.block 2 (.loop (.seq (.seq (.reg [kM 23 7, kO 24 (.bin .lss 3 (.t 23) (kI 8))])
 (.cond (.t 24) (.skip)
 (.exit 2)))
 (.seq (.block 3 (.seq (.reg [kM 27 5, kO 28 (.bin .and 106 (.t 27) (.i .u32 1)), kO 29 (.bin .eql 106 (.t 28) (.i .u32 1))])
 (.cond (.t 29) (.reg [kM 30 5, kO 31 (.bin .shr 106 (.t 30) (.i .u64 1)), kO 32 (.bin .xor 106 (.t 31) (.i .u32 2197175160)), kM 5 32])
 (.reg [kM 33 5, kO 34 (.bin .shr 106 (.t 33) (.i .u64 1)), kM 5 34]))))
 (.reg [kM 25 7, kO 26 (.bin .add 3 (.t 25) (kI 1)), kM 7 26]))))))))
 (.reg [kM 14 6, kO 15 (.bin .add 3 (.t 14) (kI 1)), kM 6 15]))))))
 (.seq (.reg [kM 35 5, kO 36 (.bin .xor 106 (.t 35) (.i .u32 4294967295)), kM 4 36])
 (.ret))))
theorem b88 : Body Tryd.prog 88 37 [4] k88 := ⟨Enters.of Tryd.func88 (by kernel_rfl) (by kernel_rfl), _, _, Tryd.func88, rfl, by kernel_rfl, rfl, rfl⟩

/-- cartridge/frame.Get -/
def k89 : KC :=
 .seq (.reg [kO 2 (.al 42), kO 3 (.mv (kI 0))])
 (.seq (.reg [kM 7 0, kO 8 (.call (.fn 111) [.t 7]), kM 4 8])
 (.seq (.reg [kM 9 4, kO 10 (.call (.fn 112) [.t 9]), kO 11 (.cvt 5 3 (.t 10)), kO 12 (.bld 42 [(0, .t 11)]), kO 5 (.al 42), kN (.st 42 (.t 5) (.t 12))])
 (.seq (.reg [kM 13 4, kO 14 (.call (.fn 113) [.t 13]), kO 15 (.fa 42 (.t 5) 1), kN (.st 3 (.t 15) (.t 14))])
 (.seq (.reg [kM 16 4, kO 17 (.call (.fn 113) [.t 16]), kO 18 (.fa 42 (.t 5) 2), kN (.st 3 (.t 18) (.t 17))])
 (.seq (.reg [kM 19 4, kO 20 (.call (.fn 112) [.t 19]), kO 21 (.cvt 5 3 (.t 20)), kO 22 (.bin .shl 3 (.t 21) (.i .u64 8)), kM 23 4,
 kO 24 (.call (.fn 112) [.t 23]), kO 25 (.cvt 5 3 (.t 24)), kO 26 (.bin .or 3 (.t 22) (.t 25)), kM 6 26])
 (.seq (.reg [kM 27 4, kM 28 6, kO 29 (.call (.fn 114) [.t 27, .t 28]), kO 30 (.fa 42 (.t 5) 3), kN (.st 24 (.t 30) (.t 29))])
 (.seq (.seq (.reg [kM 31 4, kO 32 (.call (.fn 115) [.t 31]), kM 33 32, kG 34 33 (.ld 42 (.t 5)), kG 35 33 (.call (.fn 85) [.t 34]),
 kG 36 33 (.bin .neq 27 (.t 35) (kI 0)), kO 37 (.pk (.t 33) (.b true) (.t 36)), kM 38 37, kG 39 38 (.mv (.t 0)), kG 40 38 (.ld 42 (.t 5)),
 kG 41 38 (.call (.fn 86) [.t 40]), kG 42 38 (.call (.fn 116) [.t 39, .t 41]), kG 43 38 (.un .not (.t 42)), kO 44 (.pk (.t 38) (.b true) (.t 43))])
 (.cond (.t 44) (.seq (.reg [kO 45 (.bld 42 []), kN (.st 42 (.t 2) (.t 45)), kO 3 (.mv (kI 2))])
 (.ret))
 (.skip)))
 (.seq (.reg [kO 46 (.ld 42 (.t 5)), kN (.st 42 (.t 2) (.t 46)), kO 3 (.mv (kI 0))])
 (.ret)))))))))

/-- cartridge/span.Plan -/
def k91 : KC :=
 .seq (.reg [kO 4 (.mv (.ns)), kO 5 (.mv (kI 0))])
 (.seq (.seq (.reg [kM 11 1, kO 12 (.bin .lss 3 (.t 11) (kI 0)), kM 13 12, kG 14 13 (.mv (.t 1)), kG 15 13 (.bin .gtr 3 (.t 14) (kI 4000)),
 kO 16 (.pk (.t 13) (.b true) (.t 15))])
 (.cond (.t 16) (.seq (.reg [kO 4 (.mv (.ns)), kO 5 (.mv (kI 1))])
 (.ret))
 (.skip)))
 (.seq (.reg [kO 6 (.mv (.ns))])
 (.seq (.reg [kO 7 (.mv (kI 0))])
 (.seq (.seq (.reg [kM 17 0, kO 18 (.bi .len [36] [.t 17]), kO 19 (.mv (kI 0))])
 (.block 0 (.loop (.seq (.reg [kO 20 (.bin .lss 3 (.t 19) (.t 18))])
 (.seq (.cond (.t 20) (.skip)
 (.exit 0))
 (.seq (.block 1 (.seq (.reg [kM 21 19, kO 22 (.ia 36 (.t 17) (.t 19)), kO 23 (.ld 3 (.t 22)), kM 8 21, kM 9 23])
 (.seq (.reg [kM 24 9, kO 25 (.call (.fn 118) [.t 24]), kM 26 1, kM 27 7, kO 28 (.bin .sub 3 (.t 26) (.t 27)), kO 29 (.bi .min [3, 3] [.t 25, .t 28]), kM 10 29])
 (.seq (.seq (.reg [kM 30 10, kO 31 (.bin .eql 3 (.t 30) (kI 0)), kM 32 31, kT 33 32 (.mv (.t 1)), kT 34 32 (.bin .gtr 3 (.t 33) (kI 0)), kT 35 32 (.mv (.t 34)),
 kG 36 35 (.mv (.t 9)), kG 37 35 (.bin .lss 3 (.t 36) (kI 2)), kT 38 32 (.pk (.t 35) (.b true) (.t 37)), kO 39 (.pk (.t 32) (.t 38) (.b false))])
 (.cond (.t 39) (.exit 1)
 (.skip)))
 (.seq (.reg [kM 40 6, kM 41 8, kM 42 7, kM 43 10, kO 44 (.bld 164 [(0, .t 41), (1, .t 42), (2, .t 43)]), kO 45 (.bsl 160 1 [(0, .t 44)]),
 kO 46 (.bi .append [160, 160] [.t 40, .t 45]), kM 6 46])
 (.seq (.reg [kM 47 7, kM 48 10, kO 49 (.bin .add 3 (.t 47) (.t 48)), kM 7 49])
 (.seq (.reg [kM 50 7, kM 51 1, kO 52 (.bin .eql 3 (.t 50) (.t 51))])
 (.cond (.t 52) (.seq (.reg [kM 53 6, kM 4 53, kO 5 (.mv (kI 0))])
 (.ret))
 (.skip)))))))))
 (.reg [kO 54 (.bin .add 3 (.t 19) (kI 1)), kM 19 54])))))))
 (.seq (.reg [kO 4 (.mv (.ns)), kO 5 (.mv (kI 7))])
 (.ret))))))
theorem b91 : Body Tryd.prog 91 55 [4, 5] k91 := ⟨Enters.of Tryd.func91 (by kernel_rfl) (by kernel_rfl), _, _, Tryd.func91, rfl, by kernel_rfl, rfl, rfl⟩

/-- cartridge/castagnoli.Sum -/
def k92 : KC :=
 .seq (.reg [kO 2 (.mv (.i .u32 0))])
 (.seq (.reg [kM 3 0, kO 4 (.call (.fn 119) [.i .u32 0, .t 3]), kM 2 4])
 (.ret))
theorem b92 : Body Tryd.prog 92 5 [2] k92 := ⟨Enters.of Tryd.func92 (by kernel_rfl) (by kernel_rfl), _, _, Tryd.func92, rfl, by kernel_rfl, rfl, rfl⟩

/-- cartridge/write.piece -/
def k93 : KC :=
 .seq (.reg [kO 3 (.box 38 (.t 0)), kO 4 (.box 23 (.t 1)), kO 6 (.mv (.ns)), kO 7 (.mv (kI 0))])
 (.seq (.reg [kO 8 (.mv (.ns))])
 (.seq (.seq (.reg [kO 13 (.fa 38 (.t 3) 2), kO 14 (.ld 26 (.t 13)), kO 15 (.bi .len [26] [.t 14]), kO 16 (.bin .eql 3 (.t 15) (kI 0))])
 (.cond (.t 16) (.seq (.reg [kO 18 (.fa 38 (.t 3) 0), kO 19 (.ld 3 (.t 18)), kO 20 (.bsl 24 1 [(0, .i .u8 68)]), kO 21 (.cvt 24 24 (.t 20)),
 kO 22 (.bld 42 [(0, .i .i64 1), (1, .t 19), (3, .t 21)]), kO 23 (.call (.fn 43) [.t 22]), kM 17 23, kO 24 (.ex (.t 17) 0), kO 25 (.ex (.t 17) 1),
 kM 9 24, kM 10 25])
 (.seq (.seq (.reg [kM 26 10, kO 27 (.bin .neq 27 (.t 26) (kI 0))])
 (.cond (.t 27) (.seq (.reg [kM 28 10, kO 6 (.mv (.ns)), kM 7 28])
 (.ret))
 (.skip)))
 (.reg [kM 29 8, kM 30 9, kO 31 (.bsl 26 1 [(0, .t 30)]), kO 32 (.bi .append [26, 26] [.t 29, .t 31]), kM 8 32])))
 (.skip)))
 (.seq (.reg [kO 34 (.fa 38 (.t 3) 0), kO 35 (.ld 3 (.t 34)), kO 36 (.fa 38 (.t 3) 2), kO 37 (.ld 26 (.t 36)), kO 38 (.bi .len [26] [.t 37]), kM 39 8,
 kO 40 (.bi .len [26] [.t 39]), kO 41 (.bin .add 3 (.t 38) (.t 40)), kO 42 (.ld 23 (.t 4)), kM 43 2,
 kO 44 (.call (.fn 13) [.t 35, .t 41, .t 42, .t 43]), kM 33 44, kO 45 (.ex (.t 33) 0), kO 46 (.ex (.t 33) 1), kM 11 45, kM 12 46])
 (.seq (.reg [kM 47 8, kM 48 11, kO 49 (.bi .append [26, 26] [.t 47, .t 48]), kM 50 12, kM 6 49, kM 7 50])
 (.ret)))))
theorem b93 : Body Tryd.prog 93 51 [6, 7] k93 := ⟨Enters.of Tryd.func93 (by kernel_rfl) (by kernel_rfl), _, _, Tryd.func93, rfl, by kernel_rfl, rfl, rfl⟩

/-- cartridge/tape.CloneAll -/
def k94 : KC :=
 .seq (.reg [kO 2 (.mv (.ns))])
 (.seq (.reg [kO 3 (.mv (.ns))])
 (.seq (.seq (.reg [kM 6 0, kO 7 (.bi .len [57] [.t 6]), kO 8 (.mv (kI 0))])
 (.block 0 (.loop (.seq (.reg [kO 9 (.bin .lss 3 (.t 8) (.t 7))])
 (.seq (.cond (.t 9) (.skip)
 (.exit 0))
 (.seq (.block 1 (.seq (.reg [kO 10 (.ia 57 (.t 6) (.t 8)), kO 11 (.ld 38 (.t 10)), kO 5 (.al 38), kN (.st 38 (.t 5) (.t 11))])
 (.reg [kM 12 3, kO 13 (.ld 38 (.t 5)), kO 14 (.call (.fn 120) [.t 13]), kO 15 (.bsl 57 1 [(0, .t 14)]), kO 16 (.bi .append [57, 57] [.t 12, .t 15]), kM 3 16])))
 (.reg [kO 17 (.bin .add 3 (.t 8) (kI 1)), kM 8 17])))))))
 (.seq (.reg [kM 18 3, kM 2 18])
 (.ret))))
theorem b94 : Body Tryd.prog 94 19 [2] k94 := ⟨Enters.of Tryd.func94 (by kernel_rfl) (by kernel_rfl), _, _, Tryd.func94, rfl, by kernel_rfl, rfl, rfl⟩

/-- cartridge/write.lay -/
def k95 : KC :=
 .seq (.seq (.reg [kM 8 1, kO 9 (.bin .lss 3 (.t 8) (kI 0)), kM 10 9, kG 11 10 (.mv (.t 1)), kG 12 10 (.mv (.t 0)), kG 13 10 (.bi .len [57] [.t 12]),
 kG 14 10 (.bin .geq 3 (.t 11) (.t 13)), kO 15 (.pk (.t 10) (.b true) (.t 14))])
 (.cond (.t 15) (.ret)
 (.skip)))
 (.seq (.reg [kM 17 0, kM 18 1, kO 19 (.ia 57 (.t 17) (.t 18)), kO 20 (.ld 38 (.t 19)), kO 21 (.call (.fn 121) [.t 20]), kM 16 21, kO 22 (.ex (.t 16) 0),
 kO 23 (.ex (.t 16) 1), kM 6 22, kM 7 23])
 (.seq (.reg [kM 24 7, kO 25 (.bin .eql 27 (.t 24) (kI 0)), kM 26 25, kT 27 26 (.mv (.t 6)), kT 28 26 (.mv (.t 2)), kT 29 26 (.call (.fn 122) [.t 27, .t 28]),
 kT 30 26 (.bin .eql 27 (.t 29) (kI 0)), kO 31 (.pk (.t 26) (.t 30) (.b false))])
 (.cond (.t 31) (.reg [kM 32 0, kM 33 1, kM 34 6, kO 35 (.call (.fn 123) [.t 34]), kO 36 (.ia 57 (.t 32) (.t 33)), kN (.st 38 (.t 36) (.t 35))])
 (.skip))))
theorem b95 : Body Tryd.prog 95 37 [] k95 := ⟨Enters.of Tryd.func95 (by kernel_rfl) (by kernel_rfl), _, _, Tryd.func95, rfl, by kernel_rfl, rfl, rfl⟩

/-- cartridge/group.Of -/
def k96 : KC :=
 .seq (.reg [kO 4 (.al 55), kO 5 (.mv (.b false))])
 (.seq (.seq (.reg [kM 8 0, kO 9 (.bi .len [53] [.t 8]), kO 10 (.mv (kI 0))])
 (.block 0 (.loop (.seq (.reg [kO 11 (.bin .lss 3 (.t 10) (.t 9))])
 (.seq (.cond (.t 11) (.skip)
 (.exit 0))
 (.seq (.block 1 (.seq (.reg [kO 12 (.ia 53 (.t 8) (.t 10)), kO 13 (.ld 55 (.t 12)), kO 7 (.al 55), kN (.st 55 (.t 7) (.t 13))])
 (.seq (.reg [kO 14 (.fa 55 (.t 7) 4), kO 15 (.ld 36 (.t 14)), kM 16 1, kO 17 (.call (.fn 124) [.t 15, .t 16])])
 (.cond (.t 17) (.seq (.reg [kO 18 (.fa 55 (.t 7) 4), kO 19 (.ld 36 (.t 18)), kO 20 (.call (.fn 125) [.t 19]), kO 21 (.fa 55 (.t 7) 4), kN (.st 36 (.t 21) (.t 20))])
 (.seq (.reg [kO 22 (.ld 55 (.t 7)), kN (.st 55 (.t 4) (.t 22)), kO 5 (.mv (.b true))])
 (.ret)))
 (.skip)))))
 (.reg [kO 23 (.bin .add 3 (.t 10) (kI 1)), kM 10 23])))))))
 (.seq (.reg [kO 24 (.bld 55 []), kN (.st 55 (.t 4) (.t 24)), kO 5 (.mv (.b false))])
 (.ret)))

/-- slices.ContainsFunc[[]string,string] -/
def k97 : KC :=
 .seq (.reg [kO 4 (.mv (.b false))])
 (.seq (.reg [kM 5 0, kM 6 1, kO 7 (.call (.fn 126) [.t 5, .t 6]), kO 8 (.bin .geq 3 (.t 7) (kI 0)), kM 4 8])
 (.ret))
theorem b97 : Body Tryd.prog 97 9 [4] k97 := ⟨Enters.of Tryd.func97 (by kernel_rfl) (by kernel_rfl), _, _, Tryd.func97, rfl, by kernel_rfl, rfl, rfl⟩

/-- strings.Split -/
def k98 : KC :=
 .seq (.reg [kO 4 (.mv (.ns))])
 (.seq (.reg [kM 5 0, kM 6 1, kO 7 (.call (.fn 127) [.t 5, .t 6, .i .i64 0, .i .i64 (-1)]), kM 4 7])
 (.ret))
theorem b98 : Body Tryd.prog 98 8 [4] k98 := ⟨Enters.of Tryd.func98 (by kernel_rfl) (by kernel_rfl), _, _, Tryd.func98, rfl, by kernel_rfl, rfl, rfl⟩

/-- cartridge/path.wrong -/
def k99 : KC :=
 .seq (.reg [kO 2 (.mv (.b false))])
 (.seq (.reg [kM 3 0, kO 4 (.bin .eql 9 (.t 3) (.s ⟨#[]⟩)), kM 5 4, kG 6 5 (.mv (.t 0)), kG 7 5 (.bin .eql 9 (.t 6) (.s ⟨#[46]⟩)),
 kO 8 (.pk (.t 5) (.b true) (.t 7)), kM 9 8, kG 10 9 (.mv (.t 0)), kG 11 9 (.bin .eql 9 (.t 10) (.s ⟨#[46, 46]⟩)),
 kO 12 (.pk (.t 9) (.b true) (.t 11)), kM 13 12, kG 14 13 (.mv (.t 0)), kG 15 13 (.call (.fn 128) [.t 14, .fn 129]),
 kO 16 (.pk (.t 13) (.b true) (.t 15)), kM 2 16])
 (.ret))
theorem b99 : Body Tryd.prog 99 17 [2] k99 := ⟨Enters.of Tryd.func99 (by kernel_rfl) (by kernel_rfl), _, _, Tryd.func99, rfl, by kernel_rfl, rfl, rfl⟩

/-- cartridge/frame.room -/
def k110 : KC :=
 .seq (.reg [kO 2 (.mv (kI 0))])
 (.seq (.seq (.reg [kM 3 0, kO 4 (.bin .eql 3 (.t 3) (kI 6))])
 (.cond (.t 4) (.seq (.reg [kO 2 (.mv (kI 79))])
 (.ret))
 (.skip)))
 (.seq (.reg [kO 2 (.mv (kI 64))])
 (.ret)))
theorem b110 : Body Tryd.prog 110 5 [2] k110 := ⟨Enters.of Tryd.func110 (by kernel_rfl) (by kernel_rfl), _, _, Tryd.func110, rfl, by kernel_rfl, rfl, rfl⟩

/-- cartridge/code.NewReader -/
def k111 : KC :=
 .seq (.reg [kO 2 (.mv (.np))])
 (.seq (.reg [kM 3 0, kO 4 (.call (.fn 66) [.t 3]), kO 5 (.bld 215 [(0, .t 4)]), kO 6 (.box 215 (.t 5)), kM 2 6])
 (.ret))
theorem b111 : Body Tryd.prog 111 7 [2] k111 := ⟨Enters.of Tryd.func111 (by kernel_rfl) (by kernel_rfl), _, _, Tryd.func111, rfl, by kernel_rfl, rfl, rfl⟩

/-- (*cartridge/code.Reader).Byte -/
def k112 : KC :=
 .seq (.reg [kO 2 (.mv (.i .u8 0))])
 (.seq (.reg [kM 4 0, kO 5 (.call (.fn 146) [.t 4, .i .i64 1]), kM 3 5])
 (.seq (.seq (.reg [kM 6 3, kO 7 (.bi .len [24] [.t 6]), kO 8 (.bin .eql 3 (.t 7) (kI 0))])
 (.cond (.t 8) (.seq (.reg [kO 2 (.mv (.i .u8 0))])
 (.ret))
 (.skip)))
 (.seq (.reg [kM 9 3, kO 10 (.ia 24 (.t 9) (kI 0)), kO 11 (.ld 5 (.t 10)), kM 2 11])
 (.ret))))
theorem b112 : Body Tryd.prog 112 12 [2] k112 := ⟨Enters.of Tryd.func112 (by kernel_rfl) (by kernel_rfl), _, _, Tryd.func112, rfl, by kernel_rfl, rfl, rfl⟩

/-- (*cartridge/code.Reader).Int -/
def k113 : KC :=
 .seq (.reg [kO 2 (.mv (kI 0))])
 (.seq (.reg [kO 3 (.mv (.i .u32 0))])
 (.seq (.seq (.reg [kM 6 0, kO 7 (.call (.fn 146) [.t 6, .i .i64 4]), kO 8 (.bi .len [24] [.t 7]), kO 9 (.mv (kI 0))])
 (.block 0 (.loop (.seq (.reg [kO 10 (.bin .lss 3 (.t 9) (.t 8))])
 (.seq (.cond (.t 10) (.skip)
 (.exit 0))
 (.seq (.block 1 (.seq (.reg [kO 11 (.ia 24 (.t 7) (.t 9)), kO 12 (.ld 5 (.t 11)), kM 5 12])
 (.reg [kM 13 3, kO 14 (.bin .shl 106 (.t 13) (.i .u64 8)), kM 15 5, kO 16 (.cvt 5 106 (.t 15)), kO 17 (.bin .or 106 (.t 14) (.t 16)), kM 3 17])))
 (.reg [kO 18 (.bin .add 3 (.t 9) (kI 1)), kM 9 18])))))))
 (.seq (.reg [kM 19 3, kO 20 (.cvt 106 3 (.t 19)), kM 2 20])
 (.ret))))
theorem b113 : Body Tryd.prog 113 21 [2] k113 := ⟨Enters.of Tryd.func113 (by kernel_rfl) (by kernel_rfl), _, _, Tryd.func113, rfl, by kernel_rfl, rfl, rfl⟩

/-- (*cartridge/code.Reader).Raw -/
def k114 : KC :=
 .seq (.reg [kO 4 (.mv (.ns))])
 (.seq (.reg [kM 5 0, kM 6 1, kO 7 (.bi .max [3, 3] [.i .i64 0, .t 6]), kO 8 (.call (.fn 146) [.t 5, .t 7]), kO 9 (.call (.fn 66) [.t 8]), kM 4 9])
 (.ret))
theorem b114 : Body Tryd.prog 114 10 [4] k114 := ⟨Enters.of Tryd.func114 (by kernel_rfl) (by kernel_rfl), _, _, Tryd.func114, rfl, by kernel_rfl, rfl, rfl⟩

/-- (*cartridge/code.Reader).Bad -/
def k115 : KC :=
 .seq (.reg [kO 2 (.mv (.b false))])
 (.seq (.reg [kM 3 0, kO 4 (.bin .neq 184 (.t 3) (.np)), kM 5 4, kT 6 5 (.mv (.t 0)), kT 7 5 (.nc (.t 6)), kT 8 5 (.fa 215 (.t 7) 1), kT 9 5 (.ld 4 (.t 8)),
 kO 10 (.pk (.t 5) (.t 9) (.b false)), kM 2 10])
 (.ret))
theorem b115 : Body Tryd.prog 115 11 [2] k115 := ⟨Enters.of Tryd.func115 (by kernel_rfl) (by kernel_rfl), _, _, Tryd.func115, rfl, by kernel_rfl, rfl, rfl⟩

/-- slices.Equal[[]byte,byte] -/
noncomputable def drw116_0 : Array Oper := ((Tryd.f116.body.map regs).getD []).getD 0 #[]
noncomputable def k116 : KC :=
 .seq (.reg [kO 4 (.mv (.b false))])
 (.seq (.seq (.reg [kM 6 0, kO 7 (.bi .len [24] [.t 6]), kM 8 1, kO 9 (.bi .len [24] [.t 8]), kO 10 (.bin .neq 3 (.t 7) (.t 9))])
 (.cond (.t 10) (.seq (.reg [kO 4 (.mv (.b false))])
 (.ret))
 (.skip)))
 (.seq (.seq (.reg [kM 11 0, kO 12 (.bi .len [24] [.t 11]), kO 13 (.mv (kI 0))])
 (.block 0 (.loop (.seq (.reg [kO 14 (.bin .lss 3 (.t 13) (.t 12))])
 (.seq (.cond (.t 14) (.skip)
 (.exit 0))
 (.seq (.block 1 (.seq (.reg [kM 15 13, kM 5 15])
 (.seq (.drw drw116_0 [kM 16 0, kM 17 5, kO 18 (.ia 24 (.t 16) (.t 17)), kO 19 (.ld 5 (.t 18)), kM 20 1, kM 21 5, kO 22 (.ia 24 (.t 20) (.t 21)), kO 23 (.ld 5 (.t 22)),
 kO 24 (.bin .neq 5 (.t 19) (.t 23))])
 (.cond (.t 24) (.seq (.reg [kO 4 (.mv (.b false))])
 (.ret))
 (.skip)))))
 (.reg [kO 25 (.bin .add 3 (.t 13) (kI 1)), kM 13 25])))))))
 (.seq (.reg [kO 4 (.mv (.b true))])
 (.ret))))
theorem b116 : Body Tryd.prog 116 26 [4] k116 := ⟨Enters.of Tryd.func116 (by kernel_rfl) (by kernel_rfl), _, _, Tryd.func116, rfl, by kernel_rfl, rfl, rfl⟩

/-- cartridge/span.Fits -/
def k118 : KC :=
 .seq (.reg [kO 2 (.mv (kI 0))])
 (.seq (.reg [kM 3 0, kO 4 (.bi .min [3, 3] [.t 3, .i .i64 1099511627776]), kO 5 (.bi .max [3, 3] [.i .i64 2, .t 4]), kO 6 (.bin .sub 3 (.t 5) (kI 2)),
 kO 7 (.bin .mul 3 (kI 64) (.t 6)), kM 2 7])
 (.ret))
theorem b118 : Body Tryd.prog 118 8 [2] k118 := ⟨Enters.of Tryd.func118 (by kernel_rfl) (by kernel_rfl), _, _, Tryd.func118, rfl, by kernel_rfl, rfl, rfl⟩

/-- cartridge/castagnoli.More -/
def k119 : KC :=
 .seq (.reg [kO 4 (.mv (.i .u32 0))])
 (.seq (.reg [kM 8 0, kO 9 (.bin .xor 106 (.t 8) (.i .u32 4294967295)), kM 5 9])
 (.seq (.seq (.reg [kM 10 1, kO 11 (.bi .len [24] [.t 10]), kO 12 (.mv (kI 0))])
 (.block 0 (.loop (.seq (.reg [kO 13 (.bin .lss 3 (.t 12) (.t 11))])
 (.seq (.cond (.t 13) (.skip)
 (.exit 0))
 (.seq (.block 1 (.seq (.reg [kO 14 (.ia 24 (.t 10) (.t 12)), kO 15 (.ld 5 (.t 14)), kM 7 15])
 (.seq (.reg [kM 16 5, kM 17 7, kO 18 (.cvt 5 106 (.t 17)), kO 19 (.bin .xor 106 (.t 16) (.t 18)), kM 5 19])
 (.seq (.reg [kO 20 (.mv (kI 0))])
 (.block 2 (.loop (.seq (.reg [kO 21 (.bin .lss 3 (.t 20) (kI 8))])
 (.seq (.cond (.t 21) (.skip)
 (.exit 2))
 (.seq (.block 3 (.seq (.reg [kM 22 5, kO 23 (.bin .and 106 (.t 22) (.i .u32 1)), kO 24 (.bin .eql 106 (.t 23) (.i .u32 1))])
 (.cond (.t 24) (.reg [kM 25 5, kO 26 (.bin .shr 106 (.t 25) (.i .u64 1)), kO 27 (.bin .xor 106 (.t 26) (.i .u32 2197175160)), kM 5 27])
 (.reg [kM 28 5, kO 29 (.bin .shr 106 (.t 28) (.i .u64 1)), kM 5 29]))))
 (.reg [kO 30 (.bin .add 3 (.t 20) (kI 1)), kM 20 30]))))))))))
 (.reg [kO 31 (.bin .add 3 (.t 12) (kI 1)), kM 12 31])))))))
 (.seq (.reg [kM 32 5, kO 33 (.bin .xor 106 (.t 32) (.i .u32 4294967295)), kM 4 33])
 (.ret))))
theorem b119 : Body Tryd.prog 119 34 [4] k119 := ⟨Enters.of Tryd.func119 (by kernel_rfl) (by kernel_rfl), _, _, Tryd.func119, rfl, by kernel_rfl, rfl, rfl⟩

/-- cartridge/tape.Clone -/
noncomputable def drw120_0 : Array Oper := ((Tryd.f120.body.map regs).getD []).getD 0 #[]
noncomputable def k120 : KC :=
 .seq (.reg [kO 1 (.box 38 (.t 0)), kO 2 (.al 38)])
 (.seq (.reg [kO 5 (.fa 38 (.t 1) 2), kO 6 (.ld 26 (.t 5)), kO 7 (.call (.fn 147) [.t 6]), kO 8 (.fa 38 (.t 1) 2), kN (.st 26 (.t 8) (.t 7))])
 (.seq (.seq (.reg [kO 9 (.fa 38 (.t 1) 2), kO 10 (.ld 26 (.t 9)), kO 11 (.bi .len [26] [.t 10]), kO 12 (.mv (kI 0))])
 (.block 0 (.loop (.seq (.reg [kO 13 (.bin .lss 3 (.t 12) (.t 11))])
 (.seq (.cond (.t 13) (.skip)
 (.exit 0))
 (.seq (.block 1 (.seq (.reg [kM 14 12, kO 15 (.ia 26 (.t 10) (.t 12)), kO 16 (.ld 24 (.t 15)), kM 3 14, kM 4 16])
 (.drw drw120_0 [kO 17 (.fa 38 (.t 1) 2), kO 18 (.ld 26 (.t 17)), kM 19 3, kM 20 4, kO 21 (.call (.fn 66) [.t 20]), kO 22 (.ia 26 (.t 18) (.t 19)),
 kN (.st 24 (.t 22) (.t 21))])))
 (.reg [kO 23 (.bin .add 3 (.t 12) (kI 1)), kM 12 23])))))))
 (.seq (.reg [kO 24 (.ld 38 (.t 1)), kN (.st 38 (.t 2) (.t 24))])
 (.ret))))

/-- cartridge/tape.Load -/
def k121 : KC :=
 .seq (.reg [kO 1 (.box 38 (.t 0)), kO 2 (.mv (.np)), kO 3 (.mv (kI 0))])
 (.seq (.block 0 (.seq (.reg [kO 5 (.fa 38 (.t 1) 0), kO 6 (.ld 3 (.t 5)), kO 7 (.bin .lss 3 (.t 6) (kI 1)), kM 8 7, kG 9 8 (.fa 38 (.t 1) 1), kG 10 8 (.ld 3 (.t 9)),
 kG 11 8 (.bin .lss 3 (.t 10) (kI 0)), kO 12 (.pk (.t 8) (.b true) (.t 11)), kM 13 12, kG 14 13 (.fa 38 (.t 1) 1), kG 15 13 (.ld 3 (.t 14)),
 kG 16 13 (.bin .gtr 3 (.t 15) (kI 64)), kO 17 (.pk (.t 13) (.b true) (.t 16)), kM 18 17, kG 19 18 (.fa 38 (.t 1) 2), kG 20 18 (.ld 26 (.t 19)),
 kG 21 18 (.bi .len [26] [.t 20]), kG 22 18 (.fa 38 (.t 1) 1), kG 23 18 (.ld 3 (.t 22)), kG 24 18 (.bin .gtr 3 (.t 21) (.t 23)),
 kO 25 (.pk (.t 18) (.b true) (.t 24)), kM 26 25, kG 27 26 (.fa 38 (.t 1) 2), kG 28 26 (.ld 26 (.t 27)), kG 29 26 (.call (.fn 148) [.t 28, .fn 149]),
 kO 30 (.pk (.t 26) (.b true) (.t 29)), kM 4 30])
 (.cond (.t 4) (.seq (.reg [kO 2 (.mv (.np)), kO 3 (.mv (kI 1))])
 (.ret))
 (.seq (.reg [kO 32 (.fa 38 (.t 1) 3), kO 33 (.ld 4 (.t 32)), kM 31 33])
 (.cond (.t 31) (.seq (.reg [kO 2 (.mv (.np)), kO 3 (.mv (kI 9))])
 (.ret))
 (.skip))))))
 (.seq (.reg [kO 34 (.ld 38 (.t 1)), kO 35 (.call (.fn 120) [.t 34]), kO 36 (.bld 220 [(0, .t 35)]), kO 37 (.box 220 (.t 36)), kM 2 37, kO 3 (.mv (kI 0))])
 (.ret)))
theorem b121 : Body Tryd.prog 121 38 [2, 3] k121 := ⟨Enters.of Tryd.func121 (by kernel_rfl) (by kernel_rfl), _, _, Tryd.func121, rfl, by kernel_rfl, rfl, rfl⟩

/-- (*cartridge/tape.Drive).Append -/
noncomputable def drw122_0 : Array Oper := ((Tryd.f122.body.map regs).getD []).getD 0 #[]
noncomputable def k122 : KC :=
 .seq (.reg [kO 4 (.mv (kI 0))])
 (.seq (.block 0 (.seq (.reg [kM 6 0, kO 7 (.bin .eql 191 (.t 6) (.np)), kM 5 7])
 (.cond (.t 5) (.seq (.reg [kO 4 (.mv (kI 5))])
 (.ret))
 (.seq (.reg [kM 9 1, kO 10 (.call (.fn 149) [.t 9]), kM 8 10])
 (.cond (.t 8) (.seq (.reg [kO 4 (.mv (kI 1))])
 (.ret))
 (.seq (.reg [kM 12 0, kO 13 (.call (.fn 150) [.t 12]), kO 14 (.bin .eql 3 (.t 13) (kI 0)), kM 11 14])
 (.cond (.t 11) (.seq (.reg [kO 4 (.mv (kI 6))])
 (.ret))
 (.skip))))))))
 (.seq (.drw drw122_0 [kM 15 0, kM 16 0, kO 17 (.nc (.t 16)), kO 18 (.fa 220 (.t 17) 0), kO 19 (.fa 38 (.t 18) 2), kO 20 (.ld 26 (.t 19)), kM 21 1,
 kO 22 (.call (.fn 66) [.t 21]), kO 23 (.bsl 26 1 [(0, .t 22)]), kO 24 (.bi .append [26, 26] [.t 20, .t 23]), kO 25 (.nc (.t 15)),
 kO 26 (.fa 220 (.t 25) 0), kO 27 (.fa 38 (.t 26) 2), kN (.st 26 (.t 27) (.t 24))])
 (.seq (.reg [kO 4 (.mv (kI 0))])
 (.ret))))
theorem b122 : Body Tryd.prog 122 28 [4] k122 := ⟨Enters.of Tryd.func122 (by kernel_rfl) (by kernel_rfl), _, _, Tryd.func122, rfl, by kernel_rfl, rfl, rfl⟩

/-- (*cartridge/tape.Drive).Tape -/
def k123 : KC :=
 .seq (.reg [kO 2 (.al 38)])
 (.seq (.seq (.reg [kM 3 0, kO 4 (.bin .eql 191 (.t 3) (.np))])
 (.cond (.t 4) (.seq (.reg [kO 5 (.bld 38 []), kN (.st 38 (.t 2) (.t 5))])
 (.ret))
 (.skip)))
 (.seq (.reg [kM 6 0, kO 7 (.nc (.t 6)), kO 8 (.fa 220 (.t 7) 0), kO 9 (.ld 38 (.t 8)), kO 10 (.call (.fn 120) [.t 9]), kN (.st 38 (.t 2) (.t 10))])
 (.ret)))

/-- slices.Contains[[]int,int] -/
def k124 : KC :=
 .seq (.reg [kO 4 (.mv (.b false))])
 (.seq (.reg [kM 5 0, kM 6 1, kO 7 (.call (.fn 151) [.t 5, .t 6]), kO 8 (.bin .geq 3 (.t 7) (kI 0)), kM 4 8])
 (.ret))
theorem b124 : Body Tryd.prog 124 9 [4] k124 := ⟨Enters.of Tryd.func124 (by kernel_rfl) (by kernel_rfl), _, _, Tryd.func124, rfl, by kernel_rfl, rfl, rfl⟩

/-- slices.Clone[[]int,int] -/
def k125 : KC :=
 .seq (.reg [kO 2 (.mv (.ns))])
 (.seq (.seq (.reg [kM 3 0, kO 4 (.bin .eql 36 (.t 3) (.ns))])
 (.cond (.t 4) (.seq (.reg [kO 2 (.mv (.ns))])
 (.ret))
 (.skip)))
 (.seq (.reg [kO 5 (.bsl 36 0 []), kM 6 0, kO 7 (.bi .append [36, 36] [.t 5, .t 6]), kM 2 7])
 (.ret)))
theorem b125 : Body Tryd.prog 125 8 [2] k125 := ⟨Enters.of Tryd.func125 (by kernel_rfl) (by kernel_rfl), _, _, Tryd.func125, rfl, by kernel_rfl, rfl, rfl⟩

/-- slices.IndexFunc[[]string,string] -/
def k126 : KC :=
 .seq (.reg [kO 4 (.mv (kI 0))])
 (.seq (.seq (.reg [kM 6 0, kO 7 (.bi .len [80] [.t 6]), kO 8 (.mv (kI 0))])
 (.block 0 (.loop (.seq (.reg [kO 9 (.bin .lss 3 (.t 8) (.t 7))])
 (.seq (.cond (.t 9) (.skip)
 (.exit 0))
 (.seq (.block 1 (.seq (.reg [kM 10 8, kM 5 10])
 (.seq (.reg [kM 11 1, kM 12 0, kM 13 5, kO 14 (.ia 80 (.t 12) (.t 13)), kO 15 (.ld 9 (.t 14)), kO 16 (.call (.t 11) [.t 15])])
 (.cond (.t 16) (.seq (.reg [kM 17 5, kM 4 17])
 (.ret))
 (.skip)))))
 (.reg [kO 18 (.bin .add 3 (.t 8) (kI 1)), kM 8 18])))))))
 (.seq (.reg [kO 4 (.mv (kI (-1)))])
 (.ret)))
theorem b126 : Body Tryd.prog 126 19 [4] k126 := ⟨Enters.of Tryd.func126 (by kernel_rfl) (by kernel_rfl), _, _, Tryd.func126, rfl, by kernel_rfl, rfl, rfl⟩

/-- strings.genSplit -/
def k127 : KC :=
 .seq (.reg [kO 8 (.mv (.ns))])
 (.seq (.seq (.reg [kM 12 3, kO 13 (.bin .eql 3 (.t 12) (kI 0))])
 (.cond (.t 13) (.seq (.reg [kO 8 (.mv (.ns))])
 (.ret))
 (.skip)))
 (.seq (.seq (.reg [kM 14 1, kO 15 (.bin .eql 9 (.t 14) (.s ⟨#[]⟩))])
 (.cond (.t 15) (.seq (.reg [kM 16 0, kM 17 3, kO 18 (.call (.fn 152) [.t 16, .t 17]), kM 8 18])
 (.ret))
 (.skip)))
 (.seq (.seq (.reg [kM 19 3, kO 20 (.bin .lss 3 (.t 19) (kI 0))])
 (.cond (.t 20) (.reg [kM 21 0, kM 22 1, kO 23 (.call (.fn 153) [.t 21, .t 22]), kO 24 (.bin .add 3 (.t 23) (kI 1)), kM 3 24])
 (.skip)))
 (.seq (.reg [kM 25 3, kM 26 0, kO 27 (.bi .len [9] [.t 26]), kO 28 (.bin .add 3 (.t 27) (kI 1)), kO 29 (.bi .min [3, 3] [.t 25, .t 28]), kM 3 29])
 (.seq (.reg [kM 30 3, kO 31 (.mk 80 (.t 30) (.t 30)), kM 9 31])
 (.seq (.reg [kM 32 3, kO 33 (.bin .sub 3 (.t 32) (kI 1)), kM 3 33])
 (.seq (.reg [kO 10 (.mv (kI 0))])
 (.seq (.block 0 (.loop (.seq (.seq (.reg [kM 34 10, kM 35 3, kO 36 (.bin .lss 3 (.t 34) (.t 35))])
 (.cond (.t 36) (.skip)
 (.exit 0)))
 (.block 1 (.seq (.reg [kM 37 0, kM 38 1, kO 39 (.call (.fn 154) [.t 37, .t 38]), kM 11 39])
 (.seq (.seq (.reg [kM 40 11, kO 41 (.bin .lss 3 (.t 40) (kI 0))])
 (.cond (.t 41) (.exit 0)
 (.skip)))
 (.seq (.reg [kM 42 9, kM 43 10, kM 44 0, kM 45 11, kM 46 2, kO 47 (.bin .add 3 (.t 45) (.t 46)), kO 48 (.sli 9 (.t 44) none (some (.t 47)) none),
 kO 49 (.ia 80 (.t 42) (.t 43)), kN (.st 9 (.t 49) (.t 48))])
 (.seq (.reg [kM 50 0, kM 51 11, kM 52 1, kO 53 (.bi .len [9] [.t 52]), kO 54 (.bin .add 3 (.t 51) (.t 53)), kO 55 (.sli 9 (.t 50) (some (.t 54)) none none),
 kM 0 55])
 (.reg [kM 56 10, kO 57 (.bin .add 3 (.t 56) (kI 1)), kM 10 57])))))))))
 (.seq (.reg [kM 58 9, kM 59 10, kM 60 0, kO 61 (.ia 80 (.t 58) (.t 59)), kN (.st 9 (.t 61) (.t 60))])
 (.seq (.reg [kM 62 9, kM 63 10, kO 64 (.bin .add 3 (.t 63) (kI 1)), kO 65 (.sli 80 (.t 62) none (some (.t 64)) none), kM 8 65])
 (.ret)))))))))))
theorem b127 : Body Tryd.prog 127 66 [8] k127 := ⟨Enters.of Tryd.func127 (by kernel_rfl) (by kernel_rfl), _, _, Tryd.func127, rfl, by kernel_rfl, rfl, rfl⟩

/-- strings.ContainsFunc -/
def k128 : KC :=
 .seq (.reg [kO 4 (.mv (.b false))])
 (.seq (.reg [kM 5 0, kM 6 1, kO 7 (.call (.fn 155) [.t 5, .t 6]), kO 8 (.bin .geq 3 (.t 7) (kI 0)), kM 4 8])
 (.ret))
theorem b128 : Body Tryd.prog 128 9 [4] k128 := ⟨Enters.of Tryd.func128 (by kernel_rfl) (by kernel_rfl), _, _, Tryd.func128, rfl, by kernel_rfl, rfl, rfl⟩

/-- cartridge/path.other -/
def k129 : KC :=
 .seq (.reg [kO 2 (.mv (.b false))])
 (.seq (.reg [kM 3 0, kO 4 (.bin .lss 21 (.t 3) (.i .i32 97)), kM 5 4, kG 6 5 (.mv (.t 0)), kG 7 5 (.bin .gtr 21 (.t 6) (.i .i32 122)),
 kO 8 (.pk (.t 5) (.b true) (.t 7)), kM 9 8, kT 10 9 (.mv (.t 0)), kT 11 9 (.bin .lss 21 (.t 10) (.i .i32 48)), kT 12 9 (.mv (.t 11)),
 kG 13 12 (.mv (.t 0)), kG 14 12 (.bin .gtr 21 (.t 13) (.i .i32 57)), kT 15 9 (.pk (.t 12) (.b true) (.t 14)), kO 16 (.pk (.t 9) (.t 15) (.b false)),
 kM 17 16, kT 18 17 (.mv (.t 0)), kT 19 17 (.bin .neq 21 (.t 18) (.i .i32 46)), kO 20 (.pk (.t 17) (.t 19) (.b false)), kM 21 20,
 kT 22 21 (.mv (.t 0)), kT 23 21 (.bin .neq 21 (.t 22) (.i .i32 45)), kO 24 (.pk (.t 21) (.t 23) (.b false)), kM 25 24, kT 26 25 (.mv (.t 0)),
 kT 27 25 (.bin .neq 21 (.t 26) (.i .i32 95)), kO 28 (.pk (.t 25) (.t 27) (.b false)), kM 2 28])
 (.ret))
theorem b129 : Body Tryd.prog 129 29 [2] k129 := ⟨Enters.of Tryd.func129 (by kernel_rfl) (by kernel_rfl), _, _, Tryd.func129, rfl, by kernel_rfl, rfl, rfl⟩

/-- (*cartridge/code.Reader).take -/
def k146 : KC :=
 .seq (.reg [kO 4 (.mv (.ns))])
 (.seq (.seq (.reg [kM 6 0, kO 7 (.bin .eql 184 (.t 6) (.np)), kM 8 7, kG 9 8 (.mv (.t 0)), kG 10 8 (.nc (.t 9)), kG 11 8 (.fa 215 (.t 10) 1), kG 12 8 (.ld 4 (.t 11)),
 kO 13 (.pk (.t 8) (.b true) (.t 12))])
 (.cond (.t 13) (.seq (.reg [kO 4 (.mv (.ns))])
 (.ret))
 (.skip)))
 (.seq (.seq (.reg [kM 14 1, kM 15 0, kO 16 (.nc (.t 15)), kO 17 (.fa 215 (.t 16) 0), kO 18 (.ld 24 (.t 17)), kO 19 (.bi .len [24] [.t 18]),
 kO 20 (.bin .gtr 3 (.t 14) (.t 19))])
 (.cond (.t 20) (.seq (.reg [kM 21 0, kM 22 0, kO 23 (.nc (.t 21)), kO 24 (.fa 215 (.t 23) 0), kN (.st 24 (.t 24) (.ns)), kO 25 (.nc (.t 22)), kO 26 (.fa 215 (.t 25) 1),
 kN (.st 4 (.t 26) (.b true))])
 (.seq (.reg [kO 4 (.mv (.ns))])
 (.ret)))
 (.skip)))
 (.seq (.reg [kM 27 0, kO 28 (.nc (.t 27)), kO 29 (.fa 215 (.t 28) 0), kO 30 (.ld 24 (.t 29)), kM 31 1, kO 32 (.sli 24 (.t 30) none (some (.t 31)) none), kM 5 32])
 (.seq (.reg [kM 33 0, kM 34 0, kO 35 (.nc (.t 34)), kO 36 (.fa 215 (.t 35) 0), kO 37 (.ld 24 (.t 36)), kM 38 1, kO 39 (.sli 24 (.t 37) (some (.t 38)) none none),
 kO 40 (.nc (.t 33)), kO 41 (.fa 215 (.t 40) 0), kN (.st 24 (.t 41) (.t 39))])
 (.seq (.reg [kM 42 5, kM 4 42])
 (.ret))))))
theorem b146 : Body Tryd.prog 146 43 [4] k146 := ⟨Enters.of Tryd.func146 (by kernel_rfl) (by kernel_rfl), _, _, Tryd.func146, rfl, by kernel_rfl, rfl, rfl⟩

/-- slices.Clone[[][]byte,[]byte] -/
def k147 : KC :=
 .seq (.reg [kO 2 (.mv (.ns))])
 (.seq (.seq (.reg [kM 3 0, kO 4 (.bin .eql 26 (.t 3) (.ns))])
 (.cond (.t 4) (.seq (.reg [kO 2 (.mv (.ns))])
 (.ret))
 (.skip)))
 (.seq (.reg [kO 5 (.bsl 26 0 []), kM 6 0, kO 7 (.bi .append [26, 26] [.t 5, .t 6]), kM 2 7])
 (.ret)))
theorem b147 : Body Tryd.prog 147 8 [2] k147 := ⟨Enters.of Tryd.func147 (by kernel_rfl) (by kernel_rfl), _, _, Tryd.func147, rfl, by kernel_rfl, rfl, rfl⟩

/-- slices.ContainsFunc[[][]byte,[]byte] -/
def k148 : KC :=
 .seq (.reg [kO 4 (.mv (.b false))])
 (.seq (.reg [kM 5 0, kM 6 1, kO 7 (.call (.fn 164) [.t 5, .t 6]), kO 8 (.bin .geq 3 (.t 7) (kI 0)), kM 4 8])
 (.ret))
theorem b148 : Body Tryd.prog 148 9 [4] k148 := ⟨Enters.of Tryd.func148 (by kernel_rfl) (by kernel_rfl), _, _, Tryd.func148, rfl, by kernel_rfl, rfl, rfl⟩

/-- cartridge/tape.wrong -/
def k149 : KC :=
 .seq (.reg [kO 2 (.mv (.b false))])
 (.seq (.reg [kM 3 0, kO 4 (.bi .len [24] [.t 3]), kO 5 (.bin .eql 3 (.t 4) (kI 0)), kM 6 5, kG 7 6 (.mv (.t 0)), kG 8 6 (.bi .len [24] [.t 7]),
 kG 9 6 (.bin .gtr 3 (.t 8) (kI 94)), kO 10 (.pk (.t 6) (.b true) (.t 9)), kM 2 10])
 (.ret))
theorem b149 : Body Tryd.prog 149 11 [2] k149 := ⟨Enters.of Tryd.func149 (by kernel_rfl) (by kernel_rfl), _, _, Tryd.func149, rfl, by kernel_rfl, rfl, rfl⟩

/-- (*cartridge/tape.Drive).Room -/
noncomputable def drw150_0 : Array Oper := ((Tryd.f150.body.map regs).getD []).getD 0 #[]
noncomputable def k150 : KC :=
 .seq (.reg [kO 2 (.mv (kI 0))])
 (.seq (.seq (.reg [kM 3 0, kO 4 (.bin .eql 191 (.t 3) (.np))])
 (.cond (.t 4) (.seq (.reg [kO 2 (.mv (kI 0))])
 (.ret))
 (.skip)))
 (.seq (.drw drw150_0 [kM 5 0, kO 6 (.nc (.t 5)), kO 7 (.fa 220 (.t 6) 0), kO 8 (.fa 38 (.t 7) 1), kO 9 (.ld 3 (.t 8)), kM 10 0, kO 11 (.nc (.t 10)),
 kO 12 (.fa 220 (.t 11) 0), kO 13 (.fa 38 (.t 12) 2), kO 14 (.ld 26 (.t 13)), kO 15 (.bi .len [26] [.t 14]), kO 16 (.bin .sub 3 (.t 9) (.t 15)),
 kM 2 16])
 (.ret)))
theorem b150 : Body Tryd.prog 150 17 [2] k150 := ⟨Enters.of Tryd.func150 (by kernel_rfl) (by kernel_rfl), _, _, Tryd.func150, rfl, by kernel_rfl, rfl, rfl⟩

/-- slices.Index[[]int,int] -/
def k151 : KC :=
 .seq (.reg [kO 4 (.mv (kI 0))])
 (.seq (.seq (.reg [kM 6 0, kO 7 (.bi .len [36] [.t 6]), kO 8 (.mv (kI 0))])
 (.block 0 (.loop (.seq (.reg [kO 9 (.bin .lss 3 (.t 8) (.t 7))])
 (.seq (.cond (.t 9) (.skip)
 (.exit 0))
 (.seq (.block 1 (.seq (.reg [kM 10 8, kM 5 10])
 (.seq (.reg [kM 11 1, kM 12 0, kM 13 5, kO 14 (.ia 36 (.t 12) (.t 13)), kO 15 (.ld 3 (.t 14)), kO 16 (.bin .eql 3 (.t 11) (.t 15))])
 (.cond (.t 16) (.seq (.reg [kM 17 5, kM 4 17])
 (.ret))
 (.skip)))))
 (.reg [kO 18 (.bin .add 3 (.t 8) (kI 1)), kM 8 18])))))))
 (.seq (.reg [kO 4 (.mv (kI (-1)))])
 (.ret)))
theorem b151 : Body Tryd.prog 151 19 [4] k151 := ⟨Enters.of Tryd.func151 (by kernel_rfl) (by kernel_rfl), _, _, Tryd.func151, rfl, by kernel_rfl, rfl, rfl⟩

/-- strings.Count -/
def k153 : KC :=
 .seq (.reg [kO 4 (.mv (kI 0))])
 (.seq (.seq (.reg [kM 7 1, kO 8 (.bi .len [9] [.t 7]), kO 9 (.bin .eql 3 (.t 8) (kI 0))])
 (.cond (.t 9) (.seq (.reg [kM 10 0, kO 11 (.call (.fn 165) [.t 10]), kO 12 (.bin .add 3 (.t 11) (kI 1)), kM 4 12])
 (.ret))
 (.skip)))
 (.seq (.seq (.reg [kM 13 1, kO 14 (.bi .len [9] [.t 13]), kO 15 (.bin .eql 3 (.t 14) (kI 1))])
 (.cond (.t 15) (.seq (.reg [kM 16 0, kM 17 1, kO 18 (.ix 9 (.t 17) (kI 0)), kO 19 (.call (.fn 167) [.t 16, .t 18]), kM 4 19])
 (.ret))
 (.skip)))
 (.seq (.reg [kO 5 (.mv (kI 0))])
 (.block 0 (.loop (.block 1 (.seq (.reg [kM 20 0, kM 21 1, kO 22 (.call (.fn 154) [.t 20, .t 21]), kM 6 22])
 (.seq (.seq (.reg [kM 23 6, kO 24 (.bin .eql 3 (.t 23) (kI (-1)))])
 (.cond (.t 24) (.seq (.reg [kM 25 5, kM 4 25])
 (.ret))
 (.skip)))
 (.seq (.reg [kM 26 5, kO 27 (.bin .add 3 (.t 26) (kI 1)), kM 5 27])
 (.reg [kM 28 0, kM 29 6, kM 30 1, kO 31 (.bi .len [9] [.t 30]), kO 32 (.bin .add 3 (.t 29) (.t 31)), kO 33 (.sli 9 (.t 28) (some (.t 32)) none none), kM 0 33]))))))))))
theorem b153 : Body Tryd.prog 153 34 [4] k153 := ⟨Enters.of Tryd.func153 (by kernel_rfl) (by kernel_rfl), _, _, Tryd.func153, rfl, by kernel_rfl, rfl, rfl⟩

/-- strings.Index -/
def k154 : KC :=
 .seq (.reg [kO 4 (.mv (kI 0))])
 (.seq (.reg [kM 5 0, kM 6 1, kO 7 (.call (.fn 168) [.t 5, .t 6]), kM 4 7])
 (.ret))
theorem b154 : Body Tryd.prog 154 8 [4] k154 := ⟨Enters.of Tryd.func154 (by kernel_rfl) (by kernel_rfl), _, _, Tryd.func154, rfl, by kernel_rfl, rfl, rfl⟩

/-- strings.IndexFunc -/
def k155 : KC :=
 .seq (.reg [kO 4 (.mv (kI 0))])
 (.seq (.reg [kM 5 0, kM 6 1, kO 7 (.call (.fn 169) [.t 5, .t 6, .b true]), kM 4 7])
 (.ret))
theorem b155 : Body Tryd.prog 155 8 [4] k155 := ⟨Enters.of Tryd.func155 (by kernel_rfl) (by kernel_rfl), _, _, Tryd.func155, rfl, by kernel_rfl, rfl, rfl⟩

/-- slices.IndexFunc[[][]byte,[]byte] -/
def k164 : KC :=
 .seq (.reg [kO 4 (.mv (kI 0))])
 (.seq (.seq (.reg [kM 6 0, kO 7 (.bi .len [26] [.t 6]), kO 8 (.mv (kI 0))])
 (.block 0 (.loop (.seq (.reg [kO 9 (.bin .lss 3 (.t 8) (.t 7))])
 (.seq (.cond (.t 9) (.skip)
 (.exit 0))
 (.seq (.block 1 (.seq (.reg [kM 10 8, kM 5 10])
 (.seq (.reg [kM 11 1, kM 12 0, kM 13 5, kO 14 (.ia 26 (.t 12) (.t 13)), kO 15 (.ld 24 (.t 14)), kO 16 (.call (.t 11) [.t 15])])
 (.cond (.t 16) (.seq (.reg [kM 17 5, kM 4 17])
 (.ret))
 (.skip)))))
 (.reg [kO 18 (.bin .add 3 (.t 8) (kI 1)), kM 8 18])))))))
 (.seq (.reg [kO 4 (.mv (kI (-1)))])
 (.ret)))
theorem b164 : Body Tryd.prog 164 19 [4] k164 := ⟨Enters.of Tryd.func164 (by kernel_rfl) (by kernel_rfl), _, _, Tryd.func164, rfl, by kernel_rfl, rfl, rfl⟩

/-- internal/stringslite.Index -/
def k168 : KC :=
 .seq (.reg [kO 4 (.mv (kI 0))])
 (.seq (.reg [kM 14 1, kO 15 (.bi .len [9] [.t 14]), kM 5 15])
 (.seq (.block 0 (.seq (.reg [kM 17 5, kO 18 (.bin .eql 3 (.t 17) (kI 0)), kM 19 18, kG 20 19 (.mv (.t 1)), kG 21 19 (.mv (.t 0)), kG 22 19 (.bin .eql 9 (.t 20) (.t 21)),
 kO 23 (.pk (.t 19) (.b true) (.t 22)), kM 16 23])
 (.cond (.t 16) (.seq (.reg [kO 4 (.mv (kI 0))])
 (.ret))
 (.seq (.reg [kM 25 5, kO 26 (.bin .eql 3 (.t 25) (kI 1)), kM 24 26])
 (.cond (.t 24) (.seq (.reg [kM 27 0, kM 28 1, kO 29 (.ix 9 (.t 28) (kI 0)), kO 30 (.call (.fn 173) [.t 27, .t 29]), kM 4 30])
 (.ret))
 (.seq (.reg [kM 32 5, kM 33 0, kO 34 (.bi .len [9] [.t 33]), kO 35 (.bin .geq 3 (.t 32) (.t 34)), kM 31 35])
 (.cond (.t 31) (.seq (.reg [kO 4 (.mv (kI (-1)))])
 (.ret))
 (.seq (.reg [kM 37 5, kO 38 (.ld 3 (.gl 0)), kO 39 (.bin .leq 3 (.t 37) (.t 38)), kM 40 39, kT 41 40 (.mv (.t 0)), kT 42 40 (.bi .len [9] [.t 41]),
 kT 43 40 (.bin .leq 3 (.t 42) (kI 64)), kO 44 (.pk (.t 40) (.t 43) (.b false)), kM 36 44])
 (.cond (.t 36) (.seq (.reg [kM 45 0, kM 46 1, kO 47 (.call (.fn 174) [.t 45, .t 46]), kM 4 47])
 (.ret))
 (.skip))))))))))
 (.seq (.reg [kM 48 1, kO 49 (.ix 9 (.t 48) (kI 0)), kM 6 49])
 (.seq (.reg [kM 50 1, kO 51 (.ix 9 (.t 50) (kI 1)), kM 7 51])
 (.seq (.reg [kO 8 (.mv (kI 0))])
 (.seq (.reg [kM 52 0, kO 53 (.bi .len [9] [.t 52]), kM 54 5, kO 55 (.bin .sub 3 (.t 53) (.t 54)), kO 56 (.bin .add 3 (.t 55) (kI 1)), kM 9 56])
 (.seq (.reg [kO 10 (.mv (kI 0))])
 (.seq (.block 1 (.loop (.seq (.seq (.reg [kM 57 8, kM 58 9, kO 59 (.bin .lss 3 (.t 57) (.t 58))])
 (.cond (.t 59) (.skip)
 (.exit 1)))
 (.block 2 (.seq (.seq (.reg [kM 60 0, kM 61 8, kO 62 (.ix 9 (.t 60) (.t 61)), kM 63 6, kO 64 (.bin .neq 5 (.t 62) (.t 63))])
 (.cond (.t 64) (.seq (.reg [kM 65 0, kM 66 8, kO 67 (.bin .add 3 (.t 66) (kI 1)), kM 68 9, kO 69 (.sli 9 (.t 65) (some (.t 67)) (some (.t 68)) none), kM 70 6,
 kO 71 (.call (.fn 173) [.t 69, .t 70]), kM 11 71])
 (.seq (.seq (.reg [kM 72 11, kO 73 (.bin .lss 3 (.t 72) (kI 0))])
 (.cond (.t 73) (.seq (.reg [kO 4 (.mv (kI (-1)))])
 (.ret))
 (.skip)))
 (.reg [kM 74 8, kM 75 11, kO 76 (.bin .add 3 (.t 75) (kI 1)), kO 77 (.bin .add 3 (.t 74) (.t 76)), kM 8 77])))
 (.skip)))
 (.seq (.seq (.reg [kM 78 0, kM 79 8, kO 80 (.bin .add 3 (.t 79) (kI 1)), kO 81 (.ix 9 (.t 78) (.t 80)), kM 82 7, kO 83 (.bin .eql 5 (.t 81) (.t 82)), kM 84 83,
 kT 85 84 (.mv (.t 0)), kT 86 84 (.mv (.t 8)), kT 87 84 (.mv (.t 8)), kT 88 84 (.mv (.t 5)), kT 89 84 (.bin .add 3 (.t 87) (.t 88)),
 kT 90 84 (.sli 9 (.t 85) (some (.t 86)) (some (.t 89)) none), kT 91 84 (.mv (.t 1)), kT 92 84 (.bin .eql 9 (.t 90) (.t 91)),
 kO 93 (.pk (.t 84) (.t 92) (.b false))])
 (.cond (.t 93) (.seq (.reg [kM 94 8, kM 4 94])
 (.ret))
 (.skip)))
 (.seq (.reg [kM 95 8, kO 96 (.bin .add 3 (.t 95) (kI 1)), kM 8 96])
 (.seq (.reg [kM 97 10, kO 98 (.bin .add 3 (.t 97) (kI 1)), kM 10 98])
 (.seq (.reg [kM 99 5, kO 100 (.ld 3 (.gl 0)), kO 101 (.bin .leq 3 (.t 99) (.t 100)), kM 102 101, kT 103 102 (.mv (.t 10)), kT 104 102 (.mv (.t 8)),
 kT 105 102 (.call (.fn 175) [.t 104]), kT 106 102 (.bin .gtr 3 (.t 103) (.t 105)), kO 107 (.pk (.t 102) (.t 106) (.b false))])
 (.cond (.t 107) (.seq (.reg [kM 108 0, kM 109 8, kO 110 (.sli 9 (.t 108) (some (.t 109)) none none), kM 111 1, kO 112 (.call (.fn 174) [.t 110, .t 111]), kM 12 112])
 (.seq (.seq (.reg [kM 113 12, kO 114 (.bin .geq 3 (.t 113) (kI 0))])
 (.cond (.t 114) (.seq (.reg [kM 115 12, kM 116 8, kO 117 (.bin .add 3 (.t 115) (.t 116)), kM 4 117])
 (.ret))
 (.skip)))
 (.seq (.reg [kO 4 (.mv (kI (-1)))])
 (.ret))))
 (.seq (.reg [kM 118 5, kO 119 (.ld 3 (.gl 0)), kO 120 (.bin .gtr 3 (.t 118) (.t 119)), kM 121 120, kT 122 121 (.mv (.t 10)), kT 123 121 (.mv (.t 8)),
 kT 124 121 (.bin .shr 3 (.t 123) (.i .u64 4)), kT 125 121 (.bin .add 3 (kI 4) (.t 124)), kT 126 121 (.bin .geq 3 (.t 122) (.t 125)),
 kO 127 (.pk (.t 121) (.t 126) (.b false)), kM 128 127, kT 129 128 (.mv (.t 8)), kT 130 128 (.mv (.t 9)), kT 131 128 (.bin .lss 3 (.t 129) (.t 130)),
 kO 132 (.pk (.t 128) (.t 131) (.b false))])
 (.cond (.t 132) (.seq (.reg [kM 133 0, kM 134 8, kO 135 (.sli 9 (.t 133) (some (.t 134)) none none), kM 136 1, kO 137 (.call (.fn 176) [.t 135, .t 136]), kM 13 137])
 (.seq (.seq (.reg [kM 138 13, kO 139 (.bin .lss 3 (.t 138) (kI 0))])
 (.cond (.t 139) (.seq (.reg [kO 4 (.mv (kI (-1)))])
 (.ret))
 (.skip)))
 (.seq (.reg [kM 140 8, kM 141 13, kO 142 (.bin .add 3 (.t 140) (.t 141)), kM 4 142])
 (.ret))))
 (.skip)))))))))))))
 (.seq (.reg [kO 4 (.mv (kI (-1)))])
 (.ret))))))))))
theorem b168 : Body Tryd.prog 168 143 [4] k168 := ⟨Enters.of Tryd.func168 (by kernel_rfl) (by kernel_rfl), _, _, Tryd.func168, rfl, by kernel_rfl, rfl, rfl⟩

/-- strings.indexFunc -/
def k169 : KC :=
 .seq (.reg [kO 6 (.mv (kI 0))])
 (.seq (.seq (.reg [kM 9 0, kO 10 (.unk)])
 (.block 0 (.loop (.seq (.reg [kO 11 (.unk), kO 12 (.ex (.t 11) 0)])
 (.seq (.cond (.t 12) (.skip)
 (.exit 0))
 (.block 1 (.seq (.reg [kO 13 (.ex (.t 11) 1), kO 14 (.ex (.t 11) 2), kM 7 13, kM 8 14])
 (.seq (.reg [kM 15 1, kM 16 8, kO 17 (.call (.t 15) [.t 16]), kM 18 2, kO 19 (.bin .eql 4 (.t 17) (.t 18))])
 (.cond (.t 19) (.seq (.reg [kM 20 7, kM 6 20])
 (.ret))
 (.skip))))))))))
 (.seq (.reg [kO 6 (.mv (kI (-1)))])
 (.ret)))
theorem b169 : Body Tryd.prog 169 21 [6] k169 := ⟨Enters.of Tryd.func169 (by kernel_rfl) (by kernel_rfl), _, _, Tryd.func169, rfl, by kernel_rfl, rfl, rfl⟩

/-- internal/stringslite.IndexByte -/
def k173 : KC :=
 .seq (.reg [kO 4 (.mv (kI 0))])
 (.seq (.reg [kM 5 0, kM 6 1, kO 7 (.call (.fn 177) [.t 5, .t 6]), kM 4 7])
 (.ret))
theorem b173 : Body Tryd.prog 173 8 [4] k173 := ⟨Enters.of Tryd.func173 (by kernel_rfl) (by kernel_rfl), _, _, Tryd.func173, rfl, by kernel_rfl, rfl, rfl⟩

end Go.Proofs.YtliahlgkinhjlaaDoor
