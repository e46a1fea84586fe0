import Derived.Test.YtfpldlnbhjmckaaGreatAmT
namespace Go.Proofs.YtfpldlnbhjmckaaGreat
open Go.AM
noncomputable def drw4_0:Array Oper:=((Tryz.f4.body.map regs).getD []).getD 0 #[]
noncomputable def k4:KC:=
 .seq (.reg [kO 4 (.mv (.b false))])
 (.seq (.reg [kO 13 (.call (.fn 5) []),kM 5 13])
 (.seq (.seq (.reg [kM 14 5,kO 15 (.un .not (.t 14)),kM 16 15,kG 17 16 (.mv (.t 0)),kG 18 16 (.call (.fn 6) [.t 17]),kG 19 16 (.un .not (.t 18)),
 kO 20 (.pk (.t 16) (.b true) (.t 19))])
 (.cond (.t 20) (.seq (.reg [kM 21 5,kM 4 21])
 (.ret))
 (.skip)))
 (.seq (.reg [kM 22 0,kO 23 (.call (.fn 11) [.t 22]),kM 6 23])
 (.seq (.reg [kM 24 0,kO 25 (.call (.fn 12) [.t 24]),kM 7 25])
 (.seq (.seq (.reg [kM 26 6,kO 27 (.bi .len [33] [.t 26]),kM 28 7,kO 29 (.bi .len [33] [.t 28]),kO 30 (.bin .neq 3 (.t 27) (.t 29))])
 (.cond (.t 30) (.seq (.reg [kO 4 (.mv (.b false))])
 (.ret))
 (.skip)))
 (.seq (.seq (.reg [kO 8 (.mv (kI 0))])
 (.block 0 (.loop (.seq (.seq (.reg [kM 31 8,kM 32 6,kO 33 (.bi .len [33] [.t 32]),kO 34 (.bin .lss 3 (.t 31) (.t 33))])
 (.cond (.t 34) (.skip)
 (.exit 0)))
 (.seq (.block 1 (.seq (.drw drw4_0 [kM 37 6,kM 38 8,kO 39 (.ia 33 (.t 37) (.t 38)),kO 40 (.ld 38 (.t 39)),kM 41 7,kM 42 8,kO 43 (.ia 33 (.t 41) (.t 42)),kO 44 (.ld 38 (.t 43)),
 kO 45 (.call (.fn 13) [.t 40,.t 44]),kO 46 (.un .not (.t 45))])
 (.cond (.t 46) (.seq (.reg [kO 4 (.mv (.b false))])
 (.ret))
 (.skip))))
 (.reg [kM 35 8,kO 36 (.bin .add 3 (.t 35) (kI 1)),kM 8 36]))))))
 (.seq (.reg [kM 48 7,kM 49 1,kO 50 (.call (.fn 14) [.t 48,.t 49]),kM 47 50,kO 51 (.ex (.t 47) 0),kO 52 (.ex (.t 47) 1),kO 9 (.al 38),
 kN (.st 38 (.t 9) (.t 51)),kM 10 52])
 (.seq (.reg [kM 54 7,kM 55 1,kO 56 (.call (.fn 15) [.t 54,.t 55]),kM 53 56,kO 57 (.ex (.t 53) 0),kO 58 (.ex (.t 53) 1),kO 11 (.al 38),
 kN (.st 38 (.t 11) (.t 57)),kM 12 58])
 (.seq (.reg [kM 59 10,kM 60 12,kO 61 (.bin .eql 4 (.t 59) (.t 60)),kM 62 61,kT 63 62 (.ld 38 (.t 9)),kT 64 62 (.ld 38 (.t 11)),
 kT 65 62 (.call (.fn 13) [.t 63,.t 64]),kO 66 (.pk (.t 62) (.t 65) (.b false)),kM 4 66])
 (.ret))))))))))
theorem b4:Body Tryz.prog 4 67 [4] k4:=⟨Enters.of Tryz.func4 (by kernel_rfl) (by kernel_rfl),_,_,Tryz.func4,rfl,by kernel_rfl,rfl,rfl⟩
def k5:KC:=
 .seq (.reg [kO 0 (.mv (.b false))])
 (.seq (.reg [kO 6 (.bsl 42 1 [(0,.i .u8 68)]),kO 7 (.cvt 42 42 (.t 6)),kO 8 (.bld 46 [(0,.i .i64 1),(1,.i .i64 1),(3,.t 7)]),
 kO 9 (.call (.fn 16) [.t 8]),kM 5 9,kO 10 (.ex (.t 5) 0),kO 11 (.ex (.t 5) 1),kM 1 10,kM 2 11])
 (.seq (.reg [kM 13 1,kO 14 (.bsl 47 1 [(0,.t 13)]),kO 15 (.bld 49 [(0,.i .i64 1),(1,.i .i64 4),(2,.t 14)]),kO 16 (.bsl 22 1 [(0,.t 15)]),
 kO 17 (.bld 49 [(0,.i .i64 2),(1,.i .i64 4)]),kO 18 (.bsl 22 1 [(0,.t 17)]),kO 19 (.call (.fn 7) [.t 16,.t 18,.i .i64 1]),kM 12 19,
 kO 20 (.ex (.t 12) 0),kO 21 (.ex (.t 12) 1),kM 3 20,kM 4 21])
 (.seq (.reg [kO 22 (.call (.fn 11) [.ns]),kO 23 (.bi .len [33] [.t 22]),kO 24 (.bin .eql 3 (.t 23) (kI 0)),kM 25 24,kT 26 25 (.mv (.t 4)),
 kT 27 25 (.call (.fn 10) [.t 26]),kT 28 25 (.bin .eql 3 (.t 27) (kI 0)),kO 29 (.pk (.t 25) (.t 28) (.b false)),kM 30 29,kT 31 30 (.mv (.t 3)),
 kT 32 30 (.bi .len [22] [.t 31]),kT 33 30 (.bin .eql 3 (.t 32) (kI 1)),kO 34 (.pk (.t 30) (.t 33) (.b false)),kM 35 34,kT 36 35 (.mv (.t 3)),
 kT 37 35 (.ia 22 (.t 36) (kI 0)),kT 38 35 (.fa 49 (.t 37) 2),kT 39 35 (.ld 47 (.t 38)),kT 40 35 (.bi .len [47] [.t 39]),
 kT 41 35 (.bin .eql 3 (.t 40) (kI 3)),kO 42 (.pk (.t 35) (.t 41) (.b false)),kM 43 42,kT 44 43 (.mv (.t 3)),kT 45 43 (.call (.fn 11) [.t 44]),
 kT 46 43 (.bi .len [33] [.t 45]),kT 47 43 (.bin .eql 3 (.t 46) (kI 1)),kO 48 (.pk (.t 43) (.t 47) (.b false)),kM 0 48])
 (.ret))))
theorem b5:Body Tryz.prog 5 49 [0] k5:=⟨Enters.of Tryz.func5 (by kernel_rfl) (by kernel_rfl),_,_,Tryz.func5,rfl,by kernel_rfl,rfl,rfl⟩
def k6:KC:=
 .seq (.reg [kO 2 (.mv (.b false))])
 (.seq (.reg [kO 3 (.mv (kI 0))])
 (.seq (.seq (.reg [kO 4 (.mv (kI 0))])
 (.block 0 (.loop (.seq (.seq (.reg [kM 5 4,kM 6 0,kO 7 (.bi .len [22] [.t 6]),kO 8 (.bin .lss 3 (.t 5) (.t 7)),kM 9 8,kT 10 9 (.mv (.t 4)),kT 11 9 (.bin .lss 3 (.t 10) (kI 20)),
 kO 12 (.pk (.t 9) (.t 11) (.b false))])
 (.cond (.t 12) (.skip)
 (.exit 0)))
 (.seq (.block 1 (.seq (.seq (.reg [kM 15 0,kM 16 4,kO 17 (.ia 22 (.t 15) (.t 16)),kO 18 (.ld 49 (.t 17)),kO 19 (.call (.fn 17) [.t 18]),kO 20 (.un .not (.t 19))])
 (.cond (.t 20) (.seq (.reg [kO 2 (.mv (.b false))])
 (.ret))
 (.skip)))
 (.reg [kM 21 3,kM 22 0,kM 23 4,kO 24 (.ia 22 (.t 22) (.t 23)),kO 25 (.fa 49 (.t 24) 2),kO 26 (.ld 47 (.t 25)),kO 27 (.bi .len [47] [.t 26]),
 kO 28 (.bin .add 3 (.t 21) (.t 27)),kM 3 28])))
 (.reg [kM 13 4,kO 14 (.bin .add 3 (.t 13) (kI 1)),kM 4 14]))))))
 (.seq (.reg [kM 29 0,kO 30 (.bi .len [22] [.t 29]),kO 31 (.bin .leq 3 (.t 30) (kI 14)),kM 32 31,kT 33 32 (.mv (.t 3)),
 kT 34 32 (.bin .leq 3 (.t 33) (kI 300)),kO 35 (.pk (.t 32) (.t 34) (.b false)),kM 2 35])
 (.ret))))
theorem b6:Body Tryz.prog 6 36 [2] k6:=⟨Enters.of Tryz.func6 (by kernel_rfl) (by kernel_rfl),_,_,Tryz.func6,rfl,by kernel_rfl,rfl,rfl⟩
noncomputable def drw7_0:Array Oper:=((Tryz.f7.body.map regs).getD []).getD 0 #[]
noncomputable def k7:KC:=
 .seq (.reg [kO 6 (.mv (.ns)),kO 7 (.mv (kI 0))])
 (.seq (.reg [kM 17 2,kM 18 0,kO 19 (.bi .len [22] [.t 18]),kM 20 1,kO 21 (.bi .len [22] [.t 20]),kM 22 0,kM 23 1,
 kO 24 (.bsl 83 2 [(0,.t 22),(1,.t 23)]),kO 25 (.call (.fn 19) [.t 24]),kO 26 (.call (.fn 18) [.t 25]),
 kO 27 (.bld 38 [(0,.t 17),(2,.t 19),(3,.t 21),(4,.t 26)]),kO 8 (.al 38),kN (.st 38 (.t 8) (.t 27))])
 (.seq (.seq (.reg [kM 28 0,kM 29 1,kO 30 (.ld 38 (.t 8)),kO 31 (.call (.fn 20) [.t 28,.t 29,.t 30]),kM 9 31])
 (.seq (.reg [kM 32 9,kO 33 (.bin .neq 25 (.t 32) (kI 0))])
 (.cond (.t 33) (.seq (.reg [kM 34 9,kO 6 (.mv (.ns)),kM 7 34])
 (.ret))
 (.skip))))
 (.seq (.reg [kM 36 0,kM 37 1,kO 38 (.bi .len [22] [.t 37]),kO 39 (.call (.fn 21) [.t 36,.t 38]),kM 35 39,kO 40 (.ex (.t 35) 0),kO 41 (.ex (.t 35) 1),
 kM 10 40,kM 11 41])
 (.seq (.seq (.reg [kM 42 11,kO 43 (.bin .neq 25 (.t 42) (kI 0))])
 (.cond (.t 43) (.seq (.reg [kM 44 11,kO 6 (.mv (.ns)),kM 7 44])
 (.ret))
 (.skip)))
 (.seq (.reg [kO 12 (.mv (.ns))])
 (.seq (.seq (.reg [kM 45 1,kO 46 (.bi .len [22] [.t 45]),kO 47 (.mv (kI 0))])
 (.block 0 (.loop (.seq (.reg [kO 48 (.bin .lss 3 (.t 47) (.t 46))])
 (.seq (.cond (.t 48) (.skip)
 (.exit 0))
 (.seq (.block 1 (.seq (.reg [kM 49 47,kO 50 (.ia 22 (.t 45) (.t 47)),kO 51 (.ld 49 (.t 50)),kO 14 (.al 49),kM 13 49,kN (.st 49 (.t 14) (.t 51))])
 (.seq (.reg [kM 52 0,kO 53 (.bi .len [22] [.t 52]),kM 54 13,kO 55 (.bin .add 3 (.t 53) (.t 54)),kO 56 (.fa 38 (.t 8) 1),kN (.st 3 (.t 56) (.t 55))])
 (.seq (.drw drw7_0 [kO 58 (.ld 49 (.t 14)),kO 59 (.ld 38 (.t 8)),kM 60 10,kM 61 13,kO 62 (.ia 54 (.t 60) (.t 61)),kO 63 (.ld 47 (.t 62)),
 kO 64 (.call (.fn 22) [.t 58,.t 59,.t 63]),kM 57 64,kO 65 (.ex (.t 57) 0),kO 66 (.ex (.t 57) 1),kO 15 (.al 49),kN (.st 49 (.t 15) (.t 65)),
 kM 16 66])
 (.seq (.seq (.reg [kM 67 16,kO 68 (.bin .neq 25 (.t 67) (kI 0))])
 (.cond (.t 68) (.seq (.reg [kM 69 16,kO 6 (.mv (.ns)),kM 7 69])
 (.ret))
 (.skip)))
 (.reg [kM 70 12,kO 71 (.ld 49 (.t 15)),kO 72 (.bsl 22 1 [(0,.t 71)]),kO 73 (.bi .append [22,22] [.t 70,.t 72]),kM 12 73]))))))
 (.reg [kO 74 (.bin .add 3 (.t 47) (kI 1)),kM 47 74])))))))
 (.seq (.reg [kM 75 12,kM 6 75,kO 7 (.mv (kI 0))])
 (.ret))))))))
theorem b7:Body Tryz.prog 7 76 [6,7] k7:=⟨Enters.of Tryz.func7 (by kernel_rfl) (by kernel_rfl),_,_,Tryz.func7,rfl,by kernel_rfl,rfl,rfl⟩
def k10:KC:=
 .seq (.reg [kO 2 (.mv (kI 0))])
 (.seq (.reg [kM 3 0,kM 2 3])
 (.ret))
theorem b10:Body Tryz.prog 10 4 [2] k10:=⟨Enters.of Tryz.func10 (by kernel_rfl) (by kernel_rfl),_,_,Tryz.func10,rfl,by kernel_rfl,rfl,rfl⟩
noncomputable def drw11_0:Array Oper:=((Tryz.f11.body.map regs).getD []).getD 0 #[]
noncomputable def k11:KC:=
 .seq (.reg [kO 2 (.mv (.ns))])
 (.seq (.reg [kO 3 (.mv (.ns))])
 (.seq (.seq (.reg [kM 8 0,kO 9 (.bi .len [22] [.t 8]),kO 10 (.mv (kI 0))])
 (.block 0 (.loop (.seq (.reg [kO 11 (.bin .lss 3 (.t 10) (.t 9))])
 (.seq (.cond (.t 11) (.skip)
 (.exit 0))
 (.seq (.block 1 (.seq (.reg [kO 12 (.ia 22 (.t 8) (.t 10)),kO 13 (.ld 49 (.t 12)),kO 5 (.al 49),kN (.st 49 (.t 5) (.t 13))])
 (.seq (.reg [kO 15 (.ld 49 (.t 5)),kO 16 (.call (.fn 30) [.t 15]),kM 14 16,kO 17 (.ex (.t 14) 0),kO 18 (.ex (.t 14) 1),kO 6 (.al 38),
 kN (.st 38 (.t 6) (.t 17)),kM 7 18])
 (.seq (.seq (.drw drw11_0 [kM 19 7,kO 20 (.un .not (.t 19)),kM 21 20,kG 22 21 (.fa 38 (.t 6) 4),kG 23 21 (.ld 36 (.t 22)),kG 24 21 (.fa 38 (.t 6) 1),
 kG 25 21 (.ld 3 (.t 24)),kG 26 21 (.ia 36 (.t 23) (.t 25)),kG 27 21 (.ld 3 (.t 26)),kG 28 21 (.fa 49 (.t 5) 0),kG 29 21 (.ld 3 (.t 28)),
 kG 30 21 (.bin .neq 3 (.t 27) (.t 29)),kO 31 (.pk (.t 21) (.b true) (.t 30)),kM 32 31,kG 33 32 (.mv (.t 3)),kG 34 32 (.mf 32 [.t 6]),
 kG 35 32 (.call (.fn 31) [.t 33,.t 34]),kO 36 (.pk (.t 32) (.b true) (.t 35))])
 (.cond (.t 36) (.exit 1)
 (.skip)))
 (.reg [kM 37 3,kO 38 (.ld 38 (.t 6)),kO 39 (.bsl 33 1 [(0,.t 38)]),kO 40 (.bi .append [33,33] [.t 37,.t 39]),kM 3 40])))))
 (.reg [kO 41 (.bin .add 3 (.t 10) (kI 1)),kM 10 41])))))))
 (.seq (.reg [kM 42 3,kO 43 (.call (.fn 33) [.t 42,.fn 34])])
 (.seq (.reg [kM 44 3,kM 2 44])
 (.ret)))))
theorem b11:Body Tryz.prog 11 45 [2] k11:=⟨Enters.of Tryz.func11 (by kernel_rfl) (by kernel_rfl),_,_,Tryz.func11,rfl,by kernel_rfl,rfl,rfl⟩
noncomputable def drw12_0:Array Oper:=((Tryz.f12.body.map regs).getD []).getD 0 #[]
noncomputable def drw12_1:Array Oper:=((Tryz.f12.body.map regs).getD []).getD 1 #[]
noncomputable def drw12_2:Array Oper:=((Tryz.f12.body.map regs).getD []).getD 2 #[]
noncomputable def drw12_3:Array Oper:=((Tryz.f12.body.map regs).getD []).getD 3 #[]
noncomputable def k12:KC:=
 .seq (.reg [kO 2 (.mv (.ns))])
 (.seq (.reg [kO 3 (.mv (.ns))])
 (.seq (.seq (.reg [kO 4 (.mv (kI 0))])
 (.block 0 (.loop (.seq (.seq (.reg [kM 8 4,kM 9 0,kO 10 (.bi .len [22] [.t 9]),kO 11 (.bin .lss 3 (.t 8) (.t 10))])
 (.cond (.t 11) (.skip)
 (.exit 0)))
 (.seq (.block 1 (.seq (.reg [kM 15 0,kM 16 4,kO 17 (.ia 22 (.t 15) (.t 16)),kO 18 (.ld 49 (.t 17)),kO 19 (.call (.fn 36) [.t 18]),kM 14 19,kO 20 (.ex (.t 14) 0),
 kO 21 (.ex (.t 14) 1),kO 5 (.al 38),kN (.st 38 (.t 5) (.t 20)),kM 6 21])
 (.seq (.seq (.drw drw12_0 [kM 22 6,kO 23 (.un .not (.t 22)),kM 24 23,kG 25 24 (.fa 38 (.t 5) 4),kG 26 24 (.ld 36 (.t 25)),kG 27 24 (.fa 38 (.t 5) 1),
 kG 28 24 (.ld 3 (.t 27)),kG 29 24 (.ia 36 (.t 26) (.t 28)),kG 30 24 (.ld 3 (.t 29)),kG 31 24 (.mv (.t 0)),kG 32 24 (.mv (.t 4)),
 kG 33 24 (.ia 22 (.t 31) (.t 32)),kG 34 24 (.fa 49 (.t 33) 0),kG 35 24 (.ld 3 (.t 34)),kG 36 24 (.bin .neq 3 (.t 30) (.t 35)),
 kO 37 (.pk (.t 24) (.b true) (.t 36))])
 (.cond (.t 37) (.exit 1)
 (.skip)))
 (.seq (.reg [kO 7 (.mv (kI 0))])
 (.seq (.block 2 (.loop (.seq (.seq (.drw drw12_1 [kM 38 7,kM 39 3,kO 40 (.bi .len [33] [.t 39]),kO 41 (.bin .lss 3 (.t 38) (.t 40)),kM 42 41,kT 43 42 (.mv (.t 3)),kT 44 42 (.mv (.t 7)),
 kT 45 42 (.ia 33 (.t 43) (.t 44)),kT 46 42 (.fa 38 (.t 45) 0),kT 47 42 (.ld 3 (.t 46)),kT 48 42 (.fa 38 (.t 5) 0),kT 49 42 (.ld 3 (.t 48)),
 kT 50 42 (.bin .lss 3 (.t 47) (.t 49)),kO 51 (.pk (.t 42) (.t 50) (.b false))])
 (.cond (.t 51) (.skip)
 (.exit 2)))
 (.block 3 (.reg [kM 52 7,kO 53 (.bin .add 3 (.t 52) (kI 1)),kM 7 53])))))
 (.seq (.seq (.drw drw12_2 [kM 54 7,kM 55 3,kO 56 (.bi .len [33] [.t 55]),kO 57 (.bin .lss 3 (.t 54) (.t 56)),kM 58 57,kT 59 58 (.mv (.t 3)),kT 60 58 (.mv (.t 7)),
 kT 61 58 (.ia 33 (.t 59) (.t 60)),kT 62 58 (.fa 38 (.t 61) 0),kT 63 58 (.ld 3 (.t 62)),kT 64 58 (.fa 38 (.t 5) 0),kT 65 58 (.ld 3 (.t 64)),
 kT 66 58 (.bin .eql 3 (.t 63) (.t 65)),kO 67 (.pk (.t 58) (.t 66) (.b false))])
 (.cond (.t 67) (.exit 1)
 (.skip)))
 (.drw drw12_3 [kM 68 3,kM 69 7,kO 70 (.sli 33 (.t 68) none (some (.t 69)) none),kO 71 (.bi .append [33,33] [.ns,.t 70]),kO 72 (.ld 38 (.t 5)),
 kO 73 (.bsl 33 1 [(0,.t 72)]),kO 74 (.bi .append [33,33] [.t 71,.t 73]),kM 75 3,kM 76 7,kO 77 (.sli 33 (.t 75) (some (.t 76)) none none),
 kO 78 (.bi .append [33,33] [.t 74,.t 77]),kM 3 78])))))))
 (.reg [kM 12 4,kO 13 (.bin .add 3 (.t 12) (kI 1)),kM 4 13]))))))
 (.seq (.reg [kM 79 3,kM 2 79])
 (.ret))))
theorem b12:Body Tryz.prog 12 80 [2] k12:=⟨Enters.of Tryz.func12 (by kernel_rfl) (by kernel_rfl),_,_,Tryz.func12,rfl,by kernel_rfl,rfl,rfl⟩
noncomputable def drw13_0:Array Oper:=((Tryz.f13.body.map regs).getD []).getD 0 #[]
noncomputable def k13:KC:=
 .seq (.reg [kO 2 (.box 38 (.t 0)),kO 3 (.box 38 (.t 1)),kO 4 (.mv (.b false))])
 (.seq (.seq (.reg [kO 6 (.fa 38 (.t 2) 0),kO 7 (.ld 3 (.t 6)),kO 8 (.fa 38 (.t 3) 0),kO 9 (.ld 3 (.t 8)),kO 10 (.bin .neq 3 (.t 7) (.t 9)),kM 11 10,
 kG 12 11 (.fa 38 (.t 2) 1),kG 13 11 (.ld 3 (.t 12)),kG 14 11 (.fa 38 (.t 3) 1),kG 15 11 (.ld 3 (.t 14)),kG 16 11 (.bin .neq 3 (.t 13) (.t 15)),
 kO 17 (.pk (.t 11) (.b true) (.t 16)),kM 18 17,kG 19 18 (.fa 38 (.t 2) 2),kG 20 18 (.ld 3 (.t 19)),kG 21 18 (.fa 38 (.t 3) 2),
 kG 22 18 (.ld 3 (.t 21)),kG 23 18 (.bin .neq 3 (.t 20) (.t 22)),kO 24 (.pk (.t 18) (.b true) (.t 23)),kM 25 24,kG 26 25 (.fa 38 (.t 2) 3),
 kG 27 25 (.ld 3 (.t 26)),kG 28 25 (.fa 38 (.t 3) 3),kG 29 25 (.ld 3 (.t 28)),kG 30 25 (.bin .neq 3 (.t 27) (.t 29)),
 kO 31 (.pk (.t 25) (.b true) (.t 30)),kM 32 31,kG 33 32 (.fa 38 (.t 2) 4),kG 34 32 (.ld 36 (.t 33)),kG 35 32 (.bi .len [36] [.t 34]),
 kG 36 32 (.fa 38 (.t 3) 4),kG 37 32 (.ld 36 (.t 36)),kG 38 32 (.bi .len [36] [.t 37]),kG 39 32 (.bin .neq 3 (.t 35) (.t 38)),
 kO 40 (.pk (.t 32) (.b true) (.t 39))])
 (.cond (.t 40) (.seq (.reg [kO 4 (.mv (.b false))])
 (.ret))
 (.skip)))
 (.seq (.seq (.reg [kO 5 (.mv (kI 0))])
 (.block 0 (.loop (.seq (.seq (.reg [kM 41 5,kO 42 (.fa 38 (.t 2) 4),kO 43 (.ld 36 (.t 42)),kO 44 (.bi .len [36] [.t 43]),kO 45 (.bin .lss 3 (.t 41) (.t 44))])
 (.cond (.t 45) (.skip)
 (.exit 0)))
 (.seq (.block 1 (.seq (.drw drw13_0 [kO 48 (.fa 38 (.t 2) 4),kO 49 (.ld 36 (.t 48)),kM 50 5,kO 51 (.ia 36 (.t 49) (.t 50)),kO 52 (.ld 3 (.t 51)),kO 53 (.fa 38 (.t 3) 4),
 kO 54 (.ld 36 (.t 53)),kM 55 5,kO 56 (.ia 36 (.t 54) (.t 55)),kO 57 (.ld 3 (.t 56)),kO 58 (.bin .neq 3 (.t 52) (.t 57))])
 (.cond (.t 58) (.seq (.reg [kO 4 (.mv (.b false))])
 (.ret))
 (.skip))))
 (.reg [kM 46 5,kO 47 (.bin .add 3 (.t 46) (kI 1)),kM 5 47]))))))
 (.seq (.reg [kO 4 (.mv (.b true))])
 (.ret))))
theorem b13:Body Tryz.prog 13 59 [4] k13:=⟨Enters.of Tryz.func13 (by kernel_rfl) (by kernel_rfl),_,_,Tryz.func13,rfl,by kernel_rfl,rfl,rfl⟩
def k14:KC:=
 .seq (.reg [kO 4 (.al 38),kO 5 (.mv (.b false))])
 (.seq (.seq (.reg [kM 8 0,kO 9 (.bi .len [33] [.t 8]),kO 10 (.mv (kI 0))])
 (.block 0 (.loop (.seq (.reg [kO 11 (.bin .lss 3 (.t 10) (.t 9))])
 (.seq (.cond (.t 11) (.skip)
 (.exit 0))
 (.seq (.block 1 (.seq (.reg [kO 12 (.ia 33 (.t 8) (.t 10)),kO 13 (.ld 38 (.t 12)),kO 7 (.al 38),kN (.st 38 (.t 7) (.t 13))])
 (.seq (.reg [kO 14 (.fa 38 (.t 7) 4),kO 15 (.ld 36 (.t 14)),kM 16 1,kO 17 (.call (.fn 37) [.t 15,.t 16])])
 (.cond (.t 17) (.seq (.reg [kO 18 (.fa 38 (.t 7) 4),kO 19 (.ld 36 (.t 18)),kO 20 (.call (.fn 38) [.t 19]),kO 21 (.fa 38 (.t 7) 4),kN (.st 36 (.t 21) (.t 20))])
 (.seq (.reg [kO 22 (.ld 38 (.t 7)),kN (.st 38 (.t 4) (.t 22)),kO 5 (.mv (.b true))])
 (.ret)))
 (.skip)))))
 (.reg [kO 23 (.bin .add 3 (.t 10) (kI 1)),kM 10 23])))))))
 (.seq (.reg [kO 24 (.bld 38 []),kN (.st 38 (.t 4) (.t 24)),kO 5 (.mv (.b false))])
 (.ret)))
def k15:KC:=
 .seq (.reg [kO 4 (.al 38),kO 5 (.mv (.b false))])
 (.seq (.seq (.reg [kO 6 (.mv (kI 0))])
 (.block 0 (.loop (.seq (.seq (.reg [kM 8 6,kM 9 0,kO 10 (.bi .len [33] [.t 9]),kO 11 (.bin .lss 3 (.t 8) (.t 10))])
 (.cond (.t 11) (.skip)
 (.exit 0)))
 (.seq (.block 1 (.seq (.reg [kO 7 (.mv (kI 0))])
 (.block 2 (.loop (.seq (.seq (.reg [kM 14 7,kM 15 0,kM 16 6,kO 17 (.ia 33 (.t 15) (.t 16)),kO 18 (.fa 38 (.t 17) 4),kO 19 (.ld 36 (.t 18)),kO 20 (.bi .len [36] [.t 19]),
 kO 21 (.bin .lss 3 (.t 14) (.t 20))])
 (.cond (.t 21) (.skip)
 (.exit 2)))
 (.seq (.block 3 (.seq (.reg [kM 24 0,kM 25 6,kO 26 (.ia 33 (.t 24) (.t 25)),kO 27 (.fa 38 (.t 26) 4),kO 28 (.ld 36 (.t 27)),kM 29 7,kO 30 (.ia 36 (.t 28) (.t 29)),
 kO 31 (.ld 3 (.t 30)),kM 32 1,kO 33 (.bin .eql 3 (.t 31) (.t 32))])
 (.cond (.t 33) (.seq (.reg [kM 34 0,kM 35 6,kO 36 (.ia 33 (.t 34) (.t 35)),kO 37 (.ld 38 (.t 36)),kN (.st 38 (.t 4) (.t 37)),kO 5 (.mv (.b true))])
 (.ret))
 (.skip))))
 (.reg [kM 22 7,kO 23 (.bin .add 3 (.t 22) (kI 1)),kM 7 23])))))))
 (.reg [kM 12 6,kO 13 (.bin .add 3 (.t 12) (kI 1)),kM 6 13]))))))
 (.seq (.reg [kO 38 (.bld 38 []),kN (.st 38 (.t 4) (.t 38)),kO 5 (.mv (.b false))])
 (.ret)))
noncomputable def drw16_0:Array Oper:=((Tryz.f16.body.map regs).getD []).getD 0 #[]
noncomputable def drw16_1:Array Oper:=((Tryz.f16.body.map regs).getD []).getD 1 #[]
noncomputable def drw16_2:Array Oper:=((Tryz.f16.body.map regs).getD []).getD 2 #[]
noncomputable def k16:KC:=
 .seq (.reg [kO 1 (.box 46 (.t 0)),kO 2 (.mv (.ns)),kO 3 (.mv (kI 0))])
 (.seq (.reg [kO 4 (.mv (kI 64))])
 (.seq (.seq (.reg [kO 6 (.fa 46 (.t 1) 0),kO 7 (.ld 3 (.t 6)),kO 8 (.bin .eql 3 (.t 7) (kI 6))])
 (.cond (.t 8) (.reg [kO 4 (.mv (kI 79))])
 (.skip)))
 (.seq (.block 0 (.seq (.reg [kO 10 (.fa 46 (.t 1) 0),kO 11 (.ld 3 (.t 10)),kO 12 (.bin .lss 3 (.t 11) (kI 1)),kM 13 12,kG 14 13 (.fa 46 (.t 1) 0),kG 15 13 (.ld 3 (.t 14)),
 kG 16 13 (.bin .gtr 3 (.t 15) (kI 6)),kO 17 (.pk (.t 13) (.b true) (.t 16)),kM 18 17,kG 19 18 (.fa 46 (.t 1) 1),kG 20 18 (.ld 3 (.t 19)),
 kG 21 18 (.bin .lss 3 (.t 20) (kI 1)),kO 22 (.pk (.t 18) (.b true) (.t 21)),kM 23 22,kG 24 23 (.fa 46 (.t 1) 1),kG 25 23 (.ld 3 (.t 24)),
 kG 26 23 (.bin .gtr 3 (.t 25) (kI 2147483647)),kO 27 (.pk (.t 23) (.b true) (.t 26)),kM 28 27,kG 29 28 (.fa 46 (.t 1) 2),
 kG 30 28 (.ld 3 (.t 29)),kG 31 28 (.bin .lss 3 (.t 30) (kI 0)),kO 32 (.pk (.t 28) (.b true) (.t 31)),kM 33 32,kG 34 33 (.fa 46 (.t 1) 2),
 kG 35 33 (.ld 3 (.t 34)),kG 36 33 (.bin .gtr 3 (.t 35) (kI 2147483647)),kO 37 (.pk (.t 33) (.b true) (.t 36)),kM 9 37])
 (.cond (.t 9) (.seq (.reg [kO 2 (.mv (.ns)),kO 3 (.mv (kI 1))])
 (.ret))
 (.seq (.reg [kO 39 (.fa 46 (.t 1) 3),kO 40 (.ld 42 (.t 39)),kO 41 (.bi .len [42] [.t 40]),kM 42 4,kO 43 (.bin .gtr 3 (.t 41) (.t 42)),kM 38 43])
 (.cond (.t 38) (.seq (.reg [kO 2 (.mv (.ns)),kO 3 (.mv (kI 4))])
 (.ret))
 (.skip))))))
 (.seq (.reg [kO 44 (.bld 77 []),kO 45 (.box 77 (.t 44)),kM 5 45])
 (.seq (.reg [kM 46 5,kO 47 (.fa 46 (.t 1) 0),kO 48 (.ld 3 (.t 47)),kO 49 (.cvt 3 5 (.t 48)),kO 50 (.call (.fn 39) [.t 46,.t 49])])
 (.seq (.reg [kM 51 5,kO 52 (.fa 46 (.t 1) 1),kO 53 (.ld 3 (.t 52)),kO 54 (.call (.fn 40) [.t 51,.t 53])])
 (.seq (.reg [kM 55 5,kO 56 (.fa 46 (.t 1) 2),kO 57 (.ld 3 (.t 56)),kO 58 (.call (.fn 40) [.t 55,.t 57])])
 (.seq (.drw drw16_0 [kM 59 5,kM 60 5,kO 61 (.nc (.t 60)),kO 62 (.fa 77 (.t 61) 0),kO 63 (.ld 42 (.t 62)),kO 64 (.fa 46 (.t 1) 3),kO 65 (.ld 42 (.t 64)),
 kO 66 (.bi .len [42] [.t 65]),kO 67 (.bin .shr 3 (.t 66) (.i .u64 8)),kO 68 (.cvt 3 5 (.t 67)),kO 69 (.fa 46 (.t 1) 3),kO 70 (.ld 42 (.t 69)),
 kO 71 (.bi .len [42] [.t 70]),kO 72 (.bin .and 3 (.t 71) (kI 255)),kO 73 (.cvt 3 5 (.t 72)),kO 74 (.bsl 42 2 [(0,.t 68),(1,.t 73)]),
 kO 75 (.bi .append [42,42] [.t 63,.t 74]),kO 76 (.nc (.t 59)),kO 77 (.fa 77 (.t 76) 0),kN (.st 42 (.t 77) (.t 75))])
 (.seq (.drw drw16_1 [kM 78 5,kM 79 5,kO 80 (.nc (.t 79)),kO 81 (.fa 77 (.t 80) 0),kO 82 (.ld 42 (.t 81)),kO 83 (.fa 46 (.t 1) 3),kO 84 (.ld 42 (.t 83)),
 kO 85 (.bi .append [42,42] [.t 82,.t 84]),kO 86 (.nc (.t 78)),kO 87 (.fa 77 (.t 86) 0),kN (.st 42 (.t 87) (.t 85))])
 (.seq (.drw drw16_2 [kM 88 5,kM 89 5,kO 90 (.nc (.t 89)),kO 91 (.fa 77 (.t 90) 0),kO 92 (.ld 42 (.t 91)),kM 93 4,kO 94 (.fa 46 (.t 1) 3),kO 95 (.ld 42 (.t 94)),
 kO 96 (.bi .len [42] [.t 95]),kO 97 (.bin .sub 3 (.t 93) (.t 96)),kO 98 (.bi .append [42,3] [.t 92,.t 97]),kO 99 (.nc (.t 88)),
 kO 100 (.fa 77 (.t 99) 0),kN (.st 42 (.t 100) (.t 98))])
 (.seq (.reg [kM 101 5,kM 102 5,kO 103 (.nc (.t 102)),kO 104 (.fa 77 (.t 103) 0),kO 105 (.ld 42 (.t 104)),kO 106 (.call (.fn 41) [.t 105]),
 kO 107 (.cvt 81 3 (.t 106)),kO 108 (.call (.fn 40) [.t 101,.t 107])])
 (.seq (.reg [kM 109 5,kO 110 (.nc (.t 109)),kO 111 (.fa 77 (.t 110) 0),kO 112 (.ld 42 (.t 111)),kM 2 112,kO 3 (.mv (kI 0))])
 (.ret)))))))))))))
theorem b16:Body Tryz.prog 16 113 [2,3] k16:=⟨Enters.of Tryz.func16 (by kernel_rfl) (by kernel_rfl),_,_,Tryz.func16,rfl,by kernel_rfl,rfl,rfl⟩
def k17:KC:=
 .seq (.reg [kO 1 (.box 49 (.t 0)),kO 2 (.mv (.b false))])
 (.seq (.seq (.reg [kO 3 (.mv (kI 0))])
 (.block 0 (.loop (.seq (.seq (.reg [kM 4 3,kO 5 (.fa 49 (.t 1) 2),kO 6 (.ld 47 (.t 5)),kO 7 (.bi .len [47] [.t 6]),kO 8 (.bin .lss 3 (.t 4) (.t 7)),kM 9 8,kT 10 9 (.mv (.t 3)),
 kT 11 9 (.bin .lss 3 (.t 10) (kI 100)),kO 12 (.pk (.t 9) (.t 11) (.b false))])
 (.cond (.t 12) (.skip)
 (.exit 0)))
 (.seq (.block 1 (.seq (.reg [kO 15 (.fa 49 (.t 1) 2),kO 16 (.ld 47 (.t 15)),kM 17 3,kO 18 (.ia 47 (.t 16) (.t 17)),kO 19 (.ld 42 (.t 18)),kO 20 (.bi .len [42] [.t 19]),
 kO 21 (.bin .gtr 3 (.t 20) (kI 300))])
 (.cond (.t 21) (.seq (.reg [kO 2 (.mv (.b false))])
 (.ret))
 (.skip))))
 (.reg [kM 13 3,kO 14 (.bin .add 3 (.t 13) (kI 1)),kM 3 14]))))))
 (.seq (.reg [kO 22 (.fa 49 (.t 1) 2),kO 23 (.ld 47 (.t 22)),kO 24 (.bi .len [47] [.t 23]),kO 25 (.bin .leq 3 (.t 24) (kI 90)),kM 2 25])
 (.ret)))
theorem b17:Body Tryz.prog 17 26 [2] k17:=⟨Enters.of Tryz.func17 (by kernel_rfl) (by kernel_rfl),_,_,Tryz.func17,rfl,by kernel_rfl,rfl,rfl⟩
def k18:KC:=
 .seq (.reg [kO 2 (.mv (.ns))])
 (.seq (.reg [kO 3 (.mv (.ns))])
 (.seq (.seq (.reg [kM 6 0,kO 7 (.bi .len [22] [.t 6]),kO 8 (.mv (kI 0))])
 (.block 0 (.loop (.seq (.reg [kO 9 (.bin .lss 3 (.t 8) (.t 7))])
 (.seq (.cond (.t 9) (.skip)
 (.exit 0))
 (.seq (.block 1 (.seq (.reg [kO 10 (.ia 22 (.t 6) (.t 8)),kO 11 (.ld 49 (.t 10)),kO 5 (.al 49),kN (.st 49 (.t 5) (.t 11))])
 (.reg [kM 12 3,kO 13 (.fa 49 (.t 5) 0),kO 14 (.ld 3 (.t 13)),kO 15 (.bsl 36 1 [(0,.t 14)]),kO 16 (.bi .append [36,36] [.t 12,.t 15]),kM 3 16])))
 (.reg [kO 17 (.bin .add 3 (.t 8) (kI 1)),kM 8 17])))))))
 (.seq (.reg [kM 18 3,kM 2 18])
 (.ret))))
theorem b18:Body Tryz.prog 18 19 [2] k18:=⟨Enters.of Tryz.func18 (by kernel_rfl) (by kernel_rfl),_,_,Tryz.func18,rfl,by kernel_rfl,rfl,rfl⟩
def k19:KC:=
 .seq (.reg [kO 2 (.mv (.ns))])
 (.seq (.reg [kO 3 (.mv (kI 0))])
 (.seq (.seq (.reg [kM 9 0,kO 10 (.bi .len [83] [.t 9]),kO 11 (.mv (kI 0))])
 (.block 0 (.loop (.seq (.reg [kO 12 (.bin .lss 3 (.t 11) (.t 10))])
 (.seq (.cond (.t 12) (.skip)
 (.exit 0))
 (.seq (.block 1 (.seq (.reg [kO 13 (.ia 83 (.t 9) (.t 11)),kO 14 (.ld 22 (.t 13)),kM 5 14])
 (.seq (.reg [kM 15 3,kM 16 5,kO 17 (.bi .len [22] [.t 16]),kO 18 (.bin .add 3 (.t 15) (.t 17)),kM 3 18])
 (.seq (.reg [kM 19 3,kO 20 (.bin .lss 3 (.t 19) (kI 0))])
 (.cond (.t 20) (.reg [kO 21 (.unk),kN (.unk)])
 (.skip))))))
 (.reg [kO 22 (.bin .add 3 (.t 11) (kI 1)),kM 11 22])))))))
 (.seq (.reg [kM 23 3,kO 24 (.call (.fn 42) [.ns,.t 23]),kM 6 24])
 (.seq (.seq (.reg [kM 25 0,kO 26 (.bi .len [83] [.t 25]),kO 27 (.mv (kI 0))])
 (.block 2 (.loop (.seq (.reg [kO 28 (.bin .lss 3 (.t 27) (.t 26))])
 (.seq (.cond (.t 28) (.skip)
 (.exit 2))
 (.seq (.block 3 (.seq (.reg [kO 29 (.ia 83 (.t 25) (.t 27)),kO 30 (.ld 22 (.t 29)),kM 8 30])
 (.reg [kM 31 6,kM 32 8,kO 33 (.bi .append [22,22] [.t 31,.t 32]),kM 6 33])))
 (.reg [kO 34 (.bin .add 3 (.t 27) (kI 1)),kM 27 34])))))))
 (.seq (.reg [kM 35 6,kM 2 35])
 (.ret))))))
theorem b19:Body Tryz.prog 19 36 [2] k19:=⟨Enters.of Tryz.func19 (by kernel_rfl) (by kernel_rfl),_,_,Tryz.func19,rfl,by kernel_rfl,rfl,rfl⟩
def k20:KC:=
 .seq (.reg [kO 3 (.box 22 (.t 0)),kO 5 (.box 38 (.t 2)),kO 6 (.mv (kI 0))])
 (.seq (.reg [kO 7 (.mv (.fn 43))])
 (.seq (.seq (.reg [kO 8 (.ld 38 (.t 5)),kO 9 (.call (.fn 44) [.t 8]),kO 10 (.un .not (.t 9)),kM 11 10,kG 12 11 (.ld 22 (.t 3)),kG 13 11 (.mv (.t 7)),
 kG 14 11 (.call (.fn 45) [.t 12,.t 13]),kO 15 (.pk (.t 11) (.b true) (.t 14)),kM 16 15,kG 17 16 (.mv (.t 1)),kG 18 16 (.mv (.t 7)),
 kG 19 16 (.call (.fn 45) [.t 17,.t 18]),kO 20 (.pk (.t 16) (.b true) (.t 19)),kM 21 20,kG 22 21 (.ld 22 (.t 3)),
 kG 23 21 (.call (.fn 46) [.t 22]),kG 24 21 (.bin .eql 3 (.t 23) (kI 0)),kO 25 (.pk (.t 21) (.b true) (.t 24)),kM 26 25,kG 27 26 (.ld 22 (.t 3)),
 kG 28 26 (.call (.fn 47) [.t 27,.fn 48]),kG 29 26 (.un .not (.t 28)),kO 30 (.pk (.t 26) (.b true) (.t 29))])
 (.cond (.t 30) (.seq (.reg [kO 6 (.mv (kI 1))])
 (.ret))
 (.skip)))
 (.seq (.seq (.reg [kM 31 1,kO 32 (.call (.fn 45) [.t 31,.fn 49])])
 (.cond (.t 32) (.seq (.reg [kO 6 (.mv (kI 11))])
 (.ret))
 (.skip)))
 (.seq (.seq (.reg [kM 33 1,kO 34 (.mf 50 [.t 3]),kO 35 (.call (.fn 45) [.t 33,.t 34])])
 (.cond (.t 35) (.seq (.reg [kO 6 (.mv (kI 6))])
 (.ret))
 (.skip)))
 (.seq (.reg [kO 6 (.mv (kI 0))])
 (.ret))))))
theorem b20:Body Tryz.prog 20 36 [6] k20:=⟨Enters.of Tryz.func20 (by kernel_rfl) (by kernel_rfl),_,_,Tryz.func20,rfl,by kernel_rfl,rfl,rfl⟩
def k21:KC:=
 .seq (.reg [kO 4 (.mv (.ns)),kO 5 (.mv (kI 0))])
 (.seq (.seq (.reg [kM 16 0,kO 17 (.call (.fn 52) [.t 16,.i .i64 (-1)]),kM 18 1,kO 19 (.call (.fn 51) [.t 17,.t 18]),kM 15 19,kO 20 (.ex (.t 15) 0),
 kO 21 (.ex (.t 15) 1),kM 6 20,kM 7 21])
 (.seq (.reg [kM 22 7,kO 23 (.bin .neq 25 (.t 22) (kI 0))])
 (.cond (.t 23) (.seq (.reg [kM 24 7,kO 4 (.mv (.ns)),kM 5 24])
 (.ret))
 (.skip))))
 (.seq (.reg [kM 25 1,kO 26 (.mk 54 (.t 25) (.t 25)),kM 8 26])
 (.seq (.seq (.reg [kM 27 0,kO 28 (.call (.fn 46) [.t 27]),kO 29 (.mv (kI 0))])
 (.block 0 (.loop (.seq (.reg [kO 30 (.bin .lss 3 (.t 29) (.t 28))])
 (.seq (.cond (.t 30) (.skip)
 (.exit 0))
 (.seq (.block 1 (.seq (.reg [kM 31 29,kM 9 31])
 (.seq (.reg [kM 32 0,kM 33 9,kO 34 (.call (.fn 52) [.t 32,.t 33]),kM 10 34])
 (.seq (.seq (.reg [kM 35 10,kO 36 (.call (.fn 53) [.t 35,.fn 54])])
 (.cond (.t 36) (.seq (.reg [kO 4 (.mv (.ns)),kO 5 (.mv (kI 1))])
 (.ret))
 (.skip)))
 (.seq (.reg [kM 38 10,kM 39 1,kO 40 (.call (.fn 51) [.t 38,.t 39]),kM 37 40,kO 41 (.ex (.t 37) 0),kO 42 (.ex (.t 37) 1),kM 11 41,kM 12 42])
 (.seq (.seq (.reg [kM 43 12,kO 44 (.bin .neq 25 (.t 43) (kI 0))])
 (.cond (.t 44) (.seq (.reg [kM 45 12,kO 4 (.mv (.ns)),kM 5 45])
 (.ret))
 (.skip)))
 (.seq (.reg [kM 46 11,kO 47 (.bi .len [47] [.t 46]),kO 48 (.mv (kI 0))])
 (.block 2 (.loop (.seq (.reg [kO 49 (.bin .lss 3 (.t 48) (.t 47))])
 (.seq (.cond (.t 49) (.skip)
 (.exit 2))
 (.seq (.block 3 (.seq (.reg [kM 50 48,kO 51 (.ia 47 (.t 46) (.t 48)),kO 52 (.ld 42 (.t 51)),kM 13 50,kM 14 52])
 (.reg [kM 53 8,kM 54 13,kM 55 8,kM 56 13,kO 57 (.ia 54 (.t 55) (.t 56)),kO 58 (.ld 47 (.t 57)),kM 59 14,kO 60 (.bsl 47 1 [(0,.t 59)]),
 kO 61 (.bi .append [47,47] [.t 58,.t 60]),kO 62 (.ia 54 (.t 53) (.t 54)),kN (.st 47 (.t 62) (.t 61))])))
 (.reg [kO 63 (.bin .add 3 (.t 48) (kI 1)),kM 48 63])))))))))))))
 (.reg [kO 64 (.bin .add 3 (.t 29) (kI 1)),kM 29 64])))))))
 (.seq (.reg [kM 65 8,kM 4 65,kO 5 (.mv (kI 0))])
 (.ret)))))
theorem b21:Body Tryz.prog 21 66 [4,5] k21:=⟨Enters.of Tryz.func21 (by kernel_rfl) (by kernel_rfl),_,_,Tryz.func21,rfl,by kernel_rfl,rfl,rfl⟩
def k22:KC:=
 .seq (.reg [kO 3 (.box 49 (.t 0)),kO 4 (.box 38 (.t 1)),kO 6 (.al 49),kO 7 (.mv (kI 0))])
 (.seq (.reg [kO 16 (.bsl 42 1 [(0,.i .u8 80)]),kO 17 (.cvt 42 42 (.t 16)),kO 18 (.bld 46 [(0,.i .i64 1),(3,.t 17)]),kO 19 (.bsl 91 1 [(0,.t 18)]),kM 8 19])
 (.seq (.seq (.reg [kM 20 2,kO 21 (.bi .len [47] [.t 20]),kO 22 (.mv (kI 0))])
 (.block 0 (.loop (.seq (.reg [kO 23 (.bin .lss 3 (.t 22) (.t 21))])
 (.seq (.cond (.t 23) (.skip)
 (.exit 0))
 (.seq (.block 1 (.seq (.reg [kO 24 (.ia 47 (.t 20) (.t 22)),kO 25 (.ld 42 (.t 24)),kM 10 25])
 (.reg [kM 26 8,kM 27 10,kO 28 (.bld 46 [(0,.i .i64 6),(3,.t 27)]),kO 29 (.bsl 91 1 [(0,.t 28)]),kO 30 (.bi .append [91,91] [.t 26,.t 29]),kM 8 30])))
 (.reg [kO 31 (.bin .add 3 (.t 22) (kI 1)),kM 22 31])))))))
 (.seq (.reg [kM 32 8,kO 33 (.ld 38 (.t 4)),kO 34 (.call (.fn 55) [.t 33]),kO 35 (.bld 46 [(0,.i .i64 5),(3,.t 34)]),kO 36 (.bsl 91 1 [(0,.t 35)]),
 kO 37 (.bi .append [91,91] [.t 32,.t 36]),kM 8 37])
 (.seq (.reg [kO 38 (.fa 49 (.t 3) 0),kO 39 (.ld 3 (.t 38)),kO 40 (.fa 49 (.t 3) 1),kO 41 (.ld 3 (.t 40)),kO 42 (.bld 49 [(0,.t 39),(1,.t 41)]),
 kO 11 (.al 49),kN (.st 49 (.t 11) (.t 42))])
 (.seq (.seq (.reg [kM 43 8,kO 44 (.bi .len [91] [.t 43]),kO 45 (.mv (kI 0))])
 (.block 2 (.loop (.seq (.reg [kO 46 (.bin .lss 3 (.t 45) (.t 44))])
 (.seq (.cond (.t 46) (.skip)
 (.exit 2))
 (.seq (.block 3 (.seq (.reg [kM 47 45,kO 48 (.ia 91 (.t 43) (.t 45)),kO 49 (.ld 46 (.t 48)),kO 13 (.al 46),kM 12 47,kN (.st 46 (.t 13) (.t 49))])
 (.seq (.reg [kO 50 (.fa 49 (.t 3) 0),kO 51 (.ld 3 (.t 50)),kM 52 12,kO 53 (.fa 46 (.t 13) 1),kN (.st 3 (.t 53) (.t 51)),kO 54 (.fa 46 (.t 13) 2),
 kN (.st 3 (.t 54) (.t 52))])
 (.seq (.reg [kO 56 (.ld 46 (.t 13)),kO 57 (.call (.fn 56) [.t 56]),kM 55 57,kO 58 (.ex (.t 55) 0),kO 59 (.ex (.t 55) 1),kM 14 58,kM 15 59])
 (.seq (.seq (.reg [kM 60 15,kO 61 (.bin .neq 25 (.t 60) (kI 0))])
 (.cond (.t 61) (.seq (.reg [kO 62 (.bld 49 []),kM 63 15,kN (.st 49 (.t 6) (.t 62)),kM 7 63])
 (.ret))
 (.skip)))
 (.reg [kO 64 (.fa 49 (.t 11) 2),kO 65 (.ld 47 (.t 64)),kM 66 14,kO 67 (.bsl 47 1 [(0,.t 66)]),kO 68 (.bi .append [47,47] [.t 65,.t 67]),
 kO 69 (.fa 49 (.t 11) 2),kN (.st 47 (.t 69) (.t 68))]))))))
 (.reg [kO 70 (.bin .add 3 (.t 45) (kI 1)),kM 45 70])))))))
 (.seq (.reg [kO 71 (.ld 49 (.t 11)),kN (.st 49 (.t 6) (.t 71)),kO 7 (.mv (kI 0))])
 (.ret)))))))
def k24:KC:=
 .seq (.reg [kO 2 (.box 49 (.t 0)),kO 4 (.al 46),kO 5 (.mv (.b false))])
 (.seq (.seq (.reg [kO 8 (.fa 49 (.t 2) 3),kO 9 (.ld 4 (.t 8)),kM 10 9,kG 11 10 (.mv (.t 1)),kG 12 10 (.bin .lss 3 (.t 11) (kI 0)),
 kO 13 (.pk (.t 10) (.b true) (.t 12)),kM 14 13,kG 15 14 (.mv (.t 1)),kG 16 14 (.fa 49 (.t 2) 2),kG 17 14 (.ld 47 (.t 16)),
 kG 18 14 (.bi .len [47] [.t 17]),kG 19 14 (.bin .geq 3 (.t 15) (.t 18)),kO 20 (.pk (.t 14) (.b true) (.t 19))])
 (.cond (.t 20) (.seq (.reg [kO 21 (.bld 46 []),kN (.st 46 (.t 4) (.t 21)),kO 5 (.mv (.b false))])
 (.ret))
 (.skip)))
 (.seq (.reg [kO 23 (.fa 49 (.t 2) 2),kO 24 (.ld 47 (.t 23)),kM 25 1,kO 26 (.ia 47 (.t 24) (.t 25)),kO 27 (.ld 42 (.t 26)),kO 28 (.call (.fn 57) [.t 27]),
 kM 22 28,kO 29 (.ex (.t 22) 0),kO 30 (.ex (.t 22) 1),kO 6 (.al 46),kN (.st 46 (.t 6) (.t 29)),kM 7 30])
 (.seq (.seq (.reg [kM 31 7,kO 32 (.bin .neq 3 (.t 31) (kI 0)),kM 33 32,kG 34 33 (.fa 46 (.t 6) 1),kG 35 33 (.ld 3 (.t 34)),kG 36 33 (.fa 49 (.t 2) 0),
 kG 37 33 (.ld 3 (.t 36)),kG 38 33 (.bin .neq 3 (.t 35) (.t 37)),kO 39 (.pk (.t 33) (.b true) (.t 38)),kM 40 39,kG 41 40 (.fa 46 (.t 6) 2),
 kG 42 40 (.ld 3 (.t 41)),kG 43 40 (.mv (.t 1)),kG 44 40 (.bin .neq 3 (.t 42) (.t 43)),kO 45 (.pk (.t 40) (.b true) (.t 44))])
 (.cond (.t 45) (.seq (.reg [kO 46 (.bld 46 []),kN (.st 46 (.t 4) (.t 46)),kO 5 (.mv (.b false))])
 (.ret))
 (.skip)))
 (.seq (.reg [kO 47 (.ld 46 (.t 6)),kN (.st 46 (.t 4) (.t 47)),kO 5 (.mv (.b true))])
 (.ret)))))
noncomputable def drw25_0:Array Oper:=((Tryz.f25.body.map regs).getD []).getD 0 #[]
noncomputable def k25:KC:=
 .seq (.reg [kO 1 (.box 38 (.t 0)),kO 2 (.mv (.b false))])
 (.seq (.seq (.reg [kO 5 (.fa 38 (.t 1) 0),kO 6 (.ld 3 (.t 5)),kO 7 (.bin .lss 3 (.t 6) (kI 1)),kM 8 7,kG 9 8 (.fa 38 (.t 1) 0),kG 10 8 (.ld 3 (.t 9)),
 kG 11 8 (.bin .gtr 3 (.t 10) (kI 1073741824)),kO 12 (.pk (.t 8) (.b true) (.t 11)),kM 13 12,kG 14 13 (.fa 38 (.t 1) 2),kG 15 13 (.ld 3 (.t 14)),
 kG 16 13 (.bin .lss 3 (.t 15) (kI 1)),kO 17 (.pk (.t 13) (.b true) (.t 16)),kM 18 17,kG 19 18 (.fa 38 (.t 1) 3),kG 20 18 (.ld 3 (.t 19)),
 kG 21 18 (.bin .lss 3 (.t 20) (kI 1)),kO 22 (.pk (.t 18) (.b true) (.t 21)),kM 23 22,kG 24 23 (.fa 38 (.t 1) 2),kG 25 23 (.ld 3 (.t 24)),
 kG 26 23 (.bin .gtr 3 (.t 25) (kI 14)),kO 27 (.pk (.t 23) (.b true) (.t 26)),kM 28 27,kG 29 28 (.fa 38 (.t 1) 3),kG 30 28 (.ld 3 (.t 29)),
 kG 31 28 (.bin .gtr 3 (.t 30) (kI 14)),kO 32 (.pk (.t 28) (.b true) (.t 31)),kM 33 32,kG 34 33 (.fa 38 (.t 1) 2),kG 35 33 (.ld 3 (.t 34)),
 kG 36 33 (.fa 38 (.t 1) 3),kG 37 33 (.ld 3 (.t 36)),kG 38 33 (.bin .add 3 (.t 35) (.t 37)),kG 39 33 (.bin .gtr 3 (.t 38) (kI 14)),
 kO 40 (.pk (.t 33) (.b true) (.t 39)),kM 41 40,kG 42 41 (.fa 38 (.t 1) 4),kG 43 41 (.ld 36 (.t 42)),kG 44 41 (.bi .len [36] [.t 43]),
 kG 45 41 (.fa 38 (.t 1) 2),kG 46 41 (.ld 3 (.t 45)),kG 47 41 (.fa 38 (.t 1) 3),kG 48 41 (.ld 3 (.t 47)),kG 49 41 (.bin .add 3 (.t 46) (.t 48)),
 kG 50 41 (.bin .neq 3 (.t 44) (.t 49)),kO 51 (.pk (.t 41) (.b true) (.t 50)),kM 52 51,kG 53 52 (.fa 38 (.t 1) 1),kG 54 52 (.ld 3 (.t 53)),
 kG 55 52 (.bin .lss 3 (.t 54) (kI 0)),kO 56 (.pk (.t 52) (.b true) (.t 55)),kM 57 56,kG 58 57 (.fa 38 (.t 1) 1),kG 59 57 (.ld 3 (.t 58)),
 kG 60 57 (.fa 38 (.t 1) 4),kG 61 57 (.ld 36 (.t 60)),kG 62 57 (.bi .len [36] [.t 61]),kG 63 57 (.bin .geq 3 (.t 59) (.t 62)),
 kO 64 (.pk (.t 57) (.b true) (.t 63))])
 (.cond (.t 64) (.seq (.reg [kO 2 (.mv (.b false))])
 (.ret))
 (.skip)))
 (.seq (.seq (.reg [kO 3 (.mv (kI 0))])
 (.block 0 (.loop (.seq (.seq (.reg [kM 65 3,kO 66 (.fa 38 (.t 1) 4),kO 67 (.ld 36 (.t 66)),kO 68 (.bi .len [36] [.t 67]),kO 69 (.bin .lss 3 (.t 65) (.t 68))])
 (.cond (.t 69) (.skip)
 (.exit 0)))
 (.seq (.block 1 (.seq (.seq (.reg [kO 72 (.fa 38 (.t 1) 4),kO 73 (.ld 36 (.t 72)),kM 74 3,kO 75 (.ia 36 (.t 73) (.t 74)),kO 76 (.ld 3 (.t 75)),kO 77 (.bin .lss 3 (.t 76) (kI 1)),
 kM 78 77,kG 79 78 (.fa 38 (.t 1) 4),kG 80 78 (.ld 36 (.t 79)),kG 81 78 (.mv (.t 3)),kG 82 78 (.ia 36 (.t 80) (.t 81)),kG 83 78 (.ld 3 (.t 82)),
 kG 84 78 (.bin .gtr 3 (.t 83) (kI 2147483647)),kO 85 (.pk (.t 78) (.b true) (.t 84))])
 (.cond (.t 85) (.seq (.reg [kO 2 (.mv (.b false))])
 (.ret))
 (.skip)))
 (.seq (.reg [kO 4 (.mv (kI 0))])
 (.block 2 (.loop (.seq (.seq (.reg [kM 86 4,kM 87 3,kO 88 (.bin .lss 3 (.t 86) (.t 87))])
 (.cond (.t 88) (.skip)
 (.exit 2)))
 (.seq (.block 3 (.seq (.drw drw25_0 [kO 91 (.fa 38 (.t 1) 4),kO 92 (.ld 36 (.t 91)),kM 93 4,kO 94 (.ia 36 (.t 92) (.t 93)),kO 95 (.ld 3 (.t 94)),kO 96 (.fa 38 (.t 1) 4),
 kO 97 (.ld 36 (.t 96)),kM 98 3,kO 99 (.ia 36 (.t 97) (.t 98)),kO 100 (.ld 3 (.t 99)),kO 101 (.bin .eql 3 (.t 95) (.t 100))])
 (.cond (.t 101) (.seq (.reg [kO 2 (.mv (.b false))])
 (.ret))
 (.skip))))
 (.reg [kM 89 4,kO 90 (.bin .add 3 (.t 89) (kI 1)),kM 4 90]))))))))
 (.reg [kM 70 3,kO 71 (.bin .add 3 (.t 70) (kI 1)),kM 3 71]))))))
 (.seq (.reg [kO 2 (.mv (.b true))])
 (.ret))))
theorem b25:Body Tryz.prog 25 102 [2] k25:=⟨Enters.of Tryz.func25 (by kernel_rfl) (by kernel_rfl),_,_,Tryz.func25,rfl,by kernel_rfl,rfl,rfl⟩
def k28:KC:=
 .seq (.reg [kO 1 (.box 38 (.t 0)),kO 2 (.mv (.ns))])
 (.seq (.seq (.reg [kO 5 (.ld 38 (.t 1)),kO 6 (.call (.fn 25) [.t 5]),kO 7 (.un .not (.t 6))])
 (.cond (.t 7) (.seq (.reg [kO 2 (.mv (.ns))])
 (.ret))
 (.skip)))
 (.seq (.reg [kO 8 (.bld 77 []),kO 9 (.box 77 (.t 8)),kM 3 9])
 (.seq (.reg [kM 10 3,kO 11 (.fa 38 (.t 1) 0),kO 12 (.ld 3 (.t 11)),kO 13 (.call (.fn 40) [.t 10,.t 12])])
 (.seq (.reg [kM 14 3,kO 15 (.fa 38 (.t 1) 1),kO 16 (.ld 3 (.t 15)),kO 17 (.cvt 3 5 (.t 16)),kO 18 (.call (.fn 39) [.t 14,.t 17])])
 (.seq (.reg [kM 19 3,kO 20 (.fa 38 (.t 1) 2),kO 21 (.ld 3 (.t 20)),kO 22 (.cvt 3 5 (.t 21)),kO 23 (.call (.fn 39) [.t 19,.t 22])])
 (.seq (.reg [kM 24 3,kO 25 (.fa 38 (.t 1) 3),kO 26 (.ld 3 (.t 25)),kO 27 (.cvt 3 5 (.t 26)),kO 28 (.call (.fn 39) [.t 24,.t 27])])
 (.seq (.seq (.reg [kO 4 (.mv (kI 0))])
 (.block 0 (.loop (.seq (.seq (.reg [kM 29 4,kO 30 (.fa 38 (.t 1) 4),kO 31 (.ld 36 (.t 30)),kO 32 (.bi .len [36] [.t 31]),kO 33 (.bin .lss 3 (.t 29) (.t 32))])
 (.cond (.t 33) (.skip)
 (.exit 0)))
 (.seq (.block 1 (.reg [kM 36 3,kO 37 (.fa 38 (.t 1) 4),kO 38 (.ld 36 (.t 37)),kM 39 4,kO 40 (.ia 36 (.t 38) (.t 39)),kO 41 (.ld 3 (.t 40)),
 kO 42 (.call (.fn 40) [.t 36,.t 41])]))
 (.reg [kM 34 4,kO 35 (.bin .add 3 (.t 34) (kI 1)),kM 4 35]))))))
 (.seq (.reg [kM 43 3,kO 44 (.nc (.t 43)),kO 45 (.fa 77 (.t 44) 0),kO 46 (.ld 42 (.t 45)),kM 2 46])
 (.ret)))))))))
theorem b28:Body Tryz.prog 28 47 [2] k28:=⟨Enters.of Tryz.func28 (by kernel_rfl) (by kernel_rfl),_,_,Tryz.func28,rfl,by kernel_rfl,rfl,rfl⟩
def k30:KC:=
 .seq (.reg [kO 1 (.box 49 (.t 0)),kO 2 (.al 38),kO 3 (.mv (.b false))])
 (.seq (.reg [kO 9 (.ld 49 (.t 1)),kO 10 (.fa 49 (.t 1) 2),kO 11 (.ld 47 (.t 10)),kO 12 (.bi .len [47] [.t 11]),kO 13 (.bin .sub 3 (.t 12) (kI 1)),
 kO 14 (.call (.fn 61) [.t 9,.t 13]),kM 8 14,kO 15 (.ex (.t 8) 0),kO 16 (.ex (.t 8) 1),kO 4 (.al 46),kN (.st 46 (.t 4) (.t 15)),kM 5 16])
 (.seq (.seq (.reg [kM 17 5,kO 18 (.un .not (.t 17)),kM 19 18,kG 20 19 (.fa 46 (.t 4) 0),kG 21 19 (.ld 3 (.t 20)),kG 22 19 (.bin .neq 3 (.t 21) (kI 5)),
 kO 23 (.pk (.t 19) (.b true) (.t 22))])
 (.cond (.t 23) (.seq (.reg [kO 24 (.bld 38 []),kN (.st 38 (.t 2) (.t 24)),kO 3 (.mv (.b false))])
 (.ret))
 (.skip)))
 (.seq (.reg [kO 26 (.fa 46 (.t 4) 3),kO 27 (.ld 42 (.t 26)),kO 28 (.call (.fn 62) [.t 27]),kM 25 28,kO 29 (.ex (.t 25) 0),kO 30 (.ex (.t 25) 1),
 kO 6 (.al 38),kN (.st 38 (.t 6) (.t 29)),kM 7 30])
 (.seq (.reg [kO 31 (.ld 38 (.t 6)),kM 32 7,kO 33 (.bin .eql 25 (.t 32) (kI 0)),kN (.st 38 (.t 2) (.t 31)),kM 3 33])
 (.ret)))))
def k31:KC:=
 .seq (.reg [kO 4 (.mv (.b false))])
 (.seq (.reg [kM 5 0,kM 6 1,kO 7 (.call (.fn 63) [.t 5,.t 6]),kO 8 (.bin .geq 3 (.t 7) (kI 0)),kM 4 8])
 (.ret))
theorem b31:Body Tryz.prog 31 9 [4] k31:=⟨Enters.of Tryz.func31 (by kernel_rfl) (by kernel_rfl),_,_,Tryz.func31,rfl,by kernel_rfl,rfl,rfl⟩
def k32:KC:=
 .seq (.reg [kO 2 (.box 38 (.t 0)),kO 3 (.mv (.b false))])
 (.seq (.reg [kO 4 (.fa 38 (.t 2) 0),kO 5 (.ld 3 (.t 4)),kO 6 (.fa 38 (.t 1) 0),kO 7 (.ld 3 (.t 6)),kO 8 (.bin .eql 3 (.t 5) (.t 7)),kM 3 8])
 (.ret))
theorem b32:Body Tryz.prog 32 9 [3] k32:=⟨Enters.of Tryz.func32 (by kernel_rfl) (by kernel_rfl),_,_,Tryz.func32,rfl,by kernel_rfl,rfl,rfl⟩
def k33:KC:=
 .seq (.reg [kM 5 0,kO 6 (.bi .len [33] [.t 5]),kM 4 6])
 (.reg [kM 7 0,kM 8 4,kM 9 4,kO 10 (.cvt 3 80 (.t 9)),kO 11 (.call (.fn 65) [.t 10]),kM 12 1,
 kO 13 (.call (.fn 64) [.t 7,.i .i64 0,.t 8,.t 11,.t 12])])
theorem b33:Body Tryz.prog 33 14 [] k33:=⟨Enters.of Tryz.func33 (by kernel_rfl) (by kernel_rfl),_,_,Tryz.func33,rfl,by kernel_rfl,rfl,rfl⟩
def k34:KC:=
 .seq (.reg [kO 2 (.box 38 (.t 0)),kO 3 (.box 38 (.t 1)),kO 4 (.mv (kI 0))])
 (.seq (.reg [kO 5 (.fa 38 (.t 2) 0),kO 6 (.ld 3 (.t 5)),kO 7 (.fa 38 (.t 3) 0),kO 8 (.ld 3 (.t 7)),kO 9 (.call (.fn 35) [.t 6,.t 8]),kM 4 9])
 (.ret))
theorem b34:Body Tryz.prog 34 10 [4] k34:=⟨Enters.of Tryz.func34 (by kernel_rfl) (by kernel_rfl),_,_,Tryz.func34,rfl,by kernel_rfl,rfl,rfl⟩
def k35:KC:=
 .seq (.reg [kO 4 (.mv (kI 0))])
 (.seq (.reg [kM 7 0,kO 8 (.call (.fn 66) [.t 7]),kM 5 8])
 (.seq (.reg [kM 9 1,kO 10 (.call (.fn 66) [.t 9]),kM 6 10])
 (.seq (.seq (.reg [kM 11 5])
 (.cond (.t 11) (.seq (.seq (.reg [kM 12 6])
 (.cond (.t 12) (.seq (.reg [kO 4 (.mv (kI 0))])
 (.ret))
 (.skip)))
 (.seq (.reg [kO 4 (.mv (kI (-1)))])
 (.ret)))
 (.skip)))
 (.seq (.seq (.reg [kM 13 6])
 (.cond (.t 13) (.seq (.reg [kO 4 (.mv (kI 1))])
 (.ret))
 (.skip)))
 (.seq (.seq (.reg [kM 14 0,kM 15 1,kO 16 (.bin .lss 3 (.t 14) (.t 15))])
 (.cond (.t 16) (.seq (.reg [kO 4 (.mv (kI (-1)))])
 (.ret))
 (.skip)))
 (.seq (.seq (.reg [kM 17 0,kM 18 1,kO 19 (.bin .gtr 3 (.t 17) (.t 18))])
 (.cond (.t 19) (.seq (.reg [kO 4 (.mv (kI 1))])
 (.ret))
 (.skip)))
 (.seq (.reg [kO 4 (.mv (kI 0))])
 (.ret))))))))
theorem b35:Body Tryz.prog 35 20 [4] k35:=⟨Enters.of Tryz.func35 (by kernel_rfl) (by kernel_rfl),_,_,Tryz.func35,rfl,by kernel_rfl,rfl,rfl⟩
def k36:KC:=
 .seq (.reg [kO 1 (.box 49 (.t 0)),kO 2 (.al 38),kO 3 (.mv (.b false))])
 (.seq (.reg [kO 9 (.ld 49 (.t 1)),kO 10 (.fa 49 (.t 1) 2),kO 11 (.ld 47 (.t 10)),kO 12 (.bi .len [47] [.t 11]),kO 13 (.bin .sub 3 (.t 12) (kI 1)),
 kO 14 (.call (.fn 24) [.t 9,.t 13]),kM 8 14,kO 15 (.ex (.t 8) 0),kO 16 (.ex (.t 8) 1),kO 4 (.al 46),kN (.st 46 (.t 4) (.t 15)),kM 5 16])
 (.seq (.seq (.reg [kM 17 5,kO 18 (.un .not (.t 17)),kM 19 18,kG 20 19 (.fa 46 (.t 4) 0),kG 21 19 (.ld 3 (.t 20)),kG 22 19 (.bin .neq 3 (.t 21) (kI 5)),
 kO 23 (.pk (.t 19) (.b true) (.t 22))])
 (.cond (.t 23) (.seq (.reg [kO 24 (.bld 38 []),kN (.st 38 (.t 2) (.t 24)),kO 3 (.mv (.b false))])
 (.ret))
 (.skip)))
 (.seq (.reg [kO 26 (.fa 46 (.t 4) 3),kO 27 (.ld 42 (.t 26)),kO 28 (.call (.fn 67) [.t 27]),kM 25 28,kO 29 (.ex (.t 25) 0),kO 30 (.ex (.t 25) 1),
 kO 6 (.al 38),kN (.st 38 (.t 6) (.t 29)),kM 7 30])
 (.seq (.reg [kO 31 (.ld 38 (.t 6)),kM 32 7,kO 33 (.bin .eql 3 (.t 32) (kI 0)),kN (.st 38 (.t 2) (.t 31)),kM 3 33])
 (.ret)))))
def k37:KC:=
 .seq (.reg [kO 4 (.mv (.b false))])
 (.seq (.reg [kM 5 0,kM 6 1,kO 7 (.call (.fn 68) [.t 5,.t 6]),kO 8 (.bin .geq 3 (.t 7) (kI 0)),kM 4 8])
 (.ret))
theorem b37:Body Tryz.prog 37 9 [4] k37:=⟨Enters.of Tryz.func37 (by kernel_rfl) (by kernel_rfl),_,_,Tryz.func37,rfl,by kernel_rfl,rfl,rfl⟩
def k38:KC:=
 .seq (.reg [kO 2 (.mv (.ns))])
 (.seq (.seq (.reg [kM 3 0,kO 4 (.bin .eql 36 (.t 3) (.ns))])
 (.cond (.t 4) (.seq (.reg [kO 2 (.mv (.ns))])
 (.ret))
 (.skip)))
 (.seq (.reg [kO 5 (.bsl 36 0 []),kM 6 0,kO 7 (.bi .append [36,36] [.t 5,.t 6]),kM 2 7])
 (.ret)))
theorem b38:Body Tryz.prog 38 8 [2] k38:=⟨Enters.of Tryz.func38 (by kernel_rfl) (by kernel_rfl),_,_,Tryz.func38,rfl,by kernel_rfl,rfl,rfl⟩
def k39:KC:=
 .reg [kM 4 0,kM 5 0,kO 6 (.nc (.t 5)),kO 7 (.fa 77 (.t 6) 0),kO 8 (.ld 42 (.t 7)),kM 9 1,kO 10 (.bsl 42 1 [(0,.t 9)]),
 kO 11 (.bi .append [42,42] [.t 8,.t 10]),kO 12 (.nc (.t 4)),kO 13 (.fa 77 (.t 12) 0),kN (.st 42 (.t 13) (.t 11))]
theorem b39:Body Tryz.prog 39 14 [] k39:=⟨Enters.of Tryz.func39 (by kernel_rfl) (by kernel_rfl),_,_,Tryz.func39,rfl,by kernel_rfl,rfl,rfl⟩
def k40:KC:=
 .seq (.reg [kM 5 1,kO 6 (.cvt 3 108 (.t 5)),kM 4 6])
 (.reg [kM 7 0,kM 8 0,kO 9 (.nc (.t 8)),kO 10 (.fa 77 (.t 9) 0),kO 11 (.ld 42 (.t 10)),kM 12 4,kO 13 (.bin .shr 108 (.t 12) (.i .u64 24)),
 kO 14 (.bin .and 108 (.t 13) (.i .u64 255)),kO 15 (.cvt 108 5 (.t 14)),kM 16 4,kO 17 (.bin .shr 108 (.t 16) (.i .u64 16)),
 kO 18 (.bin .and 108 (.t 17) (.i .u64 255)),kO 19 (.cvt 108 5 (.t 18)),kM 20 4,kO 21 (.bin .shr 108 (.t 20) (.i .u64 8)),
 kO 22 (.bin .and 108 (.t 21) (.i .u64 255)),kO 23 (.cvt 108 5 (.t 22)),kM 24 4,kO 25 (.bin .and 108 (.t 24) (.i .u64 255)),
 kO 26 (.cvt 108 5 (.t 25)),kO 27 (.bsl 42 4 [(0,.t 15),(1,.t 19),(2,.t 23),(3,.t 26)]),kO 28 (.bi .append [42,42] [.t 11,.t 27]),
 kO 29 (.nc (.t 7)),kO 30 (.fa 77 (.t 29) 0),kN (.st 42 (.t 30) (.t 28))])
theorem b40:Body Tryz.prog 40 31 [] k40:=⟨Enters.of Tryz.func40 (by kernel_rfl) (by kernel_rfl),_,_,Tryz.func40,rfl,by kernel_rfl,rfl,rfl⟩
def k41:KC:=
 .seq (.reg [kO 2 (.mv (.i .u32 0))])
 (.seq (.reg [kM 3 0,kO 4 (.call (.fn 69) [.i .u32 0,.t 3]),kM 2 4])
 (.ret))
theorem b41:Body Tryz.prog 41 5 [2] k41:=⟨Enters.of Tryz.func41 (by kernel_rfl) (by kernel_rfl),_,_,Tryz.func41,rfl,by kernel_rfl,rfl,rfl⟩
def k42:KC:=
 .seq (.reg [kO 4 (.mv (.ns))])
 (.seq (.seq (.reg [kM 5 1,kO 6 (.bin .lss 3 (.t 5) (kI 0))])
 (.cond (.t 6) (.reg [kO 7 (.unk),kN (.unk)])
 (.skip)))
 (.seq (.seq (.reg [kM 8 1,kM 9 0,kO 10 (.bi .cap [22] [.t 9]),kM 11 0,kO 12 (.bi .len [22] [.t 11]),kO 13 (.bin .sub 3 (.t 10) (.t 12)),
 kO 14 (.bin .sub 3 (.t 8) (.t 13)),kM 1 14])
 (.seq (.reg [kM 15 1,kO 16 (.bin .gtr 3 (.t 15) (kI 0))])
 (.cond (.t 16) (.reg [kM 17 0,kM 18 0,kO 19 (.bi .cap [22] [.t 18]),kO 20 (.sli 22 (.t 17) none (some (.t 19)) none),kM 21 1,
 kO 22 (.bi .append [22,3] [.t 20,.t 21]),kM 23 0,kO 24 (.bi .len [22] [.t 23]),kO 25 (.sli 22 (.t 22) none (some (.t 24)) none),kM 0 25])
 (.skip))))
 (.seq (.reg [kM 26 0,kM 4 26])
 (.ret))))
theorem b42:Body Tryz.prog 42 27 [4] k42:=⟨Enters.of Tryz.func42 (by kernel_rfl) (by kernel_rfl),_,_,Tryz.func42,rfl,by kernel_rfl,rfl,rfl⟩
def k43:KC:=
 .seq (.reg [kO 1 (.box 49 (.t 0)),kO 2 (.mv (.b false))])
 (.seq (.reg [kO 3 (.fa 49 (.t 1) 3),kO 4 (.ld 4 (.t 3)),kM 2 4])
 (.ret))
theorem b43:Body Tryz.prog 43 5 [2] k43:=⟨Enters.of Tryz.func43 (by kernel_rfl) (by kernel_rfl),_,_,Tryz.func43,rfl,by kernel_rfl,rfl,rfl⟩
def k44:KC:=
 .seq (.reg [kO 1 (.box 38 (.t 0)),kO 2 (.mv (.b false))])
 (.seq (.seq (.reg [kO 6 (.fa 38 (.t 1) 0),kO 7 (.ld 3 (.t 6)),kO 8 (.call (.fn 70) [.t 7,.i .i64 1,.i .i64 1073741824]),kO 9 (.un .not (.t 8)),kM 10 9,
 kG 11 10 (.fa 38 (.t 1) 2),kG 12 10 (.ld 3 (.t 11)),kG 13 10 (.call (.fn 70) [.t 12,.i .i64 1,.i .i64 14]),kG 14 10 (.un .not (.t 13)),
 kO 15 (.pk (.t 10) (.b true) (.t 14)),kM 16 15,kG 17 16 (.fa 38 (.t 1) 3),kG 18 16 (.ld 3 (.t 17)),kG 19 16 (.fa 38 (.t 1) 2),
 kG 20 16 (.ld 3 (.t 19)),kG 21 16 (.bin .sub 3 (kI 14) (.t 20)),kG 22 16 (.call (.fn 70) [.t 18,.i .i64 1,.t 21]),kG 23 16 (.un .not (.t 22)),
 kO 24 (.pk (.t 16) (.b true) (.t 23))])
 (.cond (.t 24) (.seq (.reg [kO 2 (.mv (.b false))])
 (.ret))
 (.skip)))
 (.seq (.reg [kO 25 (.fa 38 (.t 1) 2),kO 26 (.ld 3 (.t 25)),kO 27 (.fa 38 (.t 1) 3),kO 28 (.ld 3 (.t 27)),kO 29 (.bin .add 3 (.t 26) (.t 28)),kM 3 29])
 (.seq (.seq (.reg [kO 30 (.fa 38 (.t 1) 1),kO 31 (.ld 3 (.t 30)),kM 32 3,kO 33 (.bin .sub 3 (.t 32) (kI 1)),kO 34 (.call (.fn 70) [.t 31,.i .i64 0,.t 33]),
 kO 35 (.un .not (.t 34)),kM 36 35,kG 37 36 (.fa 38 (.t 1) 4),kG 38 36 (.ld 36 (.t 37)),kG 39 36 (.bi .len [36] [.t 38]),kG 40 36 (.mv (.t 3)),
 kG 41 36 (.bin .neq 3 (.t 39) (.t 40)),kO 42 (.pk (.t 36) (.b true) (.t 41))])
 (.cond (.t 42) (.seq (.reg [kO 2 (.mv (.b false))])
 (.ret))
 (.skip)))
 (.seq (.seq (.reg [kO 43 (.fa 38 (.t 1) 4),kO 44 (.ld 36 (.t 43)),kO 45 (.bi .len [36] [.t 44]),kO 46 (.mv (kI 0))])
 (.block 0 (.loop (.seq (.reg [kO 47 (.bin .lss 3 (.t 46) (.t 45))])
 (.seq (.cond (.t 47) (.skip)
 (.exit 0))
 (.seq (.block 1 (.seq (.reg [kM 48 46,kO 49 (.ia 36 (.t 44) (.t 46)),kO 50 (.ld 3 (.t 49)),kM 4 48,kM 5 50])
 (.seq (.reg [kM 51 5,kO 52 (.call (.fn 70) [.t 51,.i .i64 1,.i .i64 2147483647]),kO 53 (.un .not (.t 52)),kM 54 53,kG 55 54 (.fa 38 (.t 1) 4),
 kG 56 54 (.ld 36 (.t 55)),kG 57 54 (.mv (.t 4)),kG 58 54 (.sli 36 (.t 56) none (some (.t 57)) none),kG 59 54 (.mv (.t 5)),
 kG 60 54 (.call (.fn 37) [.t 58,.t 59]),kO 61 (.pk (.t 54) (.b true) (.t 60))])
 (.cond (.t 61) (.seq (.reg [kO 2 (.mv (.b false))])
 (.ret))
 (.skip)))))
 (.reg [kO 62 (.bin .add 3 (.t 46) (kI 1)),kM 46 62])))))))
 (.seq (.reg [kO 2 (.mv (.b true))])
 (.ret))))))
theorem b44:Body Tryz.prog 44 63 [2] k44:=⟨Enters.of Tryz.func44 (by kernel_rfl) (by kernel_rfl),_,_,Tryz.func44,rfl,by kernel_rfl,rfl,rfl⟩
def k45:KC:=
 .seq (.reg [kO 4 (.mv (.b false))])
 (.seq (.reg [kM 5 0,kM 6 1,kO 7 (.call (.fn 71) [.t 5,.t 6]),kO 8 (.bin .geq 3 (.t 7) (kI 0)),kM 4 8])
 (.ret))
theorem b45:Body Tryz.prog 45 9 [4] k45:=⟨Enters.of Tryz.func45 (by kernel_rfl) (by kernel_rfl),_,_,Tryz.func45,rfl,by kernel_rfl,rfl,rfl⟩
def k46:KC:=
 .seq (.reg [kO 2 (.mv (kI 0))])
 (.seq (.reg [kO 3 (.mv (kI 0))])
 (.seq (.seq (.reg [kM 6 0,kO 7 (.bi .len [22] [.t 6]),kO 8 (.mv (kI 0))])
 (.block 0 (.loop (.seq (.reg [kO 9 (.bin .lss 3 (.t 8) (.t 7))])
 (.seq (.cond (.t 9) (.skip)
 (.exit 0))
 (.seq (.block 1 (.seq (.reg [kO 10 (.ia 22 (.t 6) (.t 8)),kO 11 (.ld 49 (.t 10)),kO 5 (.al 49),kN (.st 49 (.t 5) (.t 11))])
 (.seq (.reg [kO 12 (.fa 49 (.t 5) 3),kO 13 (.ld 4 (.t 12)),kO 14 (.un .not (.t 13))])
 (.cond (.t 14) (.reg [kM 15 3,kO 16 (.fa 49 (.t 5) 2),kO 17 (.ld 47 (.t 16)),kO 18 (.bi .len [47] [.t 17]),kO 19 (.bi .max [3,3] [.t 15,.t 18]),kM 3 19])
 (.skip)))))
 (.reg [kO 20 (.bin .add 3 (.t 8) (kI 1)),kM 8 20])))))))
 (.seq (.reg [kM 21 3,kM 2 21])
 (.ret))))
theorem b46:Body Tryz.prog 46 22 [2] k46:=⟨Enters.of Tryz.func46 (by kernel_rfl) (by kernel_rfl),_,_,Tryz.func46,rfl,by kernel_rfl,rfl,rfl⟩
def k47:KC:=
 .seq (.reg [kO 4 (.mv (.b false))])
 (.seq (.seq (.reg [kM 7 0,kO 8 (.bi .len [22] [.t 7]),kO 9 (.mv (kI 0))])
 (.block 0 (.loop (.seq (.reg [kO 10 (.bin .lss 3 (.t 9) (.t 8))])
 (.seq (.cond (.t 10) (.skip)
 (.exit 0))
 (.seq (.block 1 (.seq (.reg [kO 11 (.ia 22 (.t 7) (.t 9)),kO 12 (.ld 49 (.t 11)),kO 6 (.al 49),kN (.st 49 (.t 6) (.t 12))])
 (.seq (.reg [kM 13 1,kO 14 (.ld 49 (.t 6)),kO 15 (.call (.t 13) [.t 14]),kO 16 (.un .not (.t 15))])
 (.cond (.t 16) (.seq (.reg [kO 4 (.mv (.b false))])
 (.ret))
 (.skip)))))
 (.reg [kO 17 (.bin .add 3 (.t 9) (kI 1)),kM 9 17])))))))
 (.seq (.reg [kO 4 (.mv (.b true))])
 (.ret)))
theorem b47:Body Tryz.prog 47 18 [4] k47:=⟨Enters.of Tryz.func47 (by kernel_rfl) (by kernel_rfl),_,_,Tryz.func47,rfl,by kernel_rfl,rfl,rfl⟩
def k48:KC:=
 .seq (.reg [kO 1 (.box 49 (.t 0)),kO 2 (.mv (.b false))])
 (.seq (.seq (.reg [kO 6 (.fa 49 (.t 1) 2),kO 7 (.ld 47 (.t 6)),kO 8 (.bi .len [47] [.t 7]),kO 9 (.mv (kI 0))])
 (.block 0 (.loop (.seq (.reg [kO 10 (.bin .lss 3 (.t 9) (.t 8))])
 (.seq (.cond (.t 10) (.skip)
 (.exit 0))
 (.seq (.block 1 (.seq (.reg [kM 11 9,kM 3 11])
 (.seq (.reg [kO 13 (.ld 49 (.t 1)),kM 14 3,kO 15 (.call (.fn 61) [.t 13,.t 14]),kM 12 15,kO 16 (.ex (.t 12) 0),kO 17 (.ex (.t 12) 1),kO 4 (.al 46),
 kN (.st 46 (.t 4) (.t 16)),kM 5 17])
 (.seq (.reg [kM 18 5,kO 19 (.un .not (.t 18))])
 (.cond (.t 19) (.seq (.reg [kO 2 (.mv (.b false))])
 (.ret))
 (.skip))))))
 (.reg [kO 20 (.bin .add 3 (.t 9) (kI 1)),kM 9 20])))))))
 (.seq (.reg [kO 2 (.mv (.b true))])
 (.ret)))
theorem b48:Body Tryz.prog 48 21 [2] k48:=⟨Enters.of Tryz.func48 (by kernel_rfl) (by kernel_rfl),_,_,Tryz.func48,rfl,by kernel_rfl,rfl,rfl⟩
def k49:KC:=
 .seq (.reg [kO 1 (.box 49 (.t 0)),kO 2 (.mv (.b false))])
 (.seq (.reg [kO 3 (.fa 49 (.t 1) 2),kO 4 (.ld 47 (.t 3)),kO 5 (.bi .len [47] [.t 4]),kO 6 (.bin .gtr 3 (.t 5) (kI 0)),kM 2 6])
 (.ret))
theorem b49:Body Tryz.prog 49 7 [2] k49:=⟨Enters.of Tryz.func49 (by kernel_rfl) (by kernel_rfl),_,_,Tryz.func49,rfl,by kernel_rfl,rfl,rfl⟩
noncomputable def drw50_0:Array Oper:=((Tryz.f50.body.map regs).getD []).getD 0 #[]
noncomputable def k50:KC:=
 .seq (.reg [kO 2 (.box 49 (.t 0)),kO 3 (.mv (.b false))])
 (.seq (.drw drw50_0 [kO 4 (.ld 22 (.t 1)),kO 5 (.call (.fn 46) [.t 4]),kO 6 (.bin .add 3 (.t 5) (kI 2)),kO 7 (.fa 49 (.t 2) 1),kO 8 (.ld 3 (.t 7)),
 kO 9 (.bin .gtr 3 (.t 6) (.t 8)),kM 3 9])
 (.ret))
theorem b50:Body Tryz.prog 50 10 [3] k50:=⟨Enters.of Tryz.func50 (by kernel_rfl) (by kernel_rfl),_,_,Tryz.func50,rfl,by kernel_rfl,rfl,rfl⟩
def k51:KC:=
 .seq (.reg [kO 4 (.mv (.ns)),kO 5 (.mv (kI 0))])
 (.seq (.seq (.reg [kM 8 0,kO 9 (.bi .len [47] [.t 8]),kO 10 (.bin .lss 3 (.t 9) (kI 1)),kM 11 10,kG 12 11 (.mv (.t 0)),kG 13 11 (.bi .len [47] [.t 12]),
 kG 14 11 (.bin .gtr 3 (.t 13) (kI 255)),kO 15 (.pk (.t 11) (.b true) (.t 14)),kM 16 15,kG 17 16 (.mv (.t 1)),
 kG 18 16 (.bin .lss 3 (.t 17) (kI 0)),kO 19 (.pk (.t 16) (.b true) (.t 18)),kM 20 19,kG 21 20 (.mv (.t 1)),kG 22 20 (.mv (.t 0)),
 kG 23 20 (.bi .len [47] [.t 22]),kG 24 20 (.bin .sub 3 (kI 255) (.t 23)),kG 25 20 (.bin .gtr 3 (.t 21) (.t 24)),
 kO 26 (.pk (.t 20) (.b true) (.t 25)),kM 27 26,kG 28 27 (.mv (.t 0)),kG 29 27 (.call (.fn 72) [.t 28]),kG 30 27 (.un .not (.t 29)),
 kO 31 (.pk (.t 27) (.b true) (.t 30))])
 (.cond (.t 31) (.seq (.reg [kO 4 (.mv (.ns)),kO 5 (.mv (kI 1))])
 (.ret))
 (.skip)))
 (.seq (.seq (.reg [kM 32 1,kO 33 (.bin .eql 3 (.t 32) (kI 0))])
 (.cond (.t 33) (.seq (.reg [kO 4 (.mv (.ns)),kO 5 (.mv (kI 0))])
 (.ret))
 (.skip)))
 (.seq (.reg [kM 35 0,kO 36 (.bi .len [47] [.t 35]),kM 37 1,kO 38 (.call (.fn 73) [.t 36,.t 37]),kM 34 38,kO 39 (.ex (.t 34) 0),kO 40 (.ex (.t 34) 1),
 kM 6 39,kM 7 40])
 (.seq (.seq (.reg [kM 41 7,kO 42 (.bin .neq 25 (.t 41) (kI 0))])
 (.cond (.t 42) (.seq (.reg [kM 43 7,kO 4 (.mv (.ns)),kM 5 43])
 (.ret))
 (.skip)))
 (.seq (.reg [kM 44 6,kM 45 0,kO 46 (.call (.fn 74) [.t 44,.t 45]),kM 4 46,kO 5 (.mv (kI 0))])
 (.ret))))))
theorem b51:Body Tryz.prog 51 47 [4,5] k51:=⟨Enters.of Tryz.func51 (by kernel_rfl) (by kernel_rfl),_,_,Tryz.func51,rfl,by kernel_rfl,rfl,rfl⟩
def k52:KC:=
 .seq (.reg [kO 4 (.mv (.ns))])
 (.seq (.reg [kO 5 (.mv (.ns))])
 (.seq (.seq (.reg [kM 8 0,kO 9 (.bi .len [22] [.t 8]),kO 10 (.mv (kI 0))])
 (.block 0 (.loop (.seq (.reg [kO 11 (.bin .lss 3 (.t 10) (.t 9))])
 (.seq (.cond (.t 11) (.skip)
 (.exit 0))
 (.seq (.block 1 (.seq (.reg [kO 12 (.ia 22 (.t 8) (.t 10)),kO 13 (.ld 49 (.t 12)),kO 7 (.al 49),kN (.st 49 (.t 7) (.t 13))])
 (.reg [kM 14 5,kO 15 (.ld 49 (.t 7)),kM 16 1,kO 17 (.call (.fn 75) [.t 15,.t 16]),kO 18 (.bsl 47 1 [(0,.t 17)]),
 kO 19 (.bi .append [47,47] [.t 14,.t 18]),kM 5 19])))
 (.reg [kO 20 (.bin .add 3 (.t 10) (kI 1)),kM 10 20])))))))
 (.seq (.reg [kM 21 5,kM 4 21])
 (.ret))))
theorem b52:Body Tryz.prog 52 22 [4] k52:=⟨Enters.of Tryz.func52 (by kernel_rfl) (by kernel_rfl),_,_,Tryz.func52,rfl,by kernel_rfl,rfl,rfl⟩
def k53:KC:=
 .seq (.reg [kO 4 (.mv (.b false))])
 (.seq (.reg [kM 5 0,kM 6 1,kO 7 (.call (.fn 76) [.t 5,.t 6]),kO 8 (.bin .geq 3 (.t 7) (kI 0)),kM 4 8])
 (.ret))
theorem b53:Body Tryz.prog 53 9 [4] k53:=⟨Enters.of Tryz.func53 (by kernel_rfl) (by kernel_rfl),_,_,Tryz.func53,rfl,by kernel_rfl,rfl,rfl⟩
def k54:KC:=
 .seq (.reg [kO 2 (.mv (.b false))])
 (.seq (.reg [kM 3 0,kO 4 (.bi .len [42] [.t 3]),kO 5 (.bin .eql 3 (.t 4) (kI 0)),kM 2 5])
 (.ret))
theorem b54:Body Tryz.prog 54 6 [2] k54:=⟨Enters.of Tryz.func54 (by kernel_rfl) (by kernel_rfl),_,_,Tryz.func54,rfl,by kernel_rfl,rfl,rfl⟩
def k55:KC:=
 .seq (.reg [kO 1 (.box 38 (.t 0)),kO 2 (.mv (.ns))])
 (.seq (.seq (.reg [kO 8 (.ld 38 (.t 1)),kO 9 (.call (.fn 44) [.t 8]),kO 10 (.un .not (.t 9))])
 (.cond (.t 10) (.seq (.reg [kO 2 (.mv (.ns))])
 (.ret))
 (.skip)))
 (.seq (.reg [kO 11 (.bld 119 []),kO 12 (.box 119 (.t 11)),kM 3 12])
 (.seq (.reg [kM 13 3,kO 14 (.fa 38 (.t 1) 0),kO 15 (.ld 3 (.t 14)),kO 16 (.call (.fn 77) [.t 13,.t 15])])
 (.seq (.seq (.reg [kO 17 (.fa 38 (.t 1) 1),kO 18 (.ld 3 (.t 17)),kO 19 (.fa 38 (.t 1) 2),kO 20 (.ld 3 (.t 19)),kO 21 (.fa 38 (.t 1) 3),kO 22 (.ld 3 (.t 21)),
 kO 23 (.bsl 36 3 [(0,.t 18),(1,.t 20),(2,.t 22)]),kO 24 (.bi .len [36] [.t 23]),kO 25 (.mv (kI 0))])
 (.block 0 (.loop (.seq (.reg [kO 26 (.bin .lss 3 (.t 25) (.t 24))])
 (.seq (.cond (.t 26) (.skip)
 (.exit 0))
 (.seq (.block 1 (.seq (.reg [kO 27 (.ia 36 (.t 23) (.t 25)),kO 28 (.ld 3 (.t 27)),kM 5 28])
 (.reg [kM 29 3,kM 30 5,kO 31 (.cvt 3 5 (.t 30)),kO 32 (.call (.fn 78) [.t 29,.t 31])])))
 (.reg [kO 33 (.bin .add 3 (.t 25) (kI 1)),kM 25 33])))))))
 (.seq (.seq (.reg [kO 34 (.fa 38 (.t 1) 4),kO 35 (.ld 36 (.t 34)),kO 36 (.bi .len [36] [.t 35]),kO 37 (.mv (kI 0))])
 (.block 2 (.loop (.seq (.reg [kO 38 (.bin .lss 3 (.t 37) (.t 36))])
 (.seq (.cond (.t 38) (.skip)
 (.exit 2))
 (.seq (.block 3 (.seq (.reg [kO 39 (.ia 36 (.t 35) (.t 37)),kO 40 (.ld 3 (.t 39)),kM 7 40])
 (.reg [kM 41 3,kM 42 7,kO 43 (.call (.fn 77) [.t 41,.t 42])])))
 (.reg [kO 44 (.bin .add 3 (.t 37) (kI 1)),kM 37 44])))))))
 (.seq (.reg [kM 45 3,kO 46 (.call (.fn 79) [.t 45]),kM 2 46])
 (.ret)))))))
theorem b55:Body Tryz.prog 55 47 [2] k55:=⟨Enters.of Tryz.func55 (by kernel_rfl) (by kernel_rfl),_,_,Tryz.func55,rfl,by kernel_rfl,rfl,rfl⟩
def k56:KC:=
 .seq (.reg [kO 1 (.box 46 (.t 0)),kO 2 (.mv (.ns)),kO 3 (.mv (kI 0))])
 (.seq (.seq (.reg [kO 5 (.ld 46 (.t 1)),kO 6 (.call (.fn 80) [.t 5]),kM 4 6])
 (.seq (.reg [kM 7 4,kO 8 (.bin .neq 25 (.t 7) (kI 0))])
 (.cond (.t 8) (.seq (.reg [kM 9 4,kO 2 (.mv (.ns)),kM 3 9])
 (.ret))
 (.skip))))
 (.seq (.reg [kO 10 (.ld 46 (.t 1)),kO 11 (.call (.fn 81) [.t 10]),kM 2 11,kO 3 (.mv (kI 0))])
 (.ret)))
theorem b56:Body Tryz.prog 56 12 [2,3] k56:=⟨Enters.of Tryz.func56 (by kernel_rfl) (by kernel_rfl),_,_,Tryz.func56,rfl,by kernel_rfl,rfl,rfl⟩
def k57:KC:=
 .seq (.reg [kO 2 (.al 46),kO 3 (.mv (kI 0))])
 (.seq (.reg [kM 9 0,kO 10 (.call (.fn 82) [.t 9]),kM 4 10])
 (.seq (.reg [kM 11 4,kO 12 (.call (.fn 83) [.t 11]),kO 13 (.cvt 5 3 (.t 12)),kM 14 4,kO 15 (.call (.fn 84) [.t 14]),kM 16 4,kO 17 (.call (.fn 84) [.t 16]),
 kO 18 (.bld 46 [(0,.t 13),(1,.t 15),(2,.t 17)]),kO 5 (.al 46),kN (.st 46 (.t 5) (.t 18))])
 (.seq (.reg [kM 19 4,kO 20 (.call (.fn 83) [.t 19]),kO 21 (.cvt 5 3 (.t 20)),kO 22 (.bin .mul 3 (kI 256) (.t 21)),kM 23 4,kO 24 (.call (.fn 83) [.t 23]),
 kO 25 (.cvt 5 3 (.t 24)),kO 26 (.bin .add 3 (.t 22) (.t 25)),kM 6 26])
 (.seq (.seq (.reg [kM 27 4,kO 28 (.call (.fn 85) [.t 27]),kM 29 28,kG 30 29 (.mv (.t 6)),kG 31 29 (.mv (.t 4)),kG 32 29 (.call (.fn 86) [.t 31]),
 kG 33 29 (.bin .gtr 3 (.t 30) (.t 32)),kO 34 (.pk (.t 29) (.b true) (.t 33))])
 (.cond (.t 34) (.seq (.reg [kO 35 (.bld 46 []),kN (.st 46 (.t 2) (.t 35)),kO 3 (.mv (kI 2))])
 (.ret))
 (.skip)))
 (.seq (.reg [kM 36 4,kM 37 6,kO 38 (.call (.fn 87) [.t 36,.t 37]),kO 39 (.bi .append [42,42] [.ns,.t 38]),kO 40 (.fa 46 (.t 5) 3),
 kN (.st 42 (.t 40) (.t 39))])
 (.seq (.reg [kO 42 (.ld 46 (.t 5)),kO 43 (.call (.fn 16) [.t 42]),kM 41 43,kO 44 (.ex (.t 41) 0),kO 45 (.ex (.t 41) 1),kM 7 44,kM 8 45])
 (.seq (.seq (.reg [kM 46 8,kO 47 (.bin .neq 3 (.t 46) (kI 0)),kM 48 47,kG 49 48 (.mv (.t 7)),kG 50 48 (.cvt 42 9 (.t 49)),kG 51 48 (.mv (.t 0)),
 kG 52 48 (.cvt 42 9 (.t 51)),kG 53 48 (.bin .neq 9 (.t 50) (.t 52)),kO 54 (.pk (.t 48) (.b true) (.t 53))])
 (.cond (.t 54) (.seq (.reg [kO 55 (.bld 46 []),kN (.st 46 (.t 2) (.t 55)),kO 3 (.mv (kI 2))])
 (.ret))
 (.skip)))
 (.seq (.reg [kO 56 (.ld 46 (.t 5)),kN (.st 46 (.t 2) (.t 56)),kO 3 (.mv (kI 0))])
 (.ret)))))))))
def k61:KC:=
 .seq (.reg [kO 2 (.box 49 (.t 0)),kO 4 (.al 46),kO 5 (.mv (.b false))])
 (.seq (.seq (.reg [kO 8 (.fa 49 (.t 2) 3),kO 9 (.ld 4 (.t 8)),kM 10 9,kG 11 10 (.mv (.t 1)),kG 12 10 (.bin .lss 3 (.t 11) (kI 0)),
 kO 13 (.pk (.t 10) (.b true) (.t 12)),kM 14 13,kG 15 14 (.mv (.t 1)),kG 16 14 (.fa 49 (.t 2) 2),kG 17 14 (.ld 47 (.t 16)),
 kG 18 14 (.bi .len [47] [.t 17]),kG 19 14 (.bin .geq 3 (.t 15) (.t 18)),kO 20 (.pk (.t 14) (.b true) (.t 19))])
 (.cond (.t 20) (.seq (.reg [kO 21 (.bld 46 []),kN (.st 46 (.t 4) (.t 21)),kO 5 (.mv (.b false))])
 (.ret))
 (.skip)))
 (.seq (.reg [kO 23 (.fa 49 (.t 2) 2),kO 24 (.ld 47 (.t 23)),kM 25 1,kO 26 (.ia 47 (.t 24) (.t 25)),kO 27 (.ld 42 (.t 26)),kO 28 (.call (.fn 90) [.t 27]),
 kM 22 28,kO 29 (.ex (.t 22) 0),kO 30 (.ex (.t 22) 1),kO 6 (.al 46),kN (.st 46 (.t 6) (.t 29)),kM 7 30])
 (.seq (.seq (.reg [kM 31 7,kO 32 (.bin .neq 25 (.t 31) (kI 0)),kM 33 32,kG 34 33 (.fa 46 (.t 6) 1),kG 35 33 (.ld 3 (.t 34)),kG 36 33 (.fa 49 (.t 2) 0),
 kG 37 33 (.ld 3 (.t 36)),kG 38 33 (.bin .neq 3 (.t 35) (.t 37)),kO 39 (.pk (.t 33) (.b true) (.t 38)),kM 40 39,kG 41 40 (.fa 46 (.t 6) 2),
 kG 42 40 (.ld 3 (.t 41)),kG 43 40 (.mv (.t 1)),kG 44 40 (.bin .neq 3 (.t 42) (.t 43)),kO 45 (.pk (.t 40) (.b true) (.t 44))])
 (.cond (.t 45) (.seq (.reg [kO 46 (.bld 46 []),kN (.st 46 (.t 4) (.t 46)),kO 5 (.mv (.b false))])
 (.ret))
 (.skip)))
 (.seq (.reg [kO 47 (.ld 46 (.t 6)),kN (.st 46 (.t 4) (.t 47)),kO 5 (.mv (.b true))])
 (.ret)))))
noncomputable def drw62_0:Array Oper:=((Tryz.f62.body.map regs).getD []).getD 0 #[]
noncomputable def k62:KC:=
 .seq (.reg [kO 2 (.al 38),kO 3 (.mv (kI 0))])
 (.seq (.reg [kM 8 0,kO 9 (.call (.fn 91) [.t 8]),kM 4 9])
 (.seq (.reg [kM 10 4,kO 11 (.call (.fn 92) [.t 10]),kO 12 (.bld 38 [(0,.t 11)]),kO 5 (.al 38),kN (.st 38 (.t 5) (.t 12))])
 (.seq (.seq (.reg [kO 13 (.fa 38 (.t 5) 1),kO 14 (.fa 38 (.t 5) 2),kO 15 (.fa 38 (.t 5) 3),kO 16 (.bsl 135 3 [(0,.t 13),(1,.t 14),(2,.t 15)]),
 kO 17 (.bi .len [135] [.t 16]),kO 18 (.mv (kI 0))])
 (.block 0 (.loop (.seq (.reg [kO 19 (.bin .lss 3 (.t 18) (.t 17))])
 (.seq (.cond (.t 19) (.skip)
 (.exit 0))
 (.seq (.block 1 (.seq (.reg [kO 20 (.ia 135 (.t 16) (.t 18)),kO 21 (.ld 134 (.t 20)),kM 7 21])
 (.reg [kM 22 7,kM 23 4,kO 24 (.call (.fn 93) [.t 23]),kO 25 (.cvt 5 3 (.t 24)),kO 26 (.nc (.t 22)),kN (.st 3 (.t 26) (.t 25))])))
 (.reg [kO 27 (.bin .add 3 (.t 18) (kI 1)),kM 18 27])))))))
 (.seq (.block 2 (.loop (.seq (.seq (.reg [kM 28 4,kO 29 (.call (.fn 94) [.t 28]),kO 30 (.bin .gtr 3 (.t 29) (kI 0))])
 (.cond (.t 30) (.skip)
 (.exit 2)))
 (.block 3 (.drw drw62_0 [kO 31 (.fa 38 (.t 5) 4),kO 32 (.ld 36 (.t 31)),kM 33 4,kO 34 (.call (.fn 92) [.t 33]),kO 35 (.bsl 36 1 [(0,.t 34)]),
 kO 36 (.bi .append [36,36] [.t 32,.t 35]),kO 37 (.fa 38 (.t 5) 4),kN (.st 36 (.t 37) (.t 36))])))))
 (.seq (.seq (.reg [kM 38 4,kO 39 (.call (.fn 95) [.t 38]),kM 40 39,kG 41 40 (.ld 38 (.t 5)),kG 42 40 (.call (.fn 44) [.t 41]),kG 43 40 (.un .not (.t 42)),
 kO 44 (.pk (.t 40) (.b true) (.t 43))])
 (.cond (.t 44) (.seq (.reg [kO 45 (.bld 38 []),kN (.st 38 (.t 2) (.t 45)),kO 3 (.mv (kI 2))])
 (.ret))
 (.skip)))
 (.seq (.reg [kO 46 (.ld 38 (.t 5)),kN (.st 38 (.t 2) (.t 46)),kO 3 (.mv (kI 0))])
 (.ret)))))))
def k63:KC:=
 .seq (.reg [kO 4 (.mv (kI 0))])
 (.seq (.seq (.reg [kM 6 0,kO 7 (.bi .len [33] [.t 6]),kO 8 (.mv (kI 0))])
 (.block 0 (.loop (.seq (.reg [kO 9 (.bin .lss 3 (.t 8) (.t 7))])
 (.seq (.cond (.t 9) (.skip)
 (.exit 0))
 (.seq (.block 1 (.seq (.reg [kM 10 8,kM 5 10])
 (.seq (.reg [kM 11 1,kM 12 0,kM 13 5,kO 14 (.ia 33 (.t 12) (.t 13)),kO 15 (.ld 38 (.t 14)),kO 16 (.call (.t 11) [.t 15])])
 (.cond (.t 16) (.seq (.reg [kM 17 5,kM 4 17])
 (.ret))
 (.skip)))))
 (.reg [kO 18 (.bin .add 3 (.t 8) (kI 1)),kM 8 18])))))))
 (.seq (.reg [kO 4 (.mv (kI (-1)))])
 (.ret)))
theorem b63:Body Tryz.prog 63 19 [4] k63:=⟨Enters.of Tryz.func63 (by kernel_rfl) (by kernel_rfl),_,_,Tryz.func63,rfl,by kernel_rfl,rfl,rfl⟩
noncomputable def drw64_0:Array Oper:=((Tryz.f64.body.map regs).getD []).getD 0 #[]
noncomputable def k64:KC:=
 .seq (.reg [kO 10 (.mv (.b true))])
 (.seq (.reg [kO 11 (.mv (.b true))])
 (.block 0 (.loop (.block 1 (.seq (.reg [kM 21 2,kM 22 1,kO 23 (.bin .sub 3 (.t 21) (.t 22)),kM 12 23])
 (.seq (.seq (.reg [kM 24 12,kO 25 (.bin .leq 3 (.t 24) (kI 12))])
 (.cond (.t 25) (.seq (.reg [kM 26 0,kM 27 1,kM 28 2,kM 29 4,kO 30 (.call (.fn 96) [.t 26,.t 27,.t 28,.t 29])])
 (.ret))
 (.skip)))
 (.seq (.seq (.reg [kM 31 3,kO 32 (.bin .eql 3 (.t 31) (kI 0))])
 (.cond (.t 32) (.seq (.reg [kM 33 0,kM 34 1,kM 35 2,kM 36 4,kO 37 (.call (.fn 97) [.t 33,.t 34,.t 35,.t 36])])
 (.ret))
 (.skip)))
 (.seq (.seq (.reg [kM 38 10,kO 39 (.un .not (.t 38))])
 (.cond (.t 39) (.seq (.reg [kM 40 0,kM 41 1,kM 42 2,kM 43 4,kO 44 (.call (.fn 98) [.t 40,.t 41,.t 42,.t 43])])
 (.reg [kM 45 3,kO 46 (.bin .sub 3 (.t 45) (kI 1)),kM 3 46]))
 (.skip)))
 (.seq (.reg [kM 48 0,kM 49 1,kM 50 2,kM 51 4,kO 52 (.call (.fn 99) [.t 48,.t 49,.t 50,.t 51]),kM 47 52,kO 53 (.ex (.t 47) 0),kO 54 (.ex (.t 47) 1),
 kM 13 53,kM 14 54])
 (.seq (.seq (.reg [kM 55 14,kO 56 (.bin .eql 137 (.t 55) (kI 2))])
 (.cond (.t 56) (.seq (.reg [kM 57 0,kM 58 1,kM 59 2,kM 60 4,kO 61 (.call (.fn 100) [.t 57,.t 58,.t 59,.t 60])])
 (.seq (.reg [kM 62 2,kO 63 (.bin .sub 3 (.t 62) (kI 1)),kM 64 13,kM 65 1,kO 66 (.bin .sub 3 (.t 64) (.t 65)),kO 67 (.bin .sub 3 (.t 63) (.t 66)),kM 13 67])
 (.reg [kO 14 (.mv (kI 1))])))
 (.skip)))
 (.seq (.seq (.reg [kM 68 10,kM 69 68,kT 70 69 (.mv (.t 11)),kO 71 (.pk (.t 69) (.t 70) (.b false)),kM 72 71,kT 73 72 (.mv (.t 14)),
 kT 74 72 (.bin .eql 137 (.t 73) (kI 1)),kO 75 (.pk (.t 72) (.t 74) (.b false))])
 (.cond (.t 75) (.seq (.reg [kM 76 0,kM 77 1,kM 78 2,kM 79 4,kO 80 (.call (.fn 101) [.t 76,.t 77,.t 78,.t 79])])
 (.cond (.t 80) (.ret)
 (.skip)))
 (.skip)))
 (.seq (.seq (.drw drw64_0 [kM 81 1,kO 82 (.bin .gtr 3 (.t 81) (kI 0)),kM 83 82,kT 84 83 (.mv (.t 4)),kT 85 83 (.mv (.t 0)),kT 86 83 (.mv (.t 1)),
 kT 87 83 (.bin .sub 3 (.t 86) (kI 1)),kT 88 83 (.ia 33 (.t 85) (.t 87)),kT 89 83 (.ld 38 (.t 88)),kT 90 83 (.mv (.t 0)),kT 91 83 (.mv (.t 13)),
 kT 92 83 (.ia 33 (.t 90) (.t 91)),kT 93 83 (.ld 38 (.t 92)),kT 94 83 (.call (.t 84) [.t 89,.t 93]),kT 95 83 (.bin .lss 3 (.t 94) (kI 0)),
 kT 96 83 (.un .not (.t 95)),kO 97 (.pk (.t 83) (.t 96) (.b false))])
 (.cond (.t 97) (.seq (.reg [kM 98 0,kM 99 1,kM 100 2,kM 101 13,kM 102 4,kO 103 (.call (.fn 102) [.t 98,.t 99,.t 100,.t 101,.t 102]),kM 15 103])
 (.seq (.reg [kM 104 15,kM 1 104])
 (.exit 1)))
 (.skip)))
 (.seq (.reg [kM 106 0,kM 107 1,kM 108 2,kM 109 13,kM 110 4,kO 111 (.call (.fn 103) [.t 106,.t 107,.t 108,.t 109,.t 110]),kM 105 111,
 kO 112 (.ex (.t 105) 0),kO 113 (.ex (.t 105) 1),kM 16 112,kM 17 113])
 (.seq (.reg [kM 114 17,kM 11 114])
 (.seq (.reg [kM 115 16,kM 116 1,kO 117 (.bin .sub 3 (.t 115) (.t 116)),kM 118 2,kM 119 16,kO 120 (.bin .sub 3 (.t 118) (.t 119)),kM 18 117,kM 19 120])
 (.seq (.reg [kM 121 12,kO 122 (.bin .quo 3 (.t 121) (kI 8)),kM 20 122])
 (.seq (.reg [kM 123 18,kM 124 19,kO 125 (.bin .lss 3 (.t 123) (.t 124))])
 (.cond (.t 125) (.seq (.reg [kM 126 18,kM 127 20,kO 128 (.bin .geq 3 (.t 126) (.t 127)),kM 10 128])
 (.seq (.reg [kM 129 0,kM 130 1,kM 131 16,kM 132 3,kM 133 4,kO 134 (.call (.fn 64) [.t 129,.t 130,.t 131,.t 132,.t 133])])
 (.reg [kM 135 16,kO 136 (.bin .add 3 (.t 135) (kI 1)),kM 1 136])))
 (.seq (.reg [kM 137 19,kM 138 20,kO 139 (.bin .geq 3 (.t 137) (.t 138)),kM 10 139])
 (.seq (.reg [kM 140 0,kM 141 16,kO 142 (.bin .add 3 (.t 141) (kI 1)),kM 143 2,kM 144 3,kM 145 4,
 kO 146 (.call (.fn 64) [.t 140,.t 142,.t 143,.t 144,.t 145])])
 (.reg [kM 147 16,kM 2 147])))))))))))))))))))))
theorem b64:Body Tryz.prog 64 148 [] k64:=⟨Enters.of Tryz.func64 (by kernel_rfl) (by kernel_rfl),_,_,Tryz.func64,rfl,by kernel_rfl,rfl,rfl⟩
def k65:KC:=
 .seq (.reg [kO 2 (.mv (kI 0))])
 (.seq (.cond (.b false) (.seq (.reg [kM 3 0,kO 4 (.cvt 80 81 (.t 3)),kO 5 (.call (.fn 104) [.t 4]),kM 2 5])
 (.ret))
 (.skip))
 (.seq (.reg [kM 6 0,kO 7 (.call (.fn 105) [.t 6]),kM 2 7])
 (.ret)))
theorem b65:Body Tryz.prog 65 8 [2] k65:=⟨Enters.of Tryz.func65 (by kernel_rfl) (by kernel_rfl),_,_,Tryz.func65,rfl,by kernel_rfl,rfl,rfl⟩
def k66:KC:=
 .seq (.reg [kO 2 (.mv (.b false))])
 (.seq (.reg [kM 3 0,kM 4 0,kO 5 (.bin .neq 3 (.t 3) (.t 4)),kM 2 5])
 (.ret))
theorem b66:Body Tryz.prog 66 6 [2] k66:=⟨Enters.of Tryz.func66 (by kernel_rfl) (by kernel_rfl),_,_,Tryz.func66,rfl,by kernel_rfl,rfl,rfl⟩
noncomputable def drw67_0:Array Oper:=((Tryz.f67.body.map regs).getD []).getD 0 #[]
noncomputable def k67:KC:=
 .seq (.reg [kO 2 (.al 38),kO 3 (.mv (kI 0))])
 (.seq (.reg [kM 7 0,kO 8 (.call (.fn 82) [.t 7]),kM 4 8])
 (.seq (.reg [kM 9 4,kO 10 (.call (.fn 84) [.t 9]),kM 11 4,kO 12 (.call (.fn 83) [.t 11]),kO 13 (.cvt 5 3 (.t 12)),kM 14 4,kO 15 (.call (.fn 83) [.t 14]),
 kO 16 (.cvt 5 3 (.t 15)),kM 17 4,kO 18 (.call (.fn 83) [.t 17]),kO 19 (.cvt 5 3 (.t 18)),
 kO 20 (.bld 38 [(0,.t 10),(1,.t 13),(2,.t 16),(3,.t 19)]),kO 5 (.al 38),kN (.st 38 (.t 5) (.t 20))])
 (.seq (.block 0 (.loop (.seq (.seq (.reg [kM 21 4,kO 22 (.call (.fn 86) [.t 21]),kO 23 (.bin .geq 3 (.t 22) (kI 4)),kM 24 23,kT 25 24 (.fa 38 (.t 5) 4),kT 26 24 (.ld 36 (.t 25)),
 kT 27 24 (.bi .len [36] [.t 26]),kT 28 24 (.bin .lss 3 (.t 27) (kI 14)),kO 29 (.pk (.t 24) (.t 28) (.b false))])
 (.cond (.t 29) (.skip)
 (.exit 0)))
 (.block 1 (.drw drw67_0 [kO 30 (.fa 38 (.t 5) 4),kO 31 (.ld 36 (.t 30)),kM 32 4,kO 33 (.call (.fn 84) [.t 32]),kO 34 (.bsl 36 1 [(0,.t 33)]),
 kO 35 (.bi .append [36,36] [.t 31,.t 34]),kO 36 (.fa 38 (.t 5) 4),kN (.st 36 (.t 36) (.t 35))])))))
 (.seq (.reg [kO 37 (.ld 38 (.t 5)),kO 38 (.call (.fn 28) [.t 37]),kM 6 38])
 (.seq (.seq (.reg [kM 39 6,kO 40 (.bi .len [42] [.t 39]),kO 41 (.bin .eql 3 (.t 40) (kI 0)),kM 42 41,kG 43 42 (.mv (.t 6)),kG 44 42 (.cvt 42 9 (.t 43)),
 kG 45 42 (.mv (.t 0)),kG 46 42 (.cvt 42 9 (.t 45)),kG 47 42 (.bin .neq 9 (.t 44) (.t 46)),kO 48 (.pk (.t 42) (.b true) (.t 47))])
 (.cond (.t 48) (.seq (.reg [kO 49 (.bld 38 []),kN (.st 38 (.t 2) (.t 49)),kO 3 (.mv (kI 2))])
 (.ret))
 (.skip)))
 (.seq (.reg [kO 50 (.ld 38 (.t 5)),kN (.st 38 (.t 2) (.t 50)),kO 3 (.mv (kI 0))])
 (.ret)))))))
def k68:KC:=
 .seq (.reg [kO 4 (.mv (kI 0))])
 (.seq (.seq (.reg [kM 6 0,kO 7 (.bi .len [36] [.t 6]),kO 8 (.mv (kI 0))])
 (.block 0 (.loop (.seq (.reg [kO 9 (.bin .lss 3 (.t 8) (.t 7))])
 (.seq (.cond (.t 9) (.skip)
 (.exit 0))
 (.seq (.block 1 (.seq (.reg [kM 10 8,kM 5 10])
 (.seq (.reg [kM 11 1,kM 12 0,kM 13 5,kO 14 (.ia 36 (.t 12) (.t 13)),kO 15 (.ld 3 (.t 14)),kO 16 (.bin .eql 3 (.t 11) (.t 15))])
 (.cond (.t 16) (.seq (.reg [kM 17 5,kM 4 17])
 (.ret))
 (.skip)))))
 (.reg [kO 18 (.bin .add 3 (.t 8) (kI 1)),kM 8 18])))))))
 (.seq (.reg [kO 4 (.mv (kI (-1)))])
 (.ret)))
theorem b68:Body Tryz.prog 68 19 [4] k68:=⟨Enters.of Tryz.func68 (by kernel_rfl) (by kernel_rfl),_,_,Tryz.func68,rfl,by kernel_rfl,rfl,rfl⟩
def k69:KC:=
 .seq (.reg [kO 4 (.mv (.i .u32 0))])
 (.seq (.reg [kM 8 0,kO 9 (.bin .xor 81 (.t 8) (.i .u32 4294967295)),kM 5 9])
 (.seq (.seq (.reg [kO 6 (.mv (kI 0))])
 (.block 0 (.loop (.seq (.seq (.reg [kM 10 6,kM 11 1,kO 12 (.bi .len [42] [.t 11]),kO 13 (.bin .lss 3 (.t 10) (.t 12))])
 (.cond (.t 13) (.skip)
 (.exit 0)))
 (.seq (.block 1 (.seq (.reg [kM 16 5,kM 17 1,kM 18 6,kO 19 (.ia 42 (.t 17) (.t 18)),kO 20 (.ld 5 (.t 19)),kO 21 (.cvt 5 81 (.t 20)),kO 22 (.bin .xor 81 (.t 16) (.t 21)),
 kM 5 22])
 (.seq (.reg [kO 7 (.mv (kI 0))])
 (.block 2 (.loop (.seq (.seq (.reg [kM 23 7,kO 24 (.bin .lss 3 (.t 23) (kI 8))])
 (.cond (.t 24) (.skip)
 (.exit 2)))
 (.seq (.block 3 (.seq (.reg [kM 27 5,kO 28 (.bin .and 81 (.t 27) (.i .u32 1)),kO 29 (.bin .eql 81 (.t 28) (.i .u32 1))])
 (.cond (.t 29) (.reg [kM 30 5,kO 31 (.bin .shr 81 (.t 30) (.i .u64 1)),kO 32 (.bin .xor 81 (.t 31) (.i .u32 2197175160)),kM 5 32])
 (.reg [kM 33 5,kO 34 (.bin .shr 81 (.t 33) (.i .u64 1)),kM 5 34]))))
 (.reg [kM 25 7,kO 26 (.bin .add 3 (.t 25) (kI 1)),kM 7 26]))))))))
 (.reg [kM 14 6,kO 15 (.bin .add 3 (.t 14) (kI 1)),kM 6 15]))))))
 (.seq (.reg [kM 35 5,kO 36 (.bin .xor 81 (.t 35) (.i .u32 4294967295)),kM 4 36])
 (.ret))))
theorem b69:Body Tryz.prog 69 37 [4] k69:=⟨Enters.of Tryz.func69 (by kernel_rfl) (by kernel_rfl),_,_,Tryz.func69,rfl,by kernel_rfl,rfl,rfl⟩
def k70:KC:=
 .seq (.reg [kO 6 (.mv (.b false))])
 (.seq (.reg [kM 7 0,kM 8 1,kO 9 (.bin .geq 3 (.t 7) (.t 8)),kM 10 9,kT 11 10 (.mv (.t 0)),kT 12 10 (.mv (.t 2)),kT 13 10 (.bin .leq 3 (.t 11) (.t 12)),
 kO 14 (.pk (.t 10) (.t 13) (.b false)),kM 6 14])
 (.ret))
theorem b70:Body Tryz.prog 70 15 [6] k70:=⟨Enters.of Tryz.func70 (by kernel_rfl) (by kernel_rfl),_,_,Tryz.func70,rfl,by kernel_rfl,rfl,rfl⟩
def k71:KC:=
 .seq (.reg [kO 4 (.mv (kI 0))])
 (.seq (.seq (.reg [kM 6 0,kO 7 (.bi .len [22] [.t 6]),kO 8 (.mv (kI 0))])
 (.block 0 (.loop (.seq (.reg [kO 9 (.bin .lss 3 (.t 8) (.t 7))])
 (.seq (.cond (.t 9) (.skip)
 (.exit 0))
 (.seq (.block 1 (.seq (.reg [kM 10 8,kM 5 10])
 (.seq (.reg [kM 11 1,kM 12 0,kM 13 5,kO 14 (.ia 22 (.t 12) (.t 13)),kO 15 (.ld 49 (.t 14)),kO 16 (.call (.t 11) [.t 15])])
 (.cond (.t 16) (.seq (.reg [kM 17 5,kM 4 17])
 (.ret))
 (.skip)))))
 (.reg [kO 18 (.bin .add 3 (.t 8) (kI 1)),kM 8 18])))))))
 (.seq (.reg [kO 4 (.mv (kI (-1)))])
 (.ret)))
theorem b71:Body Tryz.prog 71 19 [4] k71:=⟨Enters.of Tryz.func71 (by kernel_rfl) (by kernel_rfl),_,_,Tryz.func71,rfl,by kernel_rfl,rfl,rfl⟩
def k72:KC:=
 .seq (.reg [kO 1 (.box 47 (.t 0)),kO 2 (.mv (.b false))])
 (.seq (.reg [kO 3 (.ld 47 (.t 1)),kO 4 (.mf 106 [.t 1]),kO 5 (.call (.fn 53) [.t 3,.t 4]),kO 6 (.un .not (.t 5)),kM 2 6])
 (.ret))
theorem b72:Body Tryz.prog 72 7 [2] k72:=⟨Enters.of Tryz.func72 (by kernel_rfl) (by kernel_rfl),_,_,Tryz.func72,rfl,by kernel_rfl,rfl,rfl⟩
def k73:KC:=
 .seq (.reg [kO 4 (.mv (.ns)),kO 5 (.mv (kI 0))])
 (.seq (.seq (.reg [kM 10 0,kO 11 (.bin .lss 3 (.t 10) (kI 1)),kM 12 11,kG 13 12 (.mv (.t 1)),kG 14 12 (.bin .lss 3 (.t 13) (kI 1)),
 kO 15 (.pk (.t 12) (.b true) (.t 14)),kM 16 15,kG 17 16 (.mv (.t 0)),kG 18 16 (.bin .gtr 3 (.t 17) (kI 255)),
 kO 19 (.pk (.t 16) (.b true) (.t 18)),kM 20 19,kG 21 20 (.mv (.t 1)),kG 22 20 (.mv (.t 0)),kG 23 20 (.bin .sub 3 (kI 255) (.t 22)),
 kG 24 20 (.bin .gtr 3 (.t 21) (.t 23)),kO 25 (.pk (.t 20) (.b true) (.t 24))])
 (.cond (.t 25) (.seq (.reg [kO 4 (.mv (.ns)),kO 5 (.mv (kI 1))])
 (.ret))
 (.skip)))
 (.seq (.reg [kO 6 (.mv (.ns))])
 (.seq (.seq (.reg [kM 26 1,kO 27 (.mv (kI 0))])
 (.block 0 (.loop (.seq (.reg [kO 28 (.bin .lss 3 (.t 27) (.t 26))])
 (.seq (.cond (.t 28) (.skip)
 (.exit 0))
 (.seq (.block 1 (.seq (.reg [kM 29 27,kM 7 29])
 (.seq (.reg [kO 8 (.mv (.ns))])
 (.seq (.seq (.reg [kM 30 0,kO 31 (.mv (kI 0))])
 (.block 2 (.loop (.seq (.reg [kO 32 (.bin .lss 3 (.t 31) (.t 30))])
 (.seq (.cond (.t 32) (.skip)
 (.exit 2))
 (.seq (.block 3 (.seq (.reg [kM 33 31,kM 9 33])
 (.reg [kM 34 8,kM 35 7,kO 36 (.cvt 3 5 (.t 35)),kM 37 1,kM 38 9,kO 39 (.bin .add 3 (.t 37) (.t 38)),kO 40 (.cvt 3 5 (.t 39)),
 kO 41 (.call (.fn 108) [.t 36,.t 40]),kO 42 (.call (.fn 107) [.t 41]),kO 43 (.bsl 42 1 [(0,.t 42)]),kO 44 (.bi .append [42,42] [.t 34,.t 43]),
 kM 8 44])))
 (.reg [kO 45 (.bin .add 3 (.t 31) (kI 1)),kM 31 45])))))))
 (.reg [kM 46 6,kM 47 8,kO 48 (.bsl 47 1 [(0,.t 47)]),kO 49 (.bi .append [47,47] [.t 46,.t 48]),kM 6 49])))))
 (.reg [kO 50 (.bin .add 3 (.t 27) (kI 1)),kM 27 50])))))))
 (.seq (.reg [kM 51 6,kM 4 51,kO 5 (.mv (kI 0))])
 (.ret)))))
theorem b73:Body Tryz.prog 73 52 [4,5] k73:=⟨Enters.of Tryz.func73 (by kernel_rfl) (by kernel_rfl),_,_,Tryz.func73,rfl,by kernel_rfl,rfl,rfl⟩
def k74:KC:=
 .seq (.reg [kO 4 (.mv (.ns))])
 (.seq (.reg [kM 14 0,kO 15 (.bi .len [47] [.t 14]),kO 16 (.mk 47 (.t 15) (.t 15)),kM 5 16])
 (.seq (.seq (.reg [kM 17 1,kO 18 (.ia 47 (.t 17) (kI 0)),kO 19 (.ld 42 (.t 18)),kO 20 (.bi .len [42] [.t 19]),kO 21 (.mv (kI 0))])
 (.block 0 (.loop (.seq (.reg [kO 22 (.bin .lss 3 (.t 21) (.t 20))])
 (.seq (.cond (.t 22) (.skip)
 (.exit 0))
 (.seq (.block 1 (.seq (.reg [kM 23 21,kM 6 23])
 (.seq (.reg [kO 7 (.mv (.ns))])
 (.seq (.seq (.reg [kM 24 1,kO 25 (.bi .len [47] [.t 24]),kO 26 (.mv (kI 0))])
 (.block 2 (.loop (.seq (.reg [kO 27 (.bin .lss 3 (.t 26) (.t 25))])
 (.seq (.cond (.t 27) (.skip)
 (.exit 2))
 (.seq (.block 3 (.seq (.reg [kO 28 (.ia 47 (.t 24) (.t 26)),kO 29 (.ld 42 (.t 28)),kM 9 29])
 (.reg [kM 30 7,kM 31 9,kM 32 6,kO 33 (.ia 42 (.t 31) (.t 32)),kO 34 (.ld 5 (.t 33)),kO 35 (.bsl 42 1 [(0,.t 34)]),
 kO 36 (.bi .append [42,42] [.t 30,.t 35]),kM 7 36])))
 (.reg [kO 37 (.bin .add 3 (.t 26) (kI 1)),kM 26 37])))))))
 (.seq (.reg [kM 39 0,kM 40 7,kO 41 (.call (.fn 109) [.t 39,.t 40]),kM 38 41,kO 42 (.ex (.t 38) 0),kO 43 (.ex (.t 38) 1),kM 10 42,kM 11 43])
 (.seq (.reg [kM 44 10,kO 45 (.bi .len [42] [.t 44]),kO 46 (.mv (kI 0))])
 (.block 4 (.loop (.seq (.reg [kO 47 (.bin .lss 3 (.t 46) (.t 45))])
 (.seq (.cond (.t 47) (.skip)
 (.exit 4))
 (.seq (.block 5 (.seq (.reg [kM 48 46,kO 49 (.ia 42 (.t 44) (.t 46)),kO 50 (.ld 5 (.t 49)),kM 12 48,kM 13 50])
 (.reg [kM 51 5,kM 52 12,kM 53 5,kM 54 12,kO 55 (.ia 47 (.t 53) (.t 54)),kO 56 (.ld 42 (.t 55)),kM 57 13,kO 58 (.bsl 42 1 [(0,.t 57)]),
 kO 59 (.bi .append [42,42] [.t 56,.t 58]),kO 60 (.ia 47 (.t 51) (.t 52)),kN (.st 42 (.t 60) (.t 59))])))
 (.reg [kO 61 (.bin .add 3 (.t 46) (kI 1)),kM 46 61]))))))))))))
 (.reg [kO 62 (.bin .add 3 (.t 21) (kI 1)),kM 21 62])))))))
 (.seq (.reg [kM 63 5,kM 4 63])
 (.ret))))
theorem b74:Body Tryz.prog 74 64 [4] k74:=⟨Enters.of Tryz.func74 (by kernel_rfl) (by kernel_rfl),_,_,Tryz.func74,rfl,by kernel_rfl,rfl,rfl⟩
def k75:KC:=
 .seq (.reg [kO 2 (.box 49 (.t 0)),kO 4 (.mv (.ns))])
 (.seq (.seq (.reg [kO 5 (.fa 49 (.t 2) 3),kO 6 (.ld 4 (.t 5)),kM 7 6,kG 8 7 (.mv (.t 1)),kG 9 7 (.bin .lss 3 (.t 8) (kI 0)),kO 10 (.pk (.t 7) (.b true) (.t 9)),
 kM 11 10,kG 12 11 (.mv (.t 1)),kG 13 11 (.fa 49 (.t 2) 2),kG 14 11 (.ld 47 (.t 13)),kG 15 11 (.bi .len [47] [.t 14]),
 kG 16 11 (.bin .geq 3 (.t 12) (.t 15)),kO 17 (.pk (.t 11) (.b true) (.t 16))])
 (.cond (.t 17) (.seq (.reg [kO 18 (.mk 42 (kI 79) (kI 79)),kM 4 18])
 (.ret))
 (.skip)))
 (.seq (.seq (.reg [kO 19 (.fa 49 (.t 2) 2),kO 20 (.ld 47 (.t 19)),kM 21 1,kO 22 (.ia 47 (.t 20) (.t 21)),kO 23 (.ld 42 (.t 22)),kO 24 (.bi .len [42] [.t 23]),
 kO 25 (.bin .neq 3 (.t 24) (kI 79))])
 (.cond (.t 25) (.seq (.reg [kO 4 (.mv (.ns))])
 (.ret))
 (.skip)))
 (.seq (.reg [kO 26 (.fa 49 (.t 2) 2),kO 27 (.ld 47 (.t 26)),kM 28 1,kO 29 (.ia 47 (.t 27) (.t 28)),kO 30 (.ld 42 (.t 29)),kO 31 (.call (.fn 110) [.t 30]),
 kM 4 31])
 (.ret))))
theorem b75:Body Tryz.prog 75 32 [4] k75:=⟨Enters.of Tryz.func75 (by kernel_rfl) (by kernel_rfl),_,_,Tryz.func75,rfl,by kernel_rfl,rfl,rfl⟩
def k76:KC:=
 .seq (.reg [kO 4 (.mv (kI 0))])
 (.seq (.seq (.reg [kM 6 0,kO 7 (.bi .len [47] [.t 6]),kO 8 (.mv (kI 0))])
 (.block 0 (.loop (.seq (.reg [kO 9 (.bin .lss 3 (.t 8) (.t 7))])
 (.seq (.cond (.t 9) (.skip)
 (.exit 0))
 (.seq (.block 1 (.seq (.reg [kM 10 8,kM 5 10])
 (.seq (.reg [kM 11 1,kM 12 0,kM 13 5,kO 14 (.ia 47 (.t 12) (.t 13)),kO 15 (.ld 42 (.t 14)),kO 16 (.call (.t 11) [.t 15])])
 (.cond (.t 16) (.seq (.reg [kM 17 5,kM 4 17])
 (.ret))
 (.skip)))))
 (.reg [kO 18 (.bin .add 3 (.t 8) (kI 1)),kM 8 18])))))))
 (.seq (.reg [kO 4 (.mv (kI (-1)))])
 (.ret)))
theorem b76:Body Tryz.prog 76 19 [4] k76:=⟨Enters.of Tryz.func76 (by kernel_rfl) (by kernel_rfl),_,_,Tryz.func76,rfl,by kernel_rfl,rfl,rfl⟩
def k77:KC:=
 .seq (.reg [kM 5 1,kO 6 (.cvt 3 81 (.t 5)),kM 4 6])
 (.reg [kM 7 0,kM 8 0,kO 9 (.nc (.t 8)),kO 10 (.fa 119 (.t 9) 0),kO 11 (.ld 42 (.t 10)),kM 12 4,kO 13 (.bin .shr 81 (.t 12) (.i .u64 24)),
 kO 14 (.cvt 81 5 (.t 13)),kM 15 4,kO 16 (.bin .shr 81 (.t 15) (.i .u64 16)),kO 17 (.cvt 81 5 (.t 16)),kM 18 4,
 kO 19 (.bin .shr 81 (.t 18) (.i .u64 8)),kO 20 (.cvt 81 5 (.t 19)),kM 21 4,kO 22 (.cvt 81 5 (.t 21)),
 kO 23 (.bsl 42 4 [(0,.t 14),(1,.t 17),(2,.t 20),(3,.t 22)]),kO 24 (.bi .append [42,42] [.t 11,.t 23]),kO 25 (.nc (.t 7)),
 kO 26 (.fa 119 (.t 25) 0),kN (.st 42 (.t 26) (.t 24))])
theorem b77:Body Tryz.prog 77 27 [] k77:=⟨Enters.of Tryz.func77 (by kernel_rfl) (by kernel_rfl),_,_,Tryz.func77,rfl,by kernel_rfl,rfl,rfl⟩
def k78:KC:=
 .reg [kM 4 0,kM 5 0,kO 6 (.nc (.t 5)),kO 7 (.fa 119 (.t 6) 0),kO 8 (.ld 42 (.t 7)),kM 9 1,kO 10 (.bsl 42 1 [(0,.t 9)]),
 kO 11 (.bi .append [42,42] [.t 8,.t 10]),kO 12 (.nc (.t 4)),kO 13 (.fa 119 (.t 12) 0),kN (.st 42 (.t 13) (.t 11))]
theorem b78:Body Tryz.prog 78 14 [] k78:=⟨Enters.of Tryz.func78 (by kernel_rfl) (by kernel_rfl),_,_,Tryz.func78,rfl,by kernel_rfl,rfl,rfl⟩
def k79:KC:=
 .seq (.reg [kO 2 (.mv (.ns))])
 (.seq (.reg [kM 3 0,kO 4 (.nc (.t 3)),kO 5 (.fa 119 (.t 4) 0),kO 6 (.ld 42 (.t 5)),kO 7 (.call (.fn 110) [.t 6]),kM 2 7])
 (.ret))
theorem b79:Body Tryz.prog 79 8 [2] k79:=⟨Enters.of Tryz.func79 (by kernel_rfl) (by kernel_rfl),_,_,Tryz.func79,rfl,by kernel_rfl,rfl,rfl⟩
noncomputable def drw80_0:Array Oper:=((Tryz.f80.body.map regs).getD []).getD 0 #[]
noncomputable def k80:KC:=
 .seq (.reg [kO 1 (.box 46 (.t 0)),kO 2 (.mv (kI 0))])
 (.seq (.seq (.reg [kO 3 (.fa 46 (.t 1) 1),kO 4 (.ld 3 (.t 3)),kO 5 (.bin .lss 3 (.t 4) (kI 1)),kM 6 5,kG 7 6 (.fa 46 (.t 1) 1),kG 8 6 (.ld 3 (.t 7)),
 kG 9 6 (.bin .gtr 3 (.t 8) (kI 2147483647)),kO 10 (.pk (.t 6) (.b true) (.t 9)),kM 11 10,kG 12 11 (.fa 46 (.t 1) 2),kG 13 11 (.ld 3 (.t 12)),
 kG 14 11 (.bin .lss 3 (.t 13) (kI 0)),kO 15 (.pk (.t 11) (.b true) (.t 14)),kM 16 15,kG 17 16 (.fa 46 (.t 1) 2),kG 18 16 (.ld 3 (.t 17)),
 kG 19 16 (.bin .gtr 3 (.t 18) (kI 2147483647)),kO 20 (.pk (.t 16) (.b true) (.t 19))])
 (.cond (.t 20) (.seq (.reg [kO 2 (.mv (kI 1))])
 (.ret))
 (.skip)))
 (.seq (.seq (.reg [kO 21 (.fa 46 (.t 1) 0),kO 22 (.ld 3 (.t 21))])
 (.block 0 (.seq (.block 6 (.block 5 (.block 4 (.block 3 (.block 2 (.block 1 (.seq (.seq (.seq (.reg [kO 24 (.bin .eql 3 (.t 22) (kI 1)),kM 23 24])
 (.cond (.t 23) (.exit 1)
 (.skip)))
 (.seq (.seq (.reg [kO 26 (.bin .eql 3 (.t 22) (kI 2)),kM 25 26])
 (.cond (.t 25) (.exit 2)
 (.skip)))
 (.seq (.seq (.reg [kO 28 (.bin .eql 3 (.t 22) (kI 3)),kM 27 28])
 (.cond (.t 27) (.exit 3)
 (.skip)))
 (.seq (.seq (.reg [kO 30 (.bin .eql 3 (.t 22) (kI 4)),kM 29 30])
 (.cond (.t 29) (.exit 4)
 (.skip)))
 (.seq (.seq (.reg [kO 32 (.bin .eql 3 (.t 22) (kI 5)),kM 31 32])
 (.cond (.t 31) (.exit 5)
 (.skip)))
 (.seq (.reg [kO 34 (.bin .eql 3 (.t 22) (kI 6)),kM 33 34])
 (.cond (.t 33) (.exit 6)
 (.skip))))))))
 (.exit 0))))))))
 (.seq (.seq (.seq (.drw drw80_0 [kO 35 (.fa 46 (.t 1) 3),kO 36 (.ld 42 (.t 35)),kO 37 (.bi .len [42] [.t 36]),kO 38 (.fa 46 (.t 1) 0),kO 39 (.ld 3 (.t 38)),
 kO 40 (.call (.fn 111) [.t 39]),kO 41 (.bin .gtr 3 (.t 37) (.t 40))])
 (.cond (.t 41) (.seq (.reg [kO 2 (.mv (kI 4))])
 (.ret))
 (.skip)))
 (.seq (.reg [kO 2 (.mv (kI 0))])
 (.ret)))
 (.exit 0)))))
 (.seq (.reg [kO 2 (.mv (kI 1))])
 (.ret))))
theorem b80:Body Tryz.prog 80 42 [2] k80:=⟨Enters.of Tryz.func80 (by kernel_rfl) (by kernel_rfl),_,_,Tryz.func80,rfl,by kernel_rfl,rfl,rfl⟩
def k81:KC:=
 .seq (.reg [kO 1 (.box 46 (.t 0)),kO 2 (.mv (.ns))])
 (.seq (.reg [kO 6 (.bld 119 []),kO 7 (.box 119 (.t 6)),kM 3 7])
 (.seq (.reg [kM 8 3,kO 9 (.fa 46 (.t 1) 0),kO 10 (.ld 3 (.t 9)),kO 11 (.cvt 3 5 (.t 10)),kO 12 (.call (.fn 78) [.t 8,.t 11])])
 (.seq (.reg [kM 13 3,kO 14 (.fa 46 (.t 1) 1),kO 15 (.ld 3 (.t 14)),kO 16 (.call (.fn 77) [.t 13,.t 15])])
 (.seq (.reg [kM 17 3,kO 18 (.fa 46 (.t 1) 2),kO 19 (.ld 3 (.t 18)),kO 20 (.call (.fn 77) [.t 17,.t 19])])
 (.seq (.reg [kM 21 3,kO 22 (.fa 46 (.t 1) 3),kO 23 (.ld 42 (.t 22)),kO 24 (.bi .len [42] [.t 23]),kO 25 (.bin .shr 3 (.t 24) (.i .u64 8)),
 kO 26 (.cvt 3 5 (.t 25)),kO 27 (.call (.fn 78) [.t 21,.t 26])])
 (.seq (.reg [kM 28 3,kO 29 (.fa 46 (.t 1) 3),kO 30 (.ld 42 (.t 29)),kO 31 (.bi .len [42] [.t 30]),kO 32 (.cvt 3 5 (.t 31)),
 kO 33 (.call (.fn 78) [.t 28,.t 32])])
 (.seq (.reg [kO 34 (.fa 46 (.t 1) 0),kO 35 (.ld 3 (.t 34)),kO 36 (.call (.fn 111) [.t 35]),kO 37 (.mk 42 (.t 36) (.t 36)),kM 4 37])
 (.seq (.reg [kM 38 4,kO 39 (.fa 46 (.t 1) 3),kO 40 (.ld 42 (.t 39)),kO 41 (.bi .copy [42,42] [.t 38,.t 40])])
 (.seq (.reg [kM 42 3,kO 43 (.call (.fn 79) [.t 42]),kM 44 4,kO 45 (.bi .append [42,42] [.t 43,.t 44]),kM 5 45])
 (.seq (.reg [kO 46 (.bld 119 []),kO 47 (.box 119 (.t 46)),kM 3 47])
 (.seq (.reg [kM 48 3,kM 49 5,kO 50 (.call (.fn 112) [.t 49]),kO 51 (.cvt 81 3 (.t 50)),kO 52 (.call (.fn 77) [.t 48,.t 51])])
 (.seq (.reg [kM 53 5,kM 54 3,kO 55 (.call (.fn 79) [.t 54]),kO 56 (.bi .append [42,42] [.t 53,.t 55]),kM 2 56])
 (.ret)))))))))))))
theorem b81:Body Tryz.prog 81 57 [2] k81:=⟨Enters.of Tryz.func81 (by kernel_rfl) (by kernel_rfl),_,_,Tryz.func81,rfl,by kernel_rfl,rfl,rfl⟩
def k82:KC:=
 .seq (.reg [kO 2 (.mv (.np))])
 (.seq (.reg [kM 3 0,kO 4 (.bld 151 [(0,.t 3)]),kO 5 (.box 151 (.t 4)),kM 2 5])
 (.ret))
theorem b82:Body Tryz.prog 82 6 [2] k82:=⟨Enters.of Tryz.func82 (by kernel_rfl) (by kernel_rfl),_,_,Tryz.func82,rfl,by kernel_rfl,rfl,rfl⟩
def k83:KC:=
 .seq (.reg [kO 2 (.mv (.i .u8 0))])
 (.seq (.reg [kM 4 0,kO 5 (.call (.fn 87) [.t 4,.i .i64 1]),kM 3 5])
 (.seq (.seq (.reg [kM 6 3,kO 7 (.bi .len [42] [.t 6]),kO 8 (.bin .eql 3 (.t 7) (kI 0))])
 (.cond (.t 8) (.seq (.reg [kO 2 (.mv (.i .u8 0))])
 (.ret))
 (.skip)))
 (.seq (.reg [kM 9 3,kO 10 (.ia 42 (.t 9) (kI 0)),kO 11 (.ld 5 (.t 10)),kM 2 11])
 (.ret))))
theorem b83:Body Tryz.prog 83 12 [2] k83:=⟨Enters.of Tryz.func83 (by kernel_rfl) (by kernel_rfl),_,_,Tryz.func83,rfl,by kernel_rfl,rfl,rfl⟩
def k84:KC:=
 .seq (.reg [kO 2 (.mv (kI 0))])
 (.seq (.reg [kM 6 0,kO 7 (.call (.fn 87) [.t 6,.i .i64 4]),kM 3 7])
 (.seq (.reg [kO 4 (.mv (kI 0))])
 (.seq (.seq (.reg [kO 5 (.mv (kI 0))])
 (.block 0 (.loop (.seq (.seq (.reg [kM 8 5,kM 9 3,kO 10 (.bi .len [42] [.t 9]),kO 11 (.bin .lss 3 (.t 8) (.t 10))])
 (.cond (.t 11) (.skip)
 (.exit 0)))
 (.seq (.block 1 (.reg [kM 14 4,kO 15 (.bin .shl 3 (.t 14) (.i .u64 8)),kM 16 3,kM 17 5,kO 18 (.ia 42 (.t 16) (.t 17)),kO 19 (.ld 5 (.t 18)),kO 20 (.cvt 5 3 (.t 19)),
 kO 21 (.bin .or 3 (.t 15) (.t 20)),kM 4 21]))
 (.reg [kM 12 5,kO 13 (.bin .add 3 (.t 12) (kI 1)),kM 5 13]))))))
 (.seq (.reg [kM 22 4,kM 2 22])
 (.ret)))))
theorem b84:Body Tryz.prog 84 23 [2] k84:=⟨Enters.of Tryz.func84 (by kernel_rfl) (by kernel_rfl),_,_,Tryz.func84,rfl,by kernel_rfl,rfl,rfl⟩
def k85:KC:=
 .seq (.reg [kO 2 (.mv (.b false))])
 (.seq (.reg [kM 3 0,kO 4 (.nc (.t 3)),kO 5 (.fa 151 (.t 4) 1),kO 6 (.ld 4 (.t 5)),kM 2 6])
 (.ret))
theorem b85:Body Tryz.prog 85 7 [2] k85:=⟨Enters.of Tryz.func85 (by kernel_rfl) (by kernel_rfl),_,_,Tryz.func85,rfl,by kernel_rfl,rfl,rfl⟩
def k86:KC:=
 .seq (.reg [kO 2 (.mv (kI 0))])
 (.seq (.seq (.reg [kM 3 0,kO 4 (.nc (.t 3)),kO 5 (.fa 151 (.t 4) 1),kO 6 (.ld 4 (.t 5))])
 (.cond (.t 6) (.seq (.reg [kO 2 (.mv (kI 0))])
 (.ret))
 (.skip)))
 (.seq (.reg [kM 7 0,kO 8 (.nc (.t 7)),kO 9 (.fa 151 (.t 8) 0),kO 10 (.ld 42 (.t 9)),kO 11 (.bi .len [42] [.t 10]),kM 2 11])
 (.ret)))
theorem b86:Body Tryz.prog 86 12 [2] k86:=⟨Enters.of Tryz.func86 (by kernel_rfl) (by kernel_rfl),_,_,Tryz.func86,rfl,by kernel_rfl,rfl,rfl⟩
def k87:KC:=
 .seq (.reg [kO 4 (.mv (.ns))])
 (.seq (.seq (.reg [kM 6 0,kO 7 (.nc (.t 6)),kO 8 (.fa 151 (.t 7) 1),kO 9 (.ld 4 (.t 8)),kM 10 9,kG 11 10 (.mv (.t 0)),kG 12 10 (.nc (.t 11)),
 kG 13 10 (.fa 151 (.t 12) 0),kG 14 10 (.ld 42 (.t 13)),kG 15 10 (.bi .len [42] [.t 14]),kG 16 10 (.mv (.t 1)),
 kG 17 10 (.bin .lss 3 (.t 15) (.t 16)),kO 18 (.pk (.t 10) (.b true) (.t 17))])
 (.cond (.t 18) (.seq (.reg [kM 19 0,kO 20 (.nc (.t 19)),kO 21 (.fa 151 (.t 20) 1),kN (.st 4 (.t 21) (.b true))])
 (.seq (.reg [kO 4 (.mv (.ns))])
 (.ret)))
 (.skip)))
 (.seq (.reg [kM 22 0,kO 23 (.nc (.t 22)),kO 24 (.fa 151 (.t 23) 0),kO 25 (.ld 42 (.t 24)),kM 26 1,kO 27 (.sli 42 (.t 25) none (some (.t 26)) none),kM 5 27])
 (.seq (.reg [kM 28 0,kM 29 0,kO 30 (.nc (.t 29)),kO 31 (.fa 151 (.t 30) 0),kO 32 (.ld 42 (.t 31)),kM 33 1,kO 34 (.sli 42 (.t 32) (some (.t 33)) none none),
 kO 35 (.nc (.t 28)),kO 36 (.fa 151 (.t 35) 0),kN (.st 42 (.t 36) (.t 34))])
 (.seq (.reg [kM 37 5,kM 4 37])
 (.ret)))))
theorem b87:Body Tryz.prog 87 38 [4] k87:=⟨Enters.of Tryz.func87 (by kernel_rfl) (by kernel_rfl),_,_,Tryz.func87,rfl,by kernel_rfl,rfl,rfl⟩
def k90:KC:=
 .seq (.reg [kO 2 (.al 46),kO 3 (.mv (kI 0))])
 (.seq (.reg [kM 7 0,kO 8 (.call (.fn 91) [.t 7]),kM 4 8])
 (.seq (.reg [kM 9 4,kO 10 (.call (.fn 93) [.t 9]),kO 11 (.cvt 5 3 (.t 10)),kO 12 (.bld 46 [(0,.t 11)]),kO 5 (.al 46),kN (.st 46 (.t 5) (.t 12))])
 (.seq (.reg [kM 13 4,kO 14 (.call (.fn 92) [.t 13]),kO 15 (.fa 46 (.t 5) 1),kN (.st 3 (.t 15) (.t 14))])
 (.seq (.reg [kM 16 4,kO 17 (.call (.fn 92) [.t 16]),kO 18 (.fa 46 (.t 5) 2),kN (.st 3 (.t 18) (.t 17))])
 (.seq (.reg [kM 19 4,kO 20 (.call (.fn 93) [.t 19]),kO 21 (.cvt 5 3 (.t 20)),kO 22 (.bin .shl 3 (.t 21) (.i .u64 8)),kM 23 4,kO 24 (.call (.fn 93) [.t 23]),
 kO 25 (.cvt 5 3 (.t 24)),kO 26 (.bin .or 3 (.t 22) (.t 25)),kM 6 26])
 (.seq (.reg [kM 27 4,kM 28 6,kO 29 (.call (.fn 114) [.t 27,.t 28]),kO 30 (.fa 46 (.t 5) 3),kN (.st 42 (.t 30) (.t 29))])
 (.seq (.seq (.reg [kM 31 4,kO 32 (.call (.fn 95) [.t 31]),kM 33 32,kG 34 33 (.ld 46 (.t 5)),kG 35 33 (.call (.fn 80) [.t 34]),
 kG 36 33 (.bin .neq 25 (.t 35) (kI 0)),kO 37 (.pk (.t 33) (.b true) (.t 36)),kM 38 37,kG 39 38 (.mv (.t 0)),kG 40 38 (.ld 46 (.t 5)),
 kG 41 38 (.call (.fn 81) [.t 40]),kG 42 38 (.call (.fn 115) [.t 39,.t 41]),kG 43 38 (.un .not (.t 42)),kO 44 (.pk (.t 38) (.b true) (.t 43))])
 (.cond (.t 44) (.seq (.reg [kO 45 (.bld 46 []),kN (.st 46 (.t 2) (.t 45)),kO 3 (.mv (kI 2))])
 (.ret))
 (.skip)))
 (.seq (.reg [kO 46 (.ld 46 (.t 5)),kN (.st 46 (.t 2) (.t 46)),kO 3 (.mv (kI 0))])
 (.ret)))))))))
def k91:KC:=
 .seq (.reg [kO 2 (.mv (.np))])
 (.seq (.reg [kM 3 0,kO 4 (.call (.fn 110) [.t 3]),kO 5 (.bld 154 [(0,.t 4)]),kO 6 (.box 154 (.t 5)),kM 2 6])
 (.ret))
theorem b91:Body Tryz.prog 91 7 [2] k91:=⟨Enters.of Tryz.func91 (by kernel_rfl) (by kernel_rfl),_,_,Tryz.func91,rfl,by kernel_rfl,rfl,rfl⟩
def k92:KC:=
 .seq (.reg [kO 2 (.mv (kI 0))])
 (.seq (.reg [kO 3 (.mv (.i .u32 0))])
 (.seq (.seq (.reg [kM 6 0,kO 7 (.call (.fn 116) [.t 6,.i .i64 4]),kO 8 (.bi .len [42] [.t 7]),kO 9 (.mv (kI 0))])
 (.block 0 (.loop (.seq (.reg [kO 10 (.bin .lss 3 (.t 9) (.t 8))])
 (.seq (.cond (.t 10) (.skip)
 (.exit 0))
 (.seq (.block 1 (.seq (.reg [kO 11 (.ia 42 (.t 7) (.t 9)),kO 12 (.ld 5 (.t 11)),kM 5 12])
 (.reg [kM 13 3,kO 14 (.bin .shl 81 (.t 13) (.i .u64 8)),kM 15 5,kO 16 (.cvt 5 81 (.t 15)),kO 17 (.bin .or 81 (.t 14) (.t 16)),kM 3 17])))
 (.reg [kO 18 (.bin .add 3 (.t 9) (kI 1)),kM 9 18])))))))
 (.seq (.reg [kM 19 3,kO 20 (.cvt 81 3 (.t 19)),kM 2 20])
 (.ret))))
theorem b92:Body Tryz.prog 92 21 [2] k92:=⟨Enters.of Tryz.func92 (by kernel_rfl) (by kernel_rfl),_,_,Tryz.func92,rfl,by kernel_rfl,rfl,rfl⟩
def k93:KC:=
 .seq (.reg [kO 2 (.mv (.i .u8 0))])
 (.seq (.reg [kM 4 0,kO 5 (.call (.fn 116) [.t 4,.i .i64 1]),kM 3 5])
 (.seq (.seq (.reg [kM 6 3,kO 7 (.bi .len [42] [.t 6]),kO 8 (.bin .eql 3 (.t 7) (kI 0))])
 (.cond (.t 8) (.seq (.reg [kO 2 (.mv (.i .u8 0))])
 (.ret))
 (.skip)))
 (.seq (.reg [kM 9 3,kO 10 (.ia 42 (.t 9) (kI 0)),kO 11 (.ld 5 (.t 10)),kM 2 11])
 (.ret))))
theorem b93:Body Tryz.prog 93 12 [2] k93:=⟨Enters.of Tryz.func93 (by kernel_rfl) (by kernel_rfl),_,_,Tryz.func93,rfl,by kernel_rfl,rfl,rfl⟩
def k94:KC:=
 .seq (.reg [kO 2 (.mv (kI 0))])
 (.seq (.seq (.reg [kM 3 0,kO 4 (.bin .eql 132 (.t 3) (.np))])
 (.cond (.t 4) (.seq (.reg [kO 2 (.mv (kI 0))])
 (.ret))
 (.skip)))
 (.seq (.reg [kM 5 0,kO 6 (.nc (.t 5)),kO 7 (.fa 154 (.t 6) 0),kO 8 (.ld 42 (.t 7)),kO 9 (.bi .len [42] [.t 8]),kM 2 9])
 (.ret)))
theorem b94:Body Tryz.prog 94 10 [2] k94:=⟨Enters.of Tryz.func94 (by kernel_rfl) (by kernel_rfl),_,_,Tryz.func94,rfl,by kernel_rfl,rfl,rfl⟩
def k95:KC:=
 .seq (.reg [kO 2 (.mv (.b false))])
 (.seq (.reg [kM 3 0,kO 4 (.bin .neq 132 (.t 3) (.np)),kM 5 4,kT 6 5 (.mv (.t 0)),kT 7 5 (.nc (.t 6)),kT 8 5 (.fa 154 (.t 7) 1),kT 9 5 (.ld 4 (.t 8)),
 kO 10 (.pk (.t 5) (.t 9) (.b false)),kM 2 10])
 (.ret))
theorem b95:Body Tryz.prog 95 11 [2] k95:=⟨Enters.of Tryz.func95 (by kernel_rfl) (by kernel_rfl),_,_,Tryz.func95,rfl,by kernel_rfl,rfl,rfl⟩
noncomputable def drw96_0:Array Oper:=((Tryz.f96.body.map regs).getD []).getD 0 #[]
noncomputable def drw96_1:Array Oper:=((Tryz.f96.body.map regs).getD []).getD 1 #[]
noncomputable def k96:KC:=
 .seq (.reg [kM 10 1,kO 11 (.bin .add 3 (.t 10) (kI 1)),kM 8 11])
 (.block 0 (.loop (.seq (.seq (.reg [kM 12 8,kM 13 2,kO 14 (.bin .lss 3 (.t 12) (.t 13))])
 (.cond (.t 14) (.skip)
 (.exit 0)))
 (.seq (.block 1 (.seq (.reg [kM 17 8,kM 9 17])
 (.block 2 (.loop (.seq (.seq (.drw drw96_0 [kM 18 9,kM 19 1,kO 20 (.bin .gtr 3 (.t 18) (.t 19)),kM 21 20,kT 22 21 (.mv (.t 3)),kT 23 21 (.mv (.t 0)),kT 24 21 (.mv (.t 9)),
 kT 25 21 (.ia 33 (.t 23) (.t 24)),kT 26 21 (.ld 38 (.t 25)),kT 27 21 (.mv (.t 0)),kT 28 21 (.mv (.t 9)),kT 29 21 (.bin .sub 3 (.t 28) (kI 1)),
 kT 30 21 (.ia 33 (.t 27) (.t 29)),kT 31 21 (.ld 38 (.t 30)),kT 32 21 (.call (.t 22) [.t 26,.t 31]),kT 33 21 (.bin .lss 3 (.t 32) (kI 0)),
 kO 34 (.pk (.t 21) (.t 33) (.b false))])
 (.cond (.t 34) (.skip)
 (.exit 2)))
 (.seq (.block 3 (.drw drw96_1 [kM 37 0,kM 38 9,kM 39 0,kM 40 9,kO 41 (.bin .sub 3 (.t 40) (kI 1)),kM 42 0,kM 43 9,kO 44 (.bin .sub 3 (.t 43) (kI 1)),
 kO 45 (.ia 33 (.t 42) (.t 44)),kO 46 (.ld 38 (.t 45)),kM 47 0,kM 48 9,kO 49 (.ia 33 (.t 47) (.t 48)),kO 50 (.ld 38 (.t 49)),
 kO 51 (.ia 33 (.t 37) (.t 38)),kN (.st 38 (.t 51) (.t 46)),kO 52 (.ia 33 (.t 39) (.t 41)),kN (.st 38 (.t 52) (.t 50))]))
 (.reg [kM 35 9,kO 36 (.bin .sub 3 (.t 35) (kI 1)),kM 9 36])))))))
 (.reg [kM 15 8,kO 16 (.bin .add 3 (.t 15) (kI 1)),kM 8 16])))))
theorem b96:Body Tryz.prog 96 53 [] k96:=⟨Enters.of Tryz.func96 (by kernel_rfl) (by kernel_rfl),_,_,Tryz.func96,rfl,by kernel_rfl,rfl,rfl⟩
noncomputable def drw98_0:Array Oper:=((Tryz.f98.body.map regs).getD []).getD 0 #[]
noncomputable def k98:KC:=
 .seq (.reg [kM 13 2,kM 14 1,kO 15 (.bin .sub 3 (.t 13) (.t 14)),kM 8 15])
 (.seq (.reg [kM 16 8,kO 17 (.bin .geq 3 (.t 16) (kI 8))])
 (.cond (.t 17) (.seq (.reg [kM 18 8,kO 19 (.cvt 3 155 (.t 18)),kO 9 (.al 155),kN (.st 155 (.t 9) (.t 19))])
 (.seq (.reg [kM 20 8,kO 21 (.call (.fn 118) [.t 20]),kM 10 21])
 (.seq (.reg [kM 22 1,kM 23 8,kO 24 (.bin .quo 3 (.t 23) (kI 4)),kO 25 (.bin .mul 3 (.t 24) (kI 2)),kO 26 (.bin .add 3 (.t 22) (.t 25)),
 kO 27 (.bin .sub 3 (.t 26) (kI 1)),kM 11 27])
 (.block 0 (.loop (.seq (.seq (.reg [kM 28 11,kM 29 1,kM 30 8,kO 31 (.bin .quo 3 (.t 30) (kI 4)),kO 32 (.bin .mul 3 (.t 31) (kI 2)),kO 33 (.bin .add 3 (.t 29) (.t 32)),
 kO 34 (.bin .add 3 (.t 33) (kI 1)),kO 35 (.bin .leq 3 (.t 28) (.t 34))])
 (.cond (.t 35) (.skip)
 (.exit 0)))
 (.seq (.block 1 (.seq (.reg [kO 38 (.call (.fn 119) [.t 9]),kM 39 10,kO 40 (.bin .sub 80 (.t 39) (.i .u64 1)),kO 41 (.bin .and 80 (.t 38) (.t 40)),kO 42 (.cvt 80 3 (.t 41)),
 kM 12 42])
 (.seq (.seq (.reg [kM 43 12,kM 44 8,kO 45 (.bin .geq 3 (.t 43) (.t 44))])
 (.cond (.t 45) (.reg [kM 46 12,kM 47 8,kO 48 (.bin .sub 3 (.t 46) (.t 47)),kM 12 48])
 (.skip)))
 (.drw drw98_0 [kM 49 0,kM 50 11,kM 51 0,kM 52 1,kM 53 12,kO 54 (.bin .add 3 (.t 52) (.t 53)),kM 55 0,kM 56 1,kM 57 12,kO 58 (.bin .add 3 (.t 56) (.t 57)),
 kO 59 (.ia 33 (.t 55) (.t 58)),kO 60 (.ld 38 (.t 59)),kM 61 0,kM 62 11,kO 63 (.ia 33 (.t 61) (.t 62)),kO 64 (.ld 38 (.t 63)),
 kO 65 (.ia 33 (.t 49) (.t 50)),kN (.st 38 (.t 65) (.t 60)),kO 66 (.ia 33 (.t 51) (.t 54)),kN (.st 38 (.t 66) (.t 64))]))))
 (.reg [kM 36 11,kO 37 (.bin .add 3 (.t 36) (kI 1)),kM 11 37]))))))))
 (.skip)))
theorem b98:Body Tryz.prog 98 67 [] k98:=⟨Enters.of Tryz.func98 (by kernel_rfl) (by kernel_rfl),_,_,Tryz.func98,rfl,by kernel_rfl,rfl,rfl⟩
def k99:KC:=
 .seq (.reg [kO 8 (.mv (kI 0)),kO 9 (.mv (kI 0))])
 (.seq (.reg [kM 15 2,kM 16 1,kO 17 (.bin .sub 3 (.t 15) (.t 16)),kM 10 17])
 (.seq (.reg [kO 11 (.al 3)])
 (.seq (.reg [kM 18 1,kM 19 10,kO 20 (.bin .quo 3 (.t 19) (kI 4)),kO 21 (.bin .mul 3 (.t 20) (kI 1)),kO 22 (.bin .add 3 (.t 18) (.t 21)),kM 12 22])
 (.seq (.reg [kM 23 1,kM 24 10,kO 25 (.bin .quo 3 (.t 24) (kI 4)),kO 26 (.bin .mul 3 (.t 25) (kI 2)),kO 27 (.bin .add 3 (.t 23) (.t 26)),kM 13 27])
 (.seq (.reg [kM 28 1,kM 29 10,kO 30 (.bin .quo 3 (.t 29) (kI 4)),kO 31 (.bin .mul 3 (.t 30) (kI 3)),kO 32 (.bin .add 3 (.t 28) (.t 31)),kM 14 32])
 (.seq (.seq (.reg [kM 33 10,kO 34 (.bin .geq 3 (.t 33) (kI 8))])
 (.cond (.t 34) (.seq (.seq (.reg [kM 35 10,kO 36 (.bin .geq 3 (.t 35) (kI 50))])
 (.cond (.t 36) (.seq (.reg [kM 37 0,kM 38 12,kM 39 3,kO 40 (.call (.fn 120) [.t 37,.t 38,.t 11,.t 39]),kM 12 40])
 (.seq (.reg [kM 41 0,kM 42 13,kM 43 3,kO 44 (.call (.fn 120) [.t 41,.t 42,.t 11,.t 43]),kM 13 44])
 (.reg [kM 45 0,kM 46 14,kM 47 3,kO 48 (.call (.fn 120) [.t 45,.t 46,.t 11,.t 47]),kM 14 48])))
 (.skip)))
 (.reg [kM 49 0,kM 50 12,kM 51 13,kM 52 14,kM 53 3,kO 54 (.call (.fn 121) [.t 49,.t 50,.t 51,.t 52,.t 11,.t 53]),kM 13 54]))
 (.skip)))
 (.seq (.reg [kO 55 (.ld 3 (.t 11))])
 (.block 0 (.seq (.reg [kO 58 (.bin .eql 3 (.t 55) (kI 0)),kM 57 58])
 (.cond (.t 57) (.seq (.reg [kM 59 13,kM 8 59,kO 9 (.mv (kI 1))])
 (.ret))
 (.seq (.reg [kO 61 (.bin .eql 3 (.t 55) (kI 12)),kM 60 61])
 (.cond (.t 60) (.seq (.reg [kM 62 13,kM 8 62,kO 9 (.mv (kI 2))])
 (.ret))
 (.seq (.reg [kM 56 13,kM 8 56,kO 9 (.mv (kI 0))])
 (.ret))))))))))))))
theorem b99:Body Tryz.prog 99 63 [8,9] k99:=⟨Enters.of Tryz.func99 (by kernel_rfl) (by kernel_rfl),_,_,Tryz.func99,rfl,by kernel_rfl,rfl,rfl⟩
noncomputable def drw101_0:Array Oper:=((Tryz.f101.body.map regs).getD []).getD 0 #[]
noncomputable def drw101_1:Array Oper:=((Tryz.f101.body.map regs).getD []).getD 1 #[]
noncomputable def drw101_2:Array Oper:=((Tryz.f101.body.map regs).getD []).getD 2 #[]
noncomputable def drw101_3:Array Oper:=((Tryz.f101.body.map regs).getD []).getD 3 #[]
noncomputable def drw101_4:Array Oper:=((Tryz.f101.body.map regs).getD []).getD 4 #[]
noncomputable def drw101_5:Array Oper:=((Tryz.f101.body.map regs).getD []).getD 5 #[]
noncomputable def k101:KC:=
 .seq (.reg [kO 8 (.mv (.b false))])
 (.seq (.reg [kM 13 1,kO 14 (.bin .add 3 (.t 13) (kI 1)),kM 9 14])
 (.seq (.seq (.reg [kO 10 (.mv (kI 0))])
 (.block 0 (.loop (.seq (.seq (.reg [kM 15 10,kO 16 (.bin .lss 3 (.t 15) (kI 5))])
 (.cond (.t 16) (.skip)
 (.exit 0)))
 (.seq (.block 1 (.seq (.block 2 (.loop (.seq (.seq (.drw drw101_0 [kM 19 9,kM 20 2,kO 21 (.bin .lss 3 (.t 19) (.t 20)),kM 22 21,kT 23 22 (.mv (.t 3)),kT 24 22 (.mv (.t 0)),kT 25 22 (.mv (.t 9)),
 kT 26 22 (.ia 33 (.t 24) (.t 25)),kT 27 22 (.ld 38 (.t 26)),kT 28 22 (.mv (.t 0)),kT 29 22 (.mv (.t 9)),kT 30 22 (.bin .sub 3 (.t 29) (kI 1)),
 kT 31 22 (.ia 33 (.t 28) (.t 30)),kT 32 22 (.ld 38 (.t 31)),kT 33 22 (.call (.t 23) [.t 27,.t 32]),kT 34 22 (.bin .lss 3 (.t 33) (kI 0)),
 kT 35 22 (.un .not (.t 34)),kO 36 (.pk (.t 22) (.t 35) (.b false))])
 (.cond (.t 36) (.skip)
 (.exit 2)))
 (.block 3 (.reg [kM 37 9,kO 38 (.bin .add 3 (.t 37) (kI 1)),kM 9 38])))))
 (.seq (.seq (.reg [kM 39 9,kM 40 2,kO 41 (.bin .eql 3 (.t 39) (.t 40))])
 (.cond (.t 41) (.seq (.reg [kO 8 (.mv (.b true))])
 (.ret))
 (.skip)))
 (.seq (.seq (.reg [kM 42 2,kM 43 1,kO 44 (.bin .sub 3 (.t 42) (.t 43)),kO 45 (.bin .lss 3 (.t 44) (kI 50))])
 (.cond (.t 45) (.seq (.reg [kO 8 (.mv (.b false))])
 (.ret))
 (.skip)))
 (.seq (.drw drw101_1 [kM 46 0,kM 47 9,kM 48 0,kM 49 9,kO 50 (.bin .sub 3 (.t 49) (kI 1)),kM 51 0,kM 52 9,kO 53 (.bin .sub 3 (.t 52) (kI 1)),
 kO 54 (.ia 33 (.t 51) (.t 53)),kO 55 (.ld 38 (.t 54)),kM 56 0,kM 57 9,kO 58 (.ia 33 (.t 56) (.t 57)),kO 59 (.ld 38 (.t 58)),
 kO 60 (.ia 33 (.t 46) (.t 47)),kN (.st 38 (.t 60) (.t 55)),kO 61 (.ia 33 (.t 48) (.t 50)),kN (.st 38 (.t 61) (.t 59))])
 (.seq (.seq (.reg [kM 62 9,kM 63 1,kO 64 (.bin .sub 3 (.t 62) (.t 63)),kO 65 (.bin .geq 3 (.t 64) (kI 2))])
 (.cond (.t 65) (.seq (.reg [kM 66 9,kO 67 (.bin .sub 3 (.t 66) (kI 1)),kM 11 67])
 (.block 4 (.loop (.seq (.seq (.reg [kM 68 11,kO 69 (.bin .geq 3 (.t 68) (kI 1))])
 (.cond (.t 69) (.skip)
 (.exit 4)))
 (.seq (.block 5 (.seq (.seq (.drw drw101_2 [kM 72 3,kM 73 0,kM 74 11,kO 75 (.ia 33 (.t 73) (.t 74)),kO 76 (.ld 38 (.t 75)),kM 77 0,kM 78 11,kO 79 (.bin .sub 3 (.t 78) (kI 1)),
 kO 80 (.ia 33 (.t 77) (.t 79)),kO 81 (.ld 38 (.t 80)),kO 82 (.call (.t 72) [.t 76,.t 81]),kO 83 (.bin .lss 3 (.t 82) (kI 0)),
 kO 84 (.un .not (.t 83))])
 (.cond (.t 84) (.exit 4)
 (.skip)))
 (.drw drw101_3 [kM 85 0,kM 86 11,kM 87 0,kM 88 11,kO 89 (.bin .sub 3 (.t 88) (kI 1)),kM 90 0,kM 91 11,kO 92 (.bin .sub 3 (.t 91) (kI 1)),
 kO 93 (.ia 33 (.t 90) (.t 92)),kO 94 (.ld 38 (.t 93)),kM 95 0,kM 96 11,kO 97 (.ia 33 (.t 95) (.t 96)),kO 98 (.ld 38 (.t 97)),
 kO 99 (.ia 33 (.t 85) (.t 86)),kN (.st 38 (.t 99) (.t 94)),kO 100 (.ia 33 (.t 87) (.t 89)),kN (.st 38 (.t 100) (.t 98))])))
 (.reg [kM 70 11,kO 71 (.bin .sub 3 (.t 70) (kI 1)),kM 11 71]))))))
 (.skip)))
 (.seq (.reg [kM 101 2,kM 102 9,kO 103 (.bin .sub 3 (.t 101) (.t 102)),kO 104 (.bin .geq 3 (.t 103) (kI 2))])
 (.cond (.t 104) (.seq (.reg [kM 105 9,kO 106 (.bin .add 3 (.t 105) (kI 1)),kM 12 106])
 (.block 6 (.loop (.seq (.seq (.reg [kM 107 12,kM 108 2,kO 109 (.bin .lss 3 (.t 107) (.t 108))])
 (.cond (.t 109) (.skip)
 (.exit 6)))
 (.seq (.block 7 (.seq (.seq (.drw drw101_4 [kM 112 3,kM 113 0,kM 114 12,kO 115 (.ia 33 (.t 113) (.t 114)),kO 116 (.ld 38 (.t 115)),kM 117 0,kM 118 12,
 kO 119 (.bin .sub 3 (.t 118) (kI 1)),kO 120 (.ia 33 (.t 117) (.t 119)),kO 121 (.ld 38 (.t 120)),kO 122 (.call (.t 112) [.t 116,.t 121]),
 kO 123 (.bin .lss 3 (.t 122) (kI 0)),kO 124 (.un .not (.t 123))])
 (.cond (.t 124) (.exit 6)
 (.skip)))
 (.drw drw101_5 [kM 125 0,kM 126 12,kM 127 0,kM 128 12,kO 129 (.bin .sub 3 (.t 128) (kI 1)),kM 130 0,kM 131 12,kO 132 (.bin .sub 3 (.t 131) (kI 1)),
 kO 133 (.ia 33 (.t 130) (.t 132)),kO 134 (.ld 38 (.t 133)),kM 135 0,kM 136 12,kO 137 (.ia 33 (.t 135) (.t 136)),kO 138 (.ld 38 (.t 137)),
 kO 139 (.ia 33 (.t 125) (.t 126)),kN (.st 38 (.t 139) (.t 134)),kO 140 (.ia 33 (.t 127) (.t 129)),kN (.st 38 (.t 140) (.t 138))])))
 (.reg [kM 110 12,kO 111 (.bin .add 3 (.t 110) (kI 1)),kM 12 111]))))))
 (.skip)))))))))
 (.reg [kM 17 10,kO 18 (.bin .add 3 (.t 17) (kI 1)),kM 10 18]))))))
 (.seq (.reg [kO 8 (.mv (.b false))])
 (.ret))))
theorem b101:Body Tryz.prog 101 141 [8] k101:=⟨Enters.of Tryz.func101 (by kernel_rfl) (by kernel_rfl),_,_,Tryz.func101,rfl,by kernel_rfl,rfl,rfl⟩
noncomputable def drw103_0:Array Oper:=((Tryz.f103.body.map regs).getD []).getD 0 #[]
noncomputable def drw103_1:Array Oper:=((Tryz.f103.body.map regs).getD []).getD 1 #[]
noncomputable def drw103_2:Array Oper:=((Tryz.f103.body.map regs).getD []).getD 2 #[]
noncomputable def drw103_3:Array Oper:=((Tryz.f103.body.map regs).getD []).getD 3 #[]
noncomputable def drw103_4:Array Oper:=((Tryz.f103.body.map regs).getD []).getD 4 #[]
noncomputable def drw103_5:Array Oper:=((Tryz.f103.body.map regs).getD []).getD 5 #[]
noncomputable def drw103_6:Array Oper:=((Tryz.f103.body.map regs).getD []).getD 6 #[]
noncomputable def drw103_7:Array Oper:=((Tryz.f103.body.map regs).getD []).getD 7 #[]
noncomputable def drw103_8:Array Oper:=((Tryz.f103.body.map regs).getD []).getD 8 #[]
noncomputable def k103:KC:=
 .seq (.reg [kO 10 (.mv (kI 0)),kO 11 (.mv (.b false))])
 (.seq (.drw drw103_0 [kM 14 0,kM 15 1,kM 16 0,kM 17 3,kM 18 0,kM 19 3,kO 20 (.ia 33 (.t 18) (.t 19)),kO 21 (.ld 38 (.t 20)),kM 22 0,kM 23 1,
 kO 24 (.ia 33 (.t 22) (.t 23)),kO 25 (.ld 38 (.t 24)),kO 26 (.ia 33 (.t 14) (.t 15)),kN (.st 38 (.t 26) (.t 21)),kO 27 (.ia 33 (.t 16) (.t 17)),
 kN (.st 38 (.t 27) (.t 25))])
 (.seq (.reg [kM 28 1,kO 29 (.bin .add 3 (.t 28) (kI 1)),kM 30 2,kO 31 (.bin .sub 3 (.t 30) (kI 1)),kM 12 29,kM 13 31])
 (.seq (.block 0 (.loop (.seq (.seq (.drw drw103_1 [kM 32 12,kM 33 13,kO 34 (.bin .leq 3 (.t 32) (.t 33)),kM 35 34,kT 36 35 (.mv (.t 4)),kT 37 35 (.mv (.t 0)),kT 38 35 (.mv (.t 12)),
 kT 39 35 (.ia 33 (.t 37) (.t 38)),kT 40 35 (.ld 38 (.t 39)),kT 41 35 (.mv (.t 0)),kT 42 35 (.mv (.t 1)),kT 43 35 (.ia 33 (.t 41) (.t 42)),
 kT 44 35 (.ld 38 (.t 43)),kT 45 35 (.call (.t 36) [.t 40,.t 44]),kT 46 35 (.bin .lss 3 (.t 45) (kI 0)),kO 47 (.pk (.t 35) (.t 46) (.b false))])
 (.cond (.t 47) (.skip)
 (.exit 0)))
 (.block 1 (.reg [kM 48 12,kO 49 (.bin .add 3 (.t 48) (kI 1)),kM 12 49])))))
 (.seq (.block 2 (.loop (.seq (.seq (.drw drw103_2 [kM 50 12,kM 51 13,kO 52 (.bin .leq 3 (.t 50) (.t 51)),kM 53 52,kT 54 53 (.mv (.t 4)),kT 55 53 (.mv (.t 0)),kT 56 53 (.mv (.t 13)),
 kT 57 53 (.ia 33 (.t 55) (.t 56)),kT 58 53 (.ld 38 (.t 57)),kT 59 53 (.mv (.t 0)),kT 60 53 (.mv (.t 1)),kT 61 53 (.ia 33 (.t 59) (.t 60)),
 kT 62 53 (.ld 38 (.t 61)),kT 63 53 (.call (.t 54) [.t 58,.t 62]),kT 64 53 (.bin .lss 3 (.t 63) (kI 0)),kT 65 53 (.un .not (.t 64)),
 kO 66 (.pk (.t 53) (.t 65) (.b false))])
 (.cond (.t 66) (.skip)
 (.exit 2)))
 (.block 3 (.reg [kM 67 13,kO 68 (.bin .sub 3 (.t 67) (kI 1)),kM 13 68])))))
 (.seq (.seq (.reg [kM 69 12,kM 70 13,kO 71 (.bin .gtr 3 (.t 69) (.t 70))])
 (.cond (.t 71) (.seq (.drw drw103_3 [kM 72 0,kM 73 13,kM 74 0,kM 75 1,kM 76 0,kM 77 1,kO 78 (.ia 33 (.t 76) (.t 77)),kO 79 (.ld 38 (.t 78)),kM 80 0,kM 81 13,
 kO 82 (.ia 33 (.t 80) (.t 81)),kO 83 (.ld 38 (.t 82)),kO 84 (.ia 33 (.t 72) (.t 73)),kN (.st 38 (.t 84) (.t 79)),kO 85 (.ia 33 (.t 74) (.t 75)),
 kN (.st 38 (.t 85) (.t 83))])
 (.seq (.reg [kM 86 13,kM 10 86,kO 11 (.mv (.b true))])
 (.ret)))
 (.skip)))
 (.seq (.drw drw103_4 [kM 87 0,kM 88 12,kM 89 0,kM 90 13,kM 91 0,kM 92 13,kO 93 (.ia 33 (.t 91) (.t 92)),kO 94 (.ld 38 (.t 93)),kM 95 0,kM 96 12,
 kO 97 (.ia 33 (.t 95) (.t 96)),kO 98 (.ld 38 (.t 97)),kO 99 (.ia 33 (.t 87) (.t 88)),kN (.st 38 (.t 99) (.t 94)),kO 100 (.ia 33 (.t 89) (.t 90)),
 kN (.st 38 (.t 100) (.t 98))])
 (.seq (.reg [kM 101 12,kO 102 (.bin .add 3 (.t 101) (kI 1)),kM 12 102])
 (.seq (.reg [kM 103 13,kO 104 (.bin .sub 3 (.t 103) (kI 1)),kM 13 104])
 (.seq (.block 4 (.loop (.block 5 (.seq (.block 6 (.loop (.seq (.seq (.drw drw103_5 [kM 105 12,kM 106 13,kO 107 (.bin .leq 3 (.t 105) (.t 106)),kM 108 107,kT 109 108 (.mv (.t 4)),kT 110 108 (.mv (.t 0)),kT 111 108 (.mv (.t 12)),
 kT 112 108 (.ia 33 (.t 110) (.t 111)),kT 113 108 (.ld 38 (.t 112)),kT 114 108 (.mv (.t 0)),kT 115 108 (.mv (.t 1)),
 kT 116 108 (.ia 33 (.t 114) (.t 115)),kT 117 108 (.ld 38 (.t 116)),kT 118 108 (.call (.t 109) [.t 113,.t 117]),
 kT 119 108 (.bin .lss 3 (.t 118) (kI 0)),kO 120 (.pk (.t 108) (.t 119) (.b false))])
 (.cond (.t 120) (.skip)
 (.exit 6)))
 (.block 7 (.reg [kM 121 12,kO 122 (.bin .add 3 (.t 121) (kI 1)),kM 12 122])))))
 (.seq (.block 8 (.loop (.seq (.seq (.drw drw103_6 [kM 123 12,kM 124 13,kO 125 (.bin .leq 3 (.t 123) (.t 124)),kM 126 125,kT 127 126 (.mv (.t 4)),kT 128 126 (.mv (.t 0)),kT 129 126 (.mv (.t 13)),
 kT 130 126 (.ia 33 (.t 128) (.t 129)),kT 131 126 (.ld 38 (.t 130)),kT 132 126 (.mv (.t 0)),kT 133 126 (.mv (.t 1)),
 kT 134 126 (.ia 33 (.t 132) (.t 133)),kT 135 126 (.ld 38 (.t 134)),kT 136 126 (.call (.t 127) [.t 131,.t 135]),
 kT 137 126 (.bin .lss 3 (.t 136) (kI 0)),kT 138 126 (.un .not (.t 137)),kO 139 (.pk (.t 126) (.t 138) (.b false))])
 (.cond (.t 139) (.skip)
 (.exit 8)))
 (.block 9 (.reg [kM 140 13,kO 141 (.bin .sub 3 (.t 140) (kI 1)),kM 13 141])))))
 (.seq (.seq (.reg [kM 142 12,kM 143 13,kO 144 (.bin .gtr 3 (.t 142) (.t 143))])
 (.cond (.t 144) (.exit 4)
 (.skip)))
 (.seq (.drw drw103_7 [kM 145 0,kM 146 12,kM 147 0,kM 148 13,kM 149 0,kM 150 13,kO 151 (.ia 33 (.t 149) (.t 150)),kO 152 (.ld 38 (.t 151)),kM 153 0,kM 154 12,
 kO 155 (.ia 33 (.t 153) (.t 154)),kO 156 (.ld 38 (.t 155)),kO 157 (.ia 33 (.t 145) (.t 146)),kN (.st 38 (.t 157) (.t 152)),
 kO 158 (.ia 33 (.t 147) (.t 148)),kN (.st 38 (.t 158) (.t 156))])
 (.seq (.reg [kM 159 12,kO 160 (.bin .add 3 (.t 159) (kI 1)),kM 12 160])
 (.reg [kM 161 13,kO 162 (.bin .sub 3 (.t 161) (kI 1)),kM 13 162])))))))))
 (.seq (.drw drw103_8 [kM 163 0,kM 164 13,kM 165 0,kM 166 1,kM 167 0,kM 168 1,kO 169 (.ia 33 (.t 167) (.t 168)),kO 170 (.ld 38 (.t 169)),kM 171 0,kM 172 13,
 kO 173 (.ia 33 (.t 171) (.t 172)),kO 174 (.ld 38 (.t 173)),kO 175 (.ia 33 (.t 163) (.t 164)),kN (.st 38 (.t 175) (.t 170)),
 kO 176 (.ia 33 (.t 165) (.t 166)),kN (.st 38 (.t 176) (.t 174))])
 (.seq (.reg [kM 177 13,kM 10 177,kO 11 (.mv (.b false))])
 (.ret))))))))))))
theorem b103:Body Tryz.prog 103 178 [10,11] k103:=⟨Enters.of Tryz.func103 (by kernel_rfl) (by kernel_rfl),_,_,Tryz.func103,rfl,by kernel_rfl,rfl,rfl⟩
def k105:KC:=
 .seq (.reg [kO 2 (.mv (kI 0))])
 (.seq (.seq (.reg [kM 3 0,kO 4 (.bin .geq 108 (.t 3) (.i .u64 4294967296))])
 (.cond (.t 4) (.seq (.reg [kM 5 0,kO 6 (.bin .shr 108 (.t 5) (.i .u64 32)),kM 0 6])
 (.reg [kO 2 (.mv (kI 32))]))
 (.skip)))
 (.seq (.seq (.reg [kM 7 0,kO 8 (.bin .geq 108 (.t 7) (.i .u64 65536))])
 (.cond (.t 8) (.seq (.reg [kM 9 0,kO 10 (.bin .shr 108 (.t 9) (.i .u64 16)),kM 0 10])
 (.reg [kM 11 2,kO 12 (.bin .add 3 (.t 11) (kI 16)),kM 2 12]))
 (.skip)))
 (.seq (.seq (.reg [kM 13 0,kO 14 (.bin .geq 108 (.t 13) (.i .u64 256))])
 (.cond (.t 14) (.seq (.reg [kM 15 0,kO 16 (.bin .shr 108 (.t 15) (.i .u64 8)),kM 0 16])
 (.reg [kM 17 2,kO 18 (.bin .add 3 (.t 17) (kI 8)),kM 2 18]))
 (.skip)))
 (.seq (.reg [kM 19 2,kM 20 0,kO 21 (.cvt 108 5 (.t 20)),
 kO 22 (.ix 9 (.s ⟨#[0,1,2,2,3,3,3,3,4,4,4,4,4,4,4,4,5,5,5,5,5,5,5,5,5,5,5,5,5,5,5,5,6,6,6,6,6,6,6,6,6,6,6,6,6,6,6,6,6,6,6,6,6,6,6,6,6,6,6,6,6,6,6,6,7,7,7,7,7,7,7,7,7,7,7,7,7,7,7,7,7,7,7,7,7,7,7,7,7,7,7,7,7,7,7,7,7,7,7,7,7,7,7,7,7,7,7,7,7,7,7,7,7,7,7,7,7,7,7,7,7,7,7,7,7,7,7,7,8,8,8,8,8,8,8,8,8,8,8,8,8,8,8,8,8,8,8,8,8,8,8,8,8,8,8,8,8,8,8,8,8,8,8,8,8,8,8,8,8,8,8,8,8,8,8,8,8,8,8,8,8,8,8,8,8,8,8,8,8,8,8,8,8,8,8,8,8,8,8,8,8,8,8,8,8,8,8,8,8,8,8,8,8,8,8,8,8,8,8,8,8,8,8,8,8,8,8,8,8,8,8,8,8,8,8,8,8,8,8,8,8,8,8,8,8,8,8,8,8,8,8,8,8,8,8,8]⟩) (.t 21)),
 kO 23 (.cvt 5 3 (.t 22)),kO 24 (.bin .add 3 (.t 19) (.t 23)),kM 2 24])
 (.ret)))))
theorem b105:Body Tryz.prog 105 25 [2] k105:=⟨Enters.of Tryz.func105 (by kernel_rfl) (by kernel_rfl),_,_,Tryz.func105,rfl,by kernel_rfl,rfl,rfl⟩
def k106:KC:=
 .seq (.reg [kO 3 (.mv (.b false))])
 (.seq (.reg [kM 4 0,kO 5 (.bi .len [42] [.t 4]),kO 6 (.ld 47 (.t 1)),kO 7 (.ia 47 (.t 6) (kI 0)),kO 8 (.ld 42 (.t 7)),kO 9 (.bi .len [42] [.t 8]),
 kO 10 (.bin .neq 3 (.t 5) (.t 9)),kM 3 10])
 (.ret))
theorem b106:Body Tryz.prog 106 11 [3] k106:=⟨Enters.of Tryz.func106 (by kernel_rfl) (by kernel_rfl),_,_,Tryz.func106,rfl,by kernel_rfl,rfl,rfl⟩
def k107:KC:=
 .seq (.reg [kO 2 (.mv (.i .u8 0))])
 (.seq (.reg [kM 3 0,kO 4 (.call (.fn 122) [.t 3,.i .i64 254]),kM 2 4])
 (.ret))
theorem b107:Body Tryz.prog 107 5 [2] k107:=⟨Enters.of Tryz.func107 (by kernel_rfl) (by kernel_rfl),_,_,Tryz.func107,rfl,by kernel_rfl,rfl,rfl⟩
def k108:KC:=
 .seq (.reg [kO 4 (.mv (.i .u8 0))])
 (.seq (.reg [kM 5 0,kM 6 1,kO 7 (.bin .xor 5 (.t 5) (.t 6)),kM 4 7])
 (.ret))
theorem b108:Body Tryz.prog 108 8 [4] k108:=⟨Enters.of Tryz.func108 (by kernel_rfl) (by kernel_rfl),_,_,Tryz.func108,rfl,by kernel_rfl,rfl,rfl⟩
def k109:KC:=
 .seq (.reg [kO 4 (.mv (.ns)),kO 5 (.mv (kI 0))])
 (.seq (.seq (.reg [kM 6 0,kO 7 (.call (.fn 123) [.t 6]),kO 8 (.un .not (.t 7)),kM 9 8,kG 10 9 (.mv (.t 1)),kG 11 9 (.bi .len [42] [.t 10]),kG 12 9 (.mv (.t 0)),
 kG 13 9 (.ia 47 (.t 12) (kI 0)),kG 14 9 (.ld 42 (.t 13)),kG 15 9 (.bi .len [42] [.t 14]),kG 16 9 (.bin .neq 3 (.t 11) (.t 15)),
 kO 17 (.pk (.t 9) (.b true) (.t 16))])
 (.cond (.t 17) (.seq (.reg [kO 4 (.mv (.ns)),kO 5 (.mv (kI 1))])
 (.ret))
 (.skip)))
 (.seq (.reg [kM 18 0,kM 19 1,kO 20 (.call (.fn 124) [.t 18,.t 19]),kM 4 20,kO 5 (.mv (kI 0))])
 (.ret)))
theorem b109:Body Tryz.prog 109 21 [4,5] k109:=⟨Enters.of Tryz.func109 (by kernel_rfl) (by kernel_rfl),_,_,Tryz.func109,rfl,by kernel_rfl,rfl,rfl⟩
def k110:KC:=
 .seq (.reg [kO 2 (.mv (.ns))])
 (.seq (.seq (.reg [kM 3 0,kO 4 (.bin .eql 42 (.t 3) (.ns))])
 (.cond (.t 4) (.seq (.reg [kO 2 (.mv (.ns))])
 (.ret))
 (.skip)))
 (.seq (.reg [kO 5 (.bsl 42 0 []),kM 6 0,kO 7 (.bi .append [42,42] [.t 5,.t 6]),kM 2 7])
 (.ret)))
theorem b110:Body Tryz.prog 110 8 [2] k110:=⟨Enters.of Tryz.func110 (by kernel_rfl) (by kernel_rfl),_,_,Tryz.func110,rfl,by kernel_rfl,rfl,rfl⟩
def k111:KC:=
 .seq (.reg [kO 2 (.mv (kI 0))])
 (.seq (.seq (.reg [kM 3 0,kO 4 (.bin .eql 3 (.t 3) (kI 6))])
 (.cond (.t 4) (.seq (.reg [kO 2 (.mv (kI 79))])
 (.ret))
 (.skip)))
 (.seq (.reg [kO 2 (.mv (kI 64))])
 (.ret)))
theorem b111:Body Tryz.prog 111 5 [2] k111:=⟨Enters.of Tryz.func111 (by kernel_rfl) (by kernel_rfl),_,_,Tryz.func111,rfl,by kernel_rfl,rfl,rfl⟩
def k112:KC:=
 .seq (.reg [kO 2 (.mv (.i .u32 0))])
 (.seq (.reg [kM 3 0,kO 4 (.call (.fn 125) [.i .u32 0,.t 3]),kM 2 4])
 (.ret))
theorem b112:Body Tryz.prog 112 5 [2] k112:=⟨Enters.of Tryz.func112 (by kernel_rfl) (by kernel_rfl),_,_,Tryz.func112,rfl,by kernel_rfl,rfl,rfl⟩
def k114:KC:=
 .seq (.reg [kO 4 (.mv (.ns))])
 (.seq (.reg [kM 5 0,kM 6 1,kO 7 (.bi .max [3,3] [.i .i64 0,.t 6]),kO 8 (.call (.fn 116) [.t 5,.t 7]),kO 9 (.call (.fn 110) [.t 8]),kM 4 9])
 (.ret))
theorem b114:Body Tryz.prog 114 10 [4] k114:=⟨Enters.of Tryz.func114 (by kernel_rfl) (by kernel_rfl),_,_,Tryz.func114,rfl,by kernel_rfl,rfl,rfl⟩
noncomputable def drw115_0:Array Oper:=((Tryz.f115.body.map regs).getD []).getD 0 #[]
noncomputable def k115:KC:=
 .seq (.reg [kO 4 (.mv (.b false))])
 (.seq (.seq (.reg [kM 6 0,kO 7 (.bi .len [42] [.t 6]),kM 8 1,kO 9 (.bi .len [42] [.t 8]),kO 10 (.bin .neq 3 (.t 7) (.t 9))])
 (.cond (.t 10) (.seq (.reg [kO 4 (.mv (.b false))])
 (.ret))
 (.skip)))
 (.seq (.seq (.reg [kM 11 0,kO 12 (.bi .len [42] [.t 11]),kO 13 (.mv (kI 0))])
 (.block 0 (.loop (.seq (.reg [kO 14 (.bin .lss 3 (.t 13) (.t 12))])
 (.seq (.cond (.t 14) (.skip)
 (.exit 0))
 (.seq (.block 1 (.seq (.reg [kM 15 13,kM 5 15])
 (.seq (.drw drw115_0 [kM 16 0,kM 17 5,kO 18 (.ia 42 (.t 16) (.t 17)),kO 19 (.ld 5 (.t 18)),kM 20 1,kM 21 5,kO 22 (.ia 42 (.t 20) (.t 21)),kO 23 (.ld 5 (.t 22)),
 kO 24 (.bin .neq 5 (.t 19) (.t 23))])
 (.cond (.t 24) (.seq (.reg [kO 4 (.mv (.b false))])
 (.ret))
 (.skip)))))
 (.reg [kO 25 (.bin .add 3 (.t 13) (kI 1)),kM 13 25])))))))
 (.seq (.reg [kO 4 (.mv (.b true))])
 (.ret))))
theorem b115:Body Tryz.prog 115 26 [4] k115:=⟨Enters.of Tryz.func115 (by kernel_rfl) (by kernel_rfl),_,_,Tryz.func115,rfl,by kernel_rfl,rfl,rfl⟩
def k116:KC:=
 .seq (.reg [kO 4 (.mv (.ns))])
 (.seq (.seq (.reg [kM 6 0,kO 7 (.bin .eql 132 (.t 6) (.np)),kM 8 7,kG 9 8 (.mv (.t 0)),kG 10 8 (.nc (.t 9)),kG 11 8 (.fa 154 (.t 10) 1),kG 12 8 (.ld 4 (.t 11)),
 kO 13 (.pk (.t 8) (.b true) (.t 12))])
 (.cond (.t 13) (.seq (.reg [kO 4 (.mv (.ns))])
 (.ret))
 (.skip)))
 (.seq (.seq (.reg [kM 14 1,kM 15 0,kO 16 (.nc (.t 15)),kO 17 (.fa 154 (.t 16) 0),kO 18 (.ld 42 (.t 17)),kO 19 (.bi .len [42] [.t 18]),
 kO 20 (.bin .gtr 3 (.t 14) (.t 19))])
 (.cond (.t 20) (.seq (.reg [kM 21 0,kM 22 0,kO 23 (.nc (.t 21)),kO 24 (.fa 154 (.t 23) 0),kN (.st 42 (.t 24) (.ns)),kO 25 (.nc (.t 22)),kO 26 (.fa 154 (.t 25) 1),
 kN (.st 4 (.t 26) (.b true))])
 (.seq (.reg [kO 4 (.mv (.ns))])
 (.ret)))
 (.skip)))
 (.seq (.reg [kM 27 0,kO 28 (.nc (.t 27)),kO 29 (.fa 154 (.t 28) 0),kO 30 (.ld 42 (.t 29)),kM 31 1,kO 32 (.sli 42 (.t 30) none (some (.t 31)) none),kM 5 32])
 (.seq (.reg [kM 33 0,kM 34 0,kO 35 (.nc (.t 34)),kO 36 (.fa 154 (.t 35) 0),kO 37 (.ld 42 (.t 36)),kM 38 1,kO 39 (.sli 42 (.t 37) (some (.t 38)) none none),
 kO 40 (.nc (.t 33)),kO 41 (.fa 154 (.t 40) 0),kN (.st 42 (.t 41) (.t 39))])
 (.seq (.reg [kM 42 5,kM 4 42])
 (.ret))))))
theorem b116:Body Tryz.prog 116 43 [4] k116:=⟨Enters.of Tryz.func116 (by kernel_rfl) (by kernel_rfl),_,_,Tryz.func116,rfl,by kernel_rfl,rfl,rfl⟩
def k118:KC:=
 .seq (.reg [kO 2 (.mv (.i .u64 0))])
 (.seq (.reg [kM 3 0,kO 4 (.cvt 3 80 (.t 3)),kO 5 (.call (.fn 65) [.t 4]),kO 6 (.bin .shl 80 (.i .u64 1) (.t 5)),kM 2 6])
 (.ret))
theorem b118:Body Tryz.prog 118 7 [2] k118:=⟨Enters.of Tryz.func118 (by kernel_rfl) (by kernel_rfl),_,_,Tryz.func118,rfl,by kernel_rfl,rfl,rfl⟩
end Go.Proofs.YtfpldlnbhjmckaaGreat
