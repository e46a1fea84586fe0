import Derived.Test.YtndjbcnpgggddaaAmT
namespace Go.Proofs.Ytndjbcnpgggddaa
open Go.AM
def k8:KC:=
 .seq (.reg [kO 6 (.mv (.b false))])
 (.seq (.reg [kO 16 (.call (.fn 29) []),kM 7 16])
 (.seq (.seq (.reg [kM 17 7,kO 18 (.un .not (.t 17)),kM 19 18,kG 20 19 (.mv (.t 0)),kG 21 19 (.bin .lss 3 (.t 20) (kI 1)),kO 22 (.pk (.t 19) (.b true) (.t 21)),
 kM 23 22,kG 24 23 (.mv (.t 0)),kG 25 23 (.bin .gtr 3 (.t 24) (kI 6)),kO 26 (.pk (.t 23) (.b true) (.t 25)),kM 27 26,kG 28 27 (.mv (.t 1)),
 kG 29 27 (.bin .lss 3 (.t 28) (kI 1)),kO 30 (.pk (.t 27) (.b true) (.t 29)),kM 31 30,kG 32 31 (.mv (.t 1)),kG 33 31 (.bin .gtr 3 (.t 32) (kI 4)),
 kO 34 (.pk (.t 31) (.b true) (.t 33)),kM 35 34,kG 36 35 (.mv (.t 2)),kG 37 35 (.bin .lss 3 (.t 36) (kI 0)),kO 38 (.pk (.t 35) (.b true) (.t 37)),
 kM 39 38,kG 40 39 (.mv (.t 2)),kG 41 39 (.mv (.t 0)),kG 42 39 (.bin .gtr 3 (.t 40) (.t 41)),kO 43 (.pk (.t 39) (.b true) (.t 42))])
 (.cond (.t 43) (.seq (.reg [kM 44 7,kM 6 44])
 (.ret))
 (.skip)))
 (.seq (.reg [kM 46 0,kO 47 (.mk 47 (.t 46) (.t 46)),kM 48 1,kO 49 (.call (.fn 30) [.t 47,.t 48]),kM 45 49,kO 50 (.ex (.t 45) 0),kO 51 (.ex (.t 45) 1),
 kO 52 (.ex (.t 45) 2),kO 9 (.al 50),kM 8 50,kN (.st 50 (.t 9) (.t 51)),kM 10 52])
 (.seq (.seq (.reg [kM 53 10,kO 54 (.un .not (.t 53))])
 (.cond (.t 54) (.seq (.reg [kO 6 (.mv (.b false))])
 (.ret))
 (.skip)))
 (.seq (.seq (.reg [kO 11 (.mv (kI 0))])
 (.block 0 (.loop (.seq (.seq (.reg [kM 55 11,kM 56 2,kO 57 (.bin .lss 3 (.t 55) (.t 56))])
 (.cond (.t 57) (.skip)
 (.exit 0)))
 (.seq (.block 1 (.reg [kM 60 8,kM 61 11,kO 62 (.ia 48 (.t 60) (.t 61)),kO 63 (.fa 54 (.t 62) 3),kN (.st 4 (.t 63) (.b true))]))
 (.reg [kM 58 11,kO 59 (.bin .add 3 (.t 58) (kI 1)),kM 11 59]))))))
 (.seq (.reg [kM 65 8,kO 66 (.ld 50 (.t 9)),kO 67 (.call (.fn 35) [.t 65,.t 66,.i .i64 1,.i .i64 0]),kM 64 67,kO 68 (.ex (.t 64) 0),kO 69 (.ex (.t 64) 1),
 kM 12 68,kM 13 69])
 (.seq (.reg [kM 71 8,kO 72 (.ld 50 (.t 9)),kM 73 0,kO 74 (.call (.fn 32) [.t 71,.t 72,.t 73]),kM 70 74,kO 75 (.ex (.t 70) 0),kO 76 (.ex (.t 70) 1),
 kO 14 (.al 54),kN (.st 54 (.t 14) (.t 75)),kM 15 76])
 (.seq (.seq (.reg [kM 77 2,kM 78 1,kO 79 (.bin .leq 3 (.t 77) (.t 78))])
 (.cond (.t 79) (.seq (.reg [kM 80 13,kO 81 (.call (.fn 33) [.t 80]),kO 82 (.bin .eql 3 (.t 81) (kI 0)),kM 83 82,kT 84 83 (.mv (.t 15)),kT 85 83 (.call (.fn 33) [.t 84]),
 kT 86 83 (.bin .eql 3 (.t 85) (kI 0)),kO 87 (.pk (.t 83) (.t 86) (.b false)),kM 6 87])
 (.ret))
 (.skip)))
 (.seq (.reg [kM 88 13,kO 89 (.call (.fn 33) [.t 88]),kO 90 (.bin .eql 3 (.t 89) (kI 10)),kM 91 90,kT 92 91 (.mv (.t 15)),kT 93 91 (.call (.fn 33) [.t 92]),
 kT 94 91 (.bin .eql 3 (.t 93) (kI 10)),kO 95 (.pk (.t 91) (.t 94) (.b false)),kM 6 95])
 (.ret))))))))))
theorem b8:Body Try.prog 8 96 [6] k8:=⟨Enters.of Try.func8 (by kernel_rfl) (by kernel_rfl),_,_,Try.func8,rfl,by kernel_rfl,rfl,rfl⟩
def k29:KC:=
 .seq (.reg [kO 0 (.mv (.b false))])
 (.seq (.reg [kO 12 (.bld 50 []),kO 13 (.call (.fn 35) [.ns,.t 12,.i .i64 1,.i .i64 0]),kM 11 13,kO 14 (.ex (.t 11) 0),kO 15 (.ex (.t 11) 1),kM 1 14,
 kM 2 15])
 (.seq (.reg [kO 17 (.bsl 25 1 [(0,.i .u8 68)]),kO 18 (.cvt 25 25 (.t 17)),kO 19 (.bld 68 [(0,.i .i64 1),(1,.i .i64 1),(3,.t 18)]),
 kO 20 (.call (.fn 37) [.t 19]),kM 16 20,kO 21 (.ex (.t 16) 0),kO 22 (.ex (.t 16) 1),kM 3 21,kM 4 22])
 (.seq (.reg [kM 24 3,kO 25 (.bsl 22 1 [(0,.t 24)]),kO 26 (.bld 54 [(0,.i .i64 1),(1,.i .i64 4),(2,.t 25)]),kO 27 (.bsl 48 1 [(0,.t 26)]),
 kO 28 (.bld 54 [(0,.i .i64 2),(1,.i .i64 4)]),kO 29 (.bsl 48 1 [(0,.t 28)]),kO 30 (.call (.fn 52) [.t 27,.t 29,.i .i64 1]),kM 23 30,
 kO 31 (.ex (.t 23) 0),kO 32 (.ex (.t 23) 1),kM 5 31,kM 6 32])
 (.seq (.reg [kM 34 5,kO 35 (.ia 48 (.t 34) (kI 0)),kO 36 (.ld 54 (.t 35)),kO 37 (.call (.fn 53) [.t 36]),kM 33 37,kO 38 (.ex (.t 33) 0),
 kO 39 (.ex (.t 33) 1),kO 7 (.al 50),kN (.st 50 (.t 7) (.t 38)),kM 8 39])
 (.seq (.reg [kM 41 5,kO 42 (.ld 50 (.t 7)),kO 43 (.call (.fn 35) [.t 41,.t 42,.i .i64 1,.i .i64 0]),kM 40 43,kO 44 (.ex (.t 40) 0),kO 45 (.ex (.t 40) 1),
 kM 9 44,kM 10 45])
 (.seq (.reg [kM 46 2,kO 47 (.call (.fn 33) [.t 46]),kO 48 (.bin .eql 3 (.t 47) (kI 1)),kM 49 48,kT 50 49 (.mv (.t 10)),kT 51 49 (.call (.fn 33) [.t 50]),
 kT 52 49 (.bin .eql 3 (.t 51) (kI 0)),kO 53 (.pk (.t 49) (.t 52) (.b false)),kM 54 53,kT 55 54 (.mv (.t 9)),kT 56 54 (.cvt 25 9 (.t 55)),
 kT 57 54 (.mv (.t 3)),kT 58 54 (.cvt 25 9 (.t 57)),kT 59 54 (.bin .eql 9 (.t 56) (.t 58)),kO 60 (.pk (.t 54) (.t 59) (.b false)),kM 0 60])
 (.ret)))))))
theorem b29:Body Try.prog 29 61 [0] k29:=⟨Enters.of Try.func29 (by kernel_rfl) (by kernel_rfl),_,_,Try.func29,rfl,by kernel_rfl,rfl,rfl⟩
noncomputable def drw30_0:Array Oper:=((Try.f30.body.map regs).getD []).getD 0 #[]
noncomputable def k30:KC:=
 .seq (.reg [kO 4 (.mv (.ns)),kO 5 (.al 50),kO 6 (.mv (.b false))])
 (.seq (.reg [kO 7 (.mv (.ns)),kO 8 (.mv (.ns))])
 (.seq (.seq (.reg [kO 9 (.mv (kI 0))])
 (.block 0 (.loop (.seq (.seq (.reg [kM 19 9,kM 20 0,kO 21 (.bi .len [47] [.t 20]),kO 22 (.bin .lss 3 (.t 19) (.t 21))])
 (.cond (.t 22) (.skip)
 (.exit 0)))
 (.seq (.block 1 (.seq (.reg [kM 25 9,kO 26 (.bin .add 3 (.t 25) (kI 1)),kO 27 (.bld 54 [(0,.t 26),(1,.i .i64 20)]),kO 10 (.al 54),kN (.st 54 (.t 10) (.t 27))])
 (.seq (.seq (.reg [kO 11 (.mv (kI 0))])
 (.block 2 (.loop (.seq (.seq (.reg [kM 28 11,kM 29 0,kM 30 9,kO 31 (.ia 47 (.t 29) (.t 30)),kO 32 (.ld 3 (.t 31)),kO 33 (.bin .and 3 (.t 32) (kI 7)),
 kO 34 (.bin .add 3 (kI 1) (.t 33)),kO 35 (.bin .lss 3 (.t 28) (.t 34))])
 (.cond (.t 35) (.skip)
 (.exit 2)))
 (.seq (.block 3 (.seq (.reg [kM 39 9,kO 40 (.bin .add 3 (.t 39) (kI 1)),kM 41 11,kM 42 9,kO 43 (.cvt 3 5 (.t 42)),kM 44 11,kO 45 (.cvt 3 5 (.t 44)),
 kO 46 (.bsl 25 3 [(0,.t 43),(1,.t 45),(2,.i .u8 7)]),kO 47 (.bld 68 [(0,.i .i64 3),(1,.t 40),(2,.t 41),(3,.t 46)]),
 kO 48 (.call (.fn 37) [.t 47]),kM 38 48,kO 49 (.ex (.t 38) 0),kO 50 (.ex (.t 38) 1),kM 12 49,kM 13 50])
 (.reg [kO 51 (.fa 54 (.t 10) 2),kO 52 (.ld 22 (.t 51)),kM 53 12,kO 54 (.bsl 22 1 [(0,.t 53)]),kO 55 (.bi .append [22,22] [.t 52,.t 54]),
 kO 56 (.fa 54 (.t 10) 2),kN (.st 22 (.t 56) (.t 55))])))
 (.reg [kM 36 11,kO 37 (.bin .add 3 (.t 36) (kI 1)),kM 11 37]))))))
 (.reg [kM 57 7,kO 58 (.ld 54 (.t 10)),kO 59 (.bsl 48 1 [(0,.t 58)]),kO 60 (.bi .append [48,48] [.t 57,.t 59]),kM 7 60]))))
 (.reg [kM 23 9,kO 24 (.bin .add 3 (.t 23) (kI 1)),kM 9 24]))))))
 (.seq (.seq (.reg [kO 14 (.mv (kI 0))])
 (.block 4 (.loop (.seq (.seq (.reg [kM 61 14,kM 62 1,kO 63 (.bin .lss 3 (.t 61) (.t 62))])
 (.cond (.t 63) (.skip)
 (.exit 4)))
 (.seq (.block 5 (.reg [kM 66 8,kM 67 14,kO 68 (.bin .add 3 (kI 100) (.t 67)),kO 69 (.bld 54 [(0,.t 68),(1,.i .i64 20)]),kO 70 (.bsl 48 1 [(0,.t 69)]),
 kO 71 (.bi .append [48,48] [.t 66,.t 70]),kM 8 71]))
 (.reg [kM 64 14,kO 65 (.bin .add 3 (.t 64) (kI 1)),kM 14 65]))))))
 (.seq (.reg [kM 73 7,kM 74 8,kO 75 (.call (.fn 52) [.t 73,.t 74,.i .i64 3]),kM 72 75,kO 76 (.ex (.t 72) 0),kO 77 (.ex (.t 72) 1),kM 15 76,kM 16 77])
 (.seq (.seq (.reg [kM 78 16,kO 79 (.bin .neq 3 (.t 78) (kI 0)),kM 80 79,kG 81 80 (.mv (.t 15)),kG 82 80 (.bi .len [48] [.t 81]),
 kG 83 80 (.bin .eql 3 (.t 82) (kI 0)),kO 84 (.pk (.t 80) (.b true) (.t 83))])
 (.cond (.t 84) (.seq (.reg [kO 85 (.bld 50 []),kO 4 (.mv (.ns)),kN (.st 50 (.t 5) (.t 85)),kO 6 (.mv (.b false))])
 (.ret))
 (.skip)))
 (.seq (.reg [kM 87 15,kO 88 (.ia 48 (.t 87) (kI 0)),kO 89 (.ld 54 (.t 88)),kO 90 (.call (.fn 53) [.t 89]),kM 86 90,kO 91 (.ex (.t 86) 0),
 kO 92 (.ex (.t 86) 1),kO 17 (.al 50),kN (.st 50 (.t 17) (.t 91)),kM 18 92])
 (.seq (.drw drw30_0 [kM 93 7,kM 94 15,kO 95 (.bi .append [48,48] [.t 93,.t 94]),kO 96 (.ld 50 (.t 17)),kM 4 95,kN (.st 50 (.t 5) (.t 96)),kO 6 (.mv (.b true))])
 (.ret))))))))
def k32:KC:=
 .seq (.reg [kO 4 (.box 50 (.t 1)),kO 5 (.box 3 (.t 2)),kO 6 (.al 54),kO 7 (.mv (kI 0))])
 (.seq (.seq (.reg [kO 18 (.ld 50 (.t 4)),kO 19 (.ld 3 (.t 5)),kO 20 (.call (.fn 54) [.t 18,.t 19]),kM 17 20,kO 21 (.ex (.t 17) 0),kO 22 (.ex (.t 17) 1),kM 8 21,
 kM 9 22])
 (.seq (.reg [kM 23 9,kO 24 (.un .not (.t 23))])
 (.cond (.t 24) (.seq (.reg [kO 25 (.bld 54 []),kN (.st 54 (.t 6) (.t 25)),kO 7 (.mv (kI 1))])
 (.ret))
 (.skip))))
 (.seq (.reg [kM 27 0,kO 28 (.ld 50 (.t 4)),kO 29 (.call (.fn 55) [.t 27,.t 28]),kM 26 29,kO 30 (.ex (.t 26) 0),kO 31 (.ex (.t 26) 1),kM 10 30,kM 11 31])
 (.seq (.seq (.reg [kM 32 11,kO 33 (.un .not (.t 32))])
 (.cond (.t 33) (.seq (.reg [kO 34 (.bld 54 []),kN (.st 54 (.t 6) (.t 34)),kO 7 (.mv (kI 10))])
 (.ret))
 (.skip)))
 (.seq (.reg [kO 35 (.ld 3 (.t 5)),kM 36 10,kO 37 (.bld 54 [(0,.t 35),(1,.t 36)]),kO 12 (.al 54),kN (.st 54 (.t 12) (.t 37))])
 (.seq (.seq (.reg [kM 38 0,kO 39 (.mf 57 [.t 5]),kO 40 (.call (.fn 56) [.t 38,.t 39]),kM 13 40])
 (.seq (.reg [kM 41 13,kO 42 (.bin .geq 3 (.t 41) (kI 0))])
 (.cond (.t 42) (.reg [kM 43 0,kM 44 13,kO 45 (.ia 48 (.t 43) (.t 44)),kO 46 (.fa 54 (.t 45) 1),kO 47 (.ld 3 (.t 46)),kO 48 (.fa 54 (.t 12) 1),
 kN (.st 3 (.t 48) (.t 47))])
 (.skip))))
 (.seq (.seq (.reg [kM 49 10,kO 50 (.mv (kI 0))])
 (.block 0 (.loop (.seq (.reg [kO 51 (.bin .lss 3 (.t 50) (.t 49))])
 (.seq (.cond (.t 51) (.skip)
 (.exit 0))
 (.seq (.block 1 (.seq (.reg [kM 52 50,kM 14 52])
 (.seq (.reg [kM 54 0,kO 55 (.ld 50 (.t 4)),kO 56 (.ld 3 (.t 5)),kM 57 14,kO 58 (.call (.fn 35) [.t 54,.t 55,.t 56,.t 57]),kM 53 58,kO 59 (.ex (.t 53) 0),
 kO 60 (.ex (.t 53) 1),kM 15 59,kM 16 60])
 (.seq (.seq (.reg [kM 61 16,kO 62 (.bin .neq 26 (.t 61) (kI 0))])
 (.cond (.t 62) (.seq (.reg [kO 63 (.bld 54 []),kM 64 16,kN (.st 54 (.t 6) (.t 63)),kM 7 64])
 (.ret))
 (.skip)))
 (.reg [kO 65 (.fa 54 (.t 12) 2),kO 66 (.ld 22 (.t 65)),kM 67 15,kO 68 (.bsl 22 1 [(0,.t 67)]),kO 69 (.bi .append [22,22] [.t 66,.t 68]),
 kO 70 (.fa 54 (.t 12) 2),kN (.st 22 (.t 70) (.t 69))])))))
 (.reg [kO 71 (.bin .add 3 (.t 50) (kI 1)),kM 50 71])))))))
 (.seq (.block 2 (.loop (.seq (.seq (.reg [kO 72 (.fa 54 (.t 12) 2),kO 73 (.ld 22 (.t 72)),kO 74 (.bi .len [22] [.t 73]),kO 75 (.bin .gtr 3 (.t 74) (kI 0)),kM 76 75,
 kT 77 76 (.fa 54 (.t 12) 2),kT 78 76 (.ld 22 (.t 77)),kT 79 76 (.fa 54 (.t 12) 2),kT 80 76 (.ld 22 (.t 79)),kT 81 76 (.bi .len [22] [.t 80]),
 kT 82 76 (.bin .sub 3 (.t 81) (kI 1)),kT 83 76 (.ia 22 (.t 78) (.t 82)),kT 84 76 (.ld 25 (.t 83)),kT 85 76 (.call (.fn 58) [.t 84]),
 kO 86 (.pk (.t 76) (.t 85) (.b false))])
 (.cond (.t 86) (.skip)
 (.exit 2)))
 (.block 3 (.reg [kO 87 (.fa 54 (.t 12) 2),kO 88 (.ld 22 (.t 87)),kO 89 (.fa 54 (.t 12) 2),kO 90 (.ld 22 (.t 89)),kO 91 (.bi .len [22] [.t 90]),
 kO 92 (.bin .sub 3 (.t 91) (kI 1)),kO 93 (.sli 22 (.t 88) none (some (.t 92)) none),kO 94 (.fa 54 (.t 12) 2),kN (.st 22 (.t 94) (.t 93))])))))
 (.seq (.reg [kO 95 (.ld 54 (.t 12)),kN (.st 54 (.t 6) (.t 95)),kO 7 (.mv (kI 0))])
 (.ret)))))))))
def k33:KC:=
 .seq (.reg [kO 2 (.mv (kI 0))])
 (.seq (.reg [kM 3 0,kM 2 3])
 (.ret))
theorem b33:Body Try.prog 33 4 [2] k33:=⟨Enters.of Try.func33 (by kernel_rfl) (by kernel_rfl),_,_,Try.func33,rfl,by kernel_rfl,rfl,rfl⟩
noncomputable def drw35_0:Array Oper:=((Try.f35.body.map regs).getD []).getD 0 #[]
noncomputable def k35:KC:=
 .seq (.reg [kO 5 (.box 50 (.t 1)),kO 8 (.mv (.ns)),kO 9 (.mv (kI 0))])
 (.seq (.reg [kO 16 (.ld 50 (.t 5)),kM 17 2,kO 18 (.call (.fn 54) [.t 16,.t 17]),kM 15 18,kO 19 (.ex (.t 15) 0),kO 20 (.ex (.t 15) 1),kM 10 19,kM 11 20])
 (.seq (.seq (.reg [kM 21 11,kO 22 (.un .not (.t 21))])
 (.cond (.t 22) (.seq (.reg [kO 8 (.mv (.ns)),kO 9 (.mv (kI 1))])
 (.ret))
 (.skip)))
 (.seq (.reg [kM 24 0,kO 25 (.ld 50 (.t 5)),kO 26 (.call (.fn 55) [.t 24,.t 25]),kM 23 26,kO 27 (.ex (.t 23) 0),kO 28 (.ex (.t 23) 1),kM 12 27,kM 11 28])
 (.seq (.block 0 (.seq (.reg [kM 30 11,kO 31 (.un .not (.t 30)),kM 29 31])
 (.cond (.t 29) (.seq (.reg [kO 8 (.mv (.ns)),kO 9 (.mv (kI 10))])
 (.ret))
 (.seq (.reg [kM 33 3,kO 34 (.bin .lss 3 (.t 33) (kI 0)),kM 35 34,kG 36 35 (.mv (.t 3)),kG 37 35 (.mv (.t 12)),kG 38 35 (.bin .geq 3 (.t 36) (.t 37)),
 kO 39 (.pk (.t 35) (.b true) (.t 38)),kM 32 39])
 (.cond (.t 32) (.seq (.reg [kO 8 (.mv (.ns)),kO 9 (.mv (kI 5))])
 (.ret))
 (.skip))))))
 (.seq (.drw drw35_0 [kM 41 0,kO 42 (.ld 50 (.t 5)),kM 43 3,kO 44 (.call (.fn 60) [.t 41,.t 42,.t 43]),kO 45 (.fa 50 (.t 5) 2),kO 46 (.ld 3 (.t 45)),
 kO 47 (.call (.fn 42) [.t 44,.t 46]),kM 40 47,kO 48 (.ex (.t 40) 0),kO 49 (.ex (.t 40) 1),kM 13 48,kM 14 49])
 (.seq (.seq (.reg [kM 50 14,kO 51 (.bin .neq 26 (.t 50) (kI 0))])
 (.cond (.t 51) (.seq (.reg [kO 8 (.mv (.ns)),kO 9 (.mv (kI 10))])
 (.ret))
 (.skip)))
 (.seq (.reg [kM 52 13,kM 53 10,kO 54 (.ia 22 (.t 52) (.t 53)),kO 55 (.ld 25 (.t 54)),kO 56 (.call (.fn 61) [.t 55]),kM 8 56,kO 9 (.mv (kI 0))])
 (.ret))))))))
theorem b35:Body Try.prog 35 57 [8,9] k35:=⟨Enters.of Try.func35 (by kernel_rfl) (by kernel_rfl),_,_,Try.func35,rfl,by kernel_rfl,rfl,rfl⟩
noncomputable def drw37_0:Array Oper:=((Try.f37.body.map regs).getD []).getD 0 #[]
noncomputable def drw37_1:Array Oper:=((Try.f37.body.map regs).getD []).getD 1 #[]
noncomputable def drw37_2:Array Oper:=((Try.f37.body.map regs).getD []).getD 2 #[]
noncomputable def k37:KC:=
 .seq (.reg [kO 1 (.box 68 (.t 0)),kO 2 (.mv (.ns)),kO 3 (.mv (kI 0))])
 (.seq (.reg [kO 4 (.mv (kI 64))])
 (.seq (.seq (.reg [kO 6 (.fa 68 (.t 1) 0),kO 7 (.ld 3 (.t 6)),kO 8 (.bin .eql 3 (.t 7) (kI 6))])
 (.cond (.t 8) (.reg [kO 4 (.mv (kI 79))])
 (.skip)))
 (.seq (.block 0 (.seq (.reg [kO 10 (.fa 68 (.t 1) 0),kO 11 (.ld 3 (.t 10)),kO 12 (.bin .lss 3 (.t 11) (kI 1)),kM 13 12,kG 14 13 (.fa 68 (.t 1) 0),kG 15 13 (.ld 3 (.t 14)),
 kG 16 13 (.bin .gtr 3 (.t 15) (kI 6)),kO 17 (.pk (.t 13) (.b true) (.t 16)),kM 18 17,kG 19 18 (.fa 68 (.t 1) 1),kG 20 18 (.ld 3 (.t 19)),
 kG 21 18 (.bin .lss 3 (.t 20) (kI 1)),kO 22 (.pk (.t 18) (.b true) (.t 21)),kM 23 22,kG 24 23 (.fa 68 (.t 1) 1),kG 25 23 (.ld 3 (.t 24)),
 kG 26 23 (.bin .gtr 3 (.t 25) (kI 2147483647)),kO 27 (.pk (.t 23) (.b true) (.t 26)),kM 28 27,kG 29 28 (.fa 68 (.t 1) 2),
 kG 30 28 (.ld 3 (.t 29)),kG 31 28 (.bin .lss 3 (.t 30) (kI 0)),kO 32 (.pk (.t 28) (.b true) (.t 31)),kM 33 32,kG 34 33 (.fa 68 (.t 1) 2),
 kG 35 33 (.ld 3 (.t 34)),kG 36 33 (.bin .gtr 3 (.t 35) (kI 2147483647)),kO 37 (.pk (.t 33) (.b true) (.t 36)),kM 9 37])
 (.cond (.t 9) (.seq (.reg [kO 2 (.mv (.ns)),kO 3 (.mv (kI 1))])
 (.ret))
 (.seq (.reg [kO 39 (.fa 68 (.t 1) 3),kO 40 (.ld 25 (.t 39)),kO 41 (.bi .len [25] [.t 40]),kM 42 4,kO 43 (.bin .gtr 3 (.t 41) (.t 42)),kM 38 43])
 (.cond (.t 38) (.seq (.reg [kO 2 (.mv (.ns)),kO 3 (.mv (kI 4))])
 (.ret))
 (.skip))))))
 (.seq (.reg [kO 44 (.bld 102 []),kO 45 (.box 102 (.t 44)),kM 5 45])
 (.seq (.reg [kM 46 5,kO 47 (.fa 68 (.t 1) 0),kO 48 (.ld 3 (.t 47)),kO 49 (.cvt 3 5 (.t 48)),kO 50 (.call (.fn 62) [.t 46,.t 49])])
 (.seq (.reg [kM 51 5,kO 52 (.fa 68 (.t 1) 1),kO 53 (.ld 3 (.t 52)),kO 54 (.call (.fn 63) [.t 51,.t 53])])
 (.seq (.reg [kM 55 5,kO 56 (.fa 68 (.t 1) 2),kO 57 (.ld 3 (.t 56)),kO 58 (.call (.fn 63) [.t 55,.t 57])])
 (.seq (.drw drw37_0 [kM 59 5,kM 60 5,kO 61 (.nc (.t 60)),kO 62 (.fa 102 (.t 61) 0),kO 63 (.ld 25 (.t 62)),kO 64 (.fa 68 (.t 1) 3),kO 65 (.ld 25 (.t 64)),
 kO 66 (.bi .len [25] [.t 65]),kO 67 (.bin .shr 3 (.t 66) (.i .u64 8)),kO 68 (.cvt 3 5 (.t 67)),kO 69 (.fa 68 (.t 1) 3),kO 70 (.ld 25 (.t 69)),
 kO 71 (.bi .len [25] [.t 70]),kO 72 (.bin .and 3 (.t 71) (kI 255)),kO 73 (.cvt 3 5 (.t 72)),kO 74 (.bsl 25 2 [(0,.t 68),(1,.t 73)]),
 kO 75 (.bi .append [25,25] [.t 63,.t 74]),kO 76 (.nc (.t 59)),kO 77 (.fa 102 (.t 76) 0),kN (.st 25 (.t 77) (.t 75))])
 (.seq (.drw drw37_1 [kM 78 5,kM 79 5,kO 80 (.nc (.t 79)),kO 81 (.fa 102 (.t 80) 0),kO 82 (.ld 25 (.t 81)),kO 83 (.fa 68 (.t 1) 3),kO 84 (.ld 25 (.t 83)),
 kO 85 (.bi .append [25,25] [.t 82,.t 84]),kO 86 (.nc (.t 78)),kO 87 (.fa 102 (.t 86) 0),kN (.st 25 (.t 87) (.t 85))])
 (.seq (.drw drw37_2 [kM 88 5,kM 89 5,kO 90 (.nc (.t 89)),kO 91 (.fa 102 (.t 90) 0),kO 92 (.ld 25 (.t 91)),kM 93 4,kO 94 (.fa 68 (.t 1) 3),kO 95 (.ld 25 (.t 94)),
 kO 96 (.bi .len [25] [.t 95]),kO 97 (.bin .sub 3 (.t 93) (.t 96)),kO 98 (.bi .append [25,3] [.t 92,.t 97]),kO 99 (.nc (.t 88)),
 kO 100 (.fa 102 (.t 99) 0),kN (.st 25 (.t 100) (.t 98))])
 (.seq (.reg [kM 101 5,kM 102 5,kO 103 (.nc (.t 102)),kO 104 (.fa 102 (.t 103) 0),kO 105 (.ld 25 (.t 104)),kO 106 (.call (.fn 64) [.t 105]),
 kO 107 (.cvt 106 3 (.t 106)),kO 108 (.call (.fn 63) [.t 101,.t 107])])
 (.seq (.reg [kM 109 5,kO 110 (.nc (.t 109)),kO 111 (.fa 102 (.t 110) 0),kO 112 (.ld 25 (.t 111)),kM 2 112,kO 3 (.mv (kI 0))])
 (.ret)))))))))))))
theorem b37:Body Try.prog 37 113 [2,3] k37:=⟨Enters.of Try.func37 (by kernel_rfl) (by kernel_rfl),_,_,Try.func37,rfl,by kernel_rfl,rfl,rfl⟩
def k42:KC:=
 .seq (.reg [kO 4 (.mv (.ns)),kO 5 (.mv (kI 0))])
 (.seq (.reg [kO 6 (.mv (.ns))])
 (.seq (.seq (.reg [kM 14 0,kO 15 (.bi .len [22] [.t 14]),kO 16 (.mv (kI 0))])
 (.block 0 (.loop (.seq (.reg [kO 17 (.bin .lss 3 (.t 16) (.t 15))])
 (.seq (.cond (.t 17) (.skip)
 (.exit 0))
 (.seq (.block 1 (.seq (.reg [kO 18 (.ia 22 (.t 14) (.t 16)),kO 19 (.ld 25 (.t 18)),kM 8 19])
 (.seq (.reg [kM 20 8,kO 21 (.bi .len [25] [.t 20]),kO 22 (.bin .gtr 3 (.t 21) (kI 0))])
 (.cond (.t 22) (.reg [kM 23 6,kM 24 8,kO 25 (.bsl 22 1 [(0,.t 24)]),kO 26 (.bi .append [22,22] [.t 23,.t 25]),kM 6 26])
 (.skip)))))
 (.reg [kO 27 (.bin .add 3 (.t 16) (kI 1)),kM 16 27])))))))
 (.seq (.block 2 (.seq (.reg [kM 29 1,kO 30 (.bin .lss 3 (.t 29) (kI 1)),kM 31 30,kG 32 31 (.mv (.t 1)),kG 33 31 (.mv (.t 0)),kG 34 31 (.bi .len [22] [.t 33]),
 kG 35 31 (.bin .gtr 3 (.t 32) (.t 34)),kO 36 (.pk (.t 31) (.b true) (.t 35)),kM 37 36,kG 38 37 (.mv (.t 0)),kG 39 37 (.bi .len [22] [.t 38]),
 kG 40 37 (.bin .gtr 3 (.t 39) (kI 255)),kO 41 (.pk (.t 37) (.b true) (.t 40)),kM 42 41,kG 43 42 (.mv (.t 6)),kG 44 42 (.bi .len [22] [.t 43]),
 kG 45 42 (.bin .eql 3 (.t 44) (kI 0)),kO 46 (.pk (.t 42) (.b true) (.t 45)),kM 47 46,kG 48 47 (.mv (.t 6)),kG 49 47 (.call (.fn 43) [.t 48]),
 kG 50 47 (.un .not (.t 49)),kO 51 (.pk (.t 47) (.b true) (.t 50)),kM 28 51])
 (.cond (.t 28) (.seq (.reg [kO 4 (.mv (.ns)),kO 5 (.mv (kI 1))])
 (.ret))
 (.seq (.reg [kM 53 6,kO 54 (.bi .len [22] [.t 53]),kM 55 1,kO 56 (.bin .lss 3 (.t 54) (.t 55)),kM 52 56])
 (.cond (.t 52) (.seq (.reg [kO 4 (.mv (.ns)),kO 5 (.mv (kI 10))])
 (.ret))
 (.skip))))))
 (.seq (.reg [kO 9 (.mv (.ns))])
 (.seq (.seq (.reg [kM 57 1,kM 58 0,kO 59 (.bi .len [22] [.t 58]),kO 60 (.call (.fn 78) [.t 57,.t 59]),kO 61 (.bi .len [22] [.t 60]),kO 62 (.mv (kI 0))])
 (.block 3 (.loop (.seq (.reg [kO 63 (.bin .lss 3 (.t 62) (.t 61))])
 (.seq (.cond (.t 63) (.skip)
 (.exit 3))
 (.seq (.block 4 (.seq (.reg [kM 64 62,kO 65 (.ia 22 (.t 60) (.t 62)),kO 66 (.ld 25 (.t 65)),kM 10 64,kM 11 66])
 (.seq (.reg [kM 67 0,kM 68 10,kO 69 (.ia 22 (.t 67) (.t 68)),kO 70 (.ld 25 (.t 69)),kO 71 (.bi .len [25] [.t 70]),kO 72 (.bin .gtr 3 (.t 71) (kI 0)),
 kM 73 72,kT 74 73 (.mv (.t 9)),kT 75 73 (.bi .len [22] [.t 74]),kT 76 73 (.mv (.t 1)),kT 77 73 (.bin .lss 3 (.t 75) (.t 76)),
 kO 78 (.pk (.t 73) (.t 77) (.b false))])
 (.cond (.t 78) (.reg [kM 79 9,kM 80 11,kO 81 (.bsl 22 1 [(0,.t 80)]),kO 82 (.bi .append [22,22] [.t 79,.t 81]),kM 9 82])
 (.skip)))))
 (.reg [kO 83 (.bin .add 3 (.t 62) (kI 1)),kM 62 83])))))))
 (.seq (.reg [kM 85 9,kO 86 (.call (.fn 79) [.t 85]),kM 84 86,kO 87 (.ex (.t 84) 0),kO 88 (.ex (.t 84) 1),kM 12 87,kM 13 88])
 (.seq (.seq (.reg [kM 89 13,kO 90 (.bin .neq 26 (.t 89) (kI 0))])
 (.cond (.t 90) (.seq (.reg [kM 91 13,kO 4 (.mv (.ns)),kM 5 91])
 (.ret))
 (.skip)))
 (.seq (.reg [kM 92 12,kM 93 6,kM 94 1,kO 95 (.sli 22 (.t 93) none (some (.t 94)) none),kO 96 (.call (.fn 45) [.t 92,.t 95]),kM 4 96,kO 5 (.mv (kI 0))])
 (.ret)))))))))
theorem b42:Body Try.prog 42 97 [4,5] k42:=⟨Enters.of Try.func42 (by kernel_rfl) (by kernel_rfl),_,_,Try.func42,rfl,by kernel_rfl,rfl,rfl⟩
def k43:KC:=
 .seq (.reg [kO 1 (.box 22 (.t 0)),kO 2 (.mv (.b false))])
 (.seq (.reg [kO 3 (.ld 22 (.t 1)),kO 4 (.mf 81 [.t 1]),kO 5 (.call (.fn 80) [.t 3,.t 4]),kO 6 (.un .not (.t 5)),kM 2 6])
 (.ret))
theorem b43:Body Try.prog 43 7 [2] k43:=⟨Enters.of Try.func43 (by kernel_rfl) (by kernel_rfl),_,_,Try.func43,rfl,by kernel_rfl,rfl,rfl⟩
def k44:KC:=
 .seq (.reg [kO 4 (.mv (.ns)),kO 5 (.mv (kI 0))])
 (.seq (.seq (.reg [kM 10 0,kO 11 (.bin .lss 3 (.t 10) (kI 1)),kM 12 11,kG 13 12 (.mv (.t 1)),kG 14 12 (.bin .lss 3 (.t 13) (kI 1)),
 kO 15 (.pk (.t 12) (.b true) (.t 14)),kM 16 15,kG 17 16 (.mv (.t 0)),kG 18 16 (.bin .gtr 3 (.t 17) (kI 255)),
 kO 19 (.pk (.t 16) (.b true) (.t 18)),kM 20 19,kG 21 20 (.mv (.t 1)),kG 22 20 (.mv (.t 0)),kG 23 20 (.bin .sub 3 (kI 255) (.t 22)),
 kG 24 20 (.bin .gtr 3 (.t 21) (.t 23)),kO 25 (.pk (.t 20) (.b true) (.t 24))])
 (.cond (.t 25) (.seq (.reg [kO 4 (.mv (.ns)),kO 5 (.mv (kI 1))])
 (.ret))
 (.skip)))
 (.seq (.reg [kO 6 (.mv (.ns))])
 (.seq (.seq (.reg [kM 26 1,kO 27 (.mv (kI 0))])
 (.block 0 (.loop (.seq (.reg [kO 28 (.bin .lss 3 (.t 27) (.t 26))])
 (.seq (.cond (.t 28) (.skip)
 (.exit 0))
 (.seq (.block 1 (.seq (.reg [kM 29 27,kM 7 29])
 (.seq (.reg [kO 8 (.mv (.ns))])
 (.seq (.seq (.reg [kM 30 0,kO 31 (.mv (kI 0))])
 (.block 2 (.loop (.seq (.reg [kO 32 (.bin .lss 3 (.t 31) (.t 30))])
 (.seq (.cond (.t 32) (.skip)
 (.exit 2))
 (.seq (.block 3 (.seq (.reg [kM 33 31,kM 9 33])
 (.reg [kM 34 8,kM 35 7,kO 36 (.cvt 3 5 (.t 35)),kM 37 1,kM 38 9,kO 39 (.bin .add 3 (.t 37) (.t 38)),kO 40 (.cvt 3 5 (.t 39)),
 kO 41 (.call (.fn 83) [.t 36,.t 40]),kO 42 (.call (.fn 82) [.t 41]),kO 43 (.bsl 25 1 [(0,.t 42)]),kO 44 (.bi .append [25,25] [.t 34,.t 43]),
 kM 8 44])))
 (.reg [kO 45 (.bin .add 3 (.t 31) (kI 1)),kM 31 45])))))))
 (.reg [kM 46 6,kM 47 8,kO 48 (.bsl 22 1 [(0,.t 47)]),kO 49 (.bi .append [22,22] [.t 46,.t 48]),kM 6 49])))))
 (.reg [kO 50 (.bin .add 3 (.t 27) (kI 1)),kM 27 50])))))))
 (.seq (.reg [kM 51 6,kM 4 51,kO 5 (.mv (kI 0))])
 (.ret)))))
theorem b44:Body Try.prog 44 52 [4,5] k44:=⟨Enters.of Try.func44 (by kernel_rfl) (by kernel_rfl),_,_,Try.func44,rfl,by kernel_rfl,rfl,rfl⟩
def k45:KC:=
 .seq (.reg [kO 4 (.mv (.ns))])
 (.seq (.reg [kM 14 0,kO 15 (.bi .len [22] [.t 14]),kO 16 (.mk 22 (.t 15) (.t 15)),kM 5 16])
 (.seq (.seq (.reg [kM 17 1,kO 18 (.ia 22 (.t 17) (kI 0)),kO 19 (.ld 25 (.t 18)),kO 20 (.bi .len [25] [.t 19]),kO 21 (.mv (kI 0))])
 (.block 0 (.loop (.seq (.reg [kO 22 (.bin .lss 3 (.t 21) (.t 20))])
 (.seq (.cond (.t 22) (.skip)
 (.exit 0))
 (.seq (.block 1 (.seq (.reg [kM 23 21,kM 6 23])
 (.seq (.reg [kO 7 (.mv (.ns))])
 (.seq (.seq (.reg [kM 24 1,kO 25 (.bi .len [22] [.t 24]),kO 26 (.mv (kI 0))])
 (.block 2 (.loop (.seq (.reg [kO 27 (.bin .lss 3 (.t 26) (.t 25))])
 (.seq (.cond (.t 27) (.skip)
 (.exit 2))
 (.seq (.block 3 (.seq (.reg [kO 28 (.ia 22 (.t 24) (.t 26)),kO 29 (.ld 25 (.t 28)),kM 9 29])
 (.reg [kM 30 7,kM 31 9,kM 32 6,kO 33 (.ia 25 (.t 31) (.t 32)),kO 34 (.ld 5 (.t 33)),kO 35 (.bsl 25 1 [(0,.t 34)]),
 kO 36 (.bi .append [25,25] [.t 30,.t 35]),kM 7 36])))
 (.reg [kO 37 (.bin .add 3 (.t 26) (kI 1)),kM 26 37])))))))
 (.seq (.reg [kM 39 0,kM 40 7,kO 41 (.call (.fn 84) [.t 39,.t 40]),kM 38 41,kO 42 (.ex (.t 38) 0),kO 43 (.ex (.t 38) 1),kM 10 42,kM 11 43])
 (.seq (.reg [kM 44 10,kO 45 (.bi .len [25] [.t 44]),kO 46 (.mv (kI 0))])
 (.block 4 (.loop (.seq (.reg [kO 47 (.bin .lss 3 (.t 46) (.t 45))])
 (.seq (.cond (.t 47) (.skip)
 (.exit 4))
 (.seq (.block 5 (.seq (.reg [kM 48 46,kO 49 (.ia 25 (.t 44) (.t 46)),kO 50 (.ld 5 (.t 49)),kM 12 48,kM 13 50])
 (.reg [kM 51 5,kM 52 12,kM 53 5,kM 54 12,kO 55 (.ia 22 (.t 53) (.t 54)),kO 56 (.ld 25 (.t 55)),kM 57 13,kO 58 (.bsl 25 1 [(0,.t 57)]),
 kO 59 (.bi .append [25,25] [.t 56,.t 58]),kO 60 (.ia 22 (.t 51) (.t 52)),kN (.st 25 (.t 60) (.t 59))])))
 (.reg [kO 61 (.bin .add 3 (.t 46) (kI 1)),kM 46 61]))))))))))))
 (.reg [kO 62 (.bin .add 3 (.t 21) (kI 1)),kM 21 62])))))))
 (.seq (.reg [kM 63 5,kM 4 63])
 (.ret))))
theorem b45:Body Try.prog 45 64 [4] k45:=⟨Enters.of Try.func45 (by kernel_rfl) (by kernel_rfl),_,_,Try.func45,rfl,by kernel_rfl,rfl,rfl⟩
noncomputable def drw52_0:Array Oper:=((Try.f52.body.map regs).getD []).getD 0 #[]
noncomputable def drw52_1:Array Oper:=((Try.f52.body.map regs).getD []).getD 1 #[]
noncomputable def drw52_2:Array Oper:=((Try.f52.body.map regs).getD []).getD 2 #[]
noncomputable def drw52_3:Array Oper:=((Try.f52.body.map regs).getD []).getD 3 #[]
noncomputable def drw52_4:Array Oper:=((Try.f52.body.map regs).getD []).getD 4 #[]
noncomputable def drw52_5:Array Oper:=((Try.f52.body.map regs).getD []).getD 5 #[]
noncomputable def drw52_6:Array Oper:=((Try.f52.body.map regs).getD []).getD 6 #[]
noncomputable def k52:KC:=
 .seq (.reg [kO 6 (.mv (.ns)),kO 7 (.mv (kI 0))])
 (.seq (.reg [kM 24 2,kM 25 0,kO 26 (.bi .len [48] [.t 25]),kM 27 1,kO 28 (.bi .len [48] [.t 27]),kO 29 (.bld 50 [(0,.t 24),(2,.t 26),(3,.t 28)]),
 kO 8 (.al 50),kN (.st 50 (.t 8) (.t 29))])
 (.seq (.reg [kO 9 (.mv (.b false))])
 (.seq (.reg [kM 30 0,kO 31 (.call (.fn 88) [.t 30]),kO 32 (.bin .eql 3 (.t 31) (kI 0)),kM 10 32])
 (.seq (.seq (.reg [kO 11 (.mv (kI 0))])
 (.block 0 (.loop (.seq (.seq (.reg [kM 33 11,kM 34 0,kO 35 (.bi .len [48] [.t 34]),kO 36 (.bin .lss 3 (.t 33) (.t 35))])
 (.cond (.t 36) (.skip)
 (.exit 0)))
 (.seq (.block 1 (.seq (.drw drw52_0 [kO 39 (.fa 50 (.t 8) 4),kO 40 (.ld 47 (.t 39)),kM 41 0,kM 42 11,kO 43 (.ia 48 (.t 41) (.t 42)),kO 44 (.fa 54 (.t 43) 0),kO 45 (.ld 3 (.t 44)),
 kO 46 (.bsl 47 1 [(0,.t 45)]),kO 47 (.bi .append [47,47] [.t 40,.t 46]),kO 48 (.fa 50 (.t 8) 4),kN (.st 47 (.t 48) (.t 47))])
 (.seq (.reg [kM 49 9,kM 50 49,kG 51 50 (.mv (.t 0)),kG 52 50 (.mv (.t 11)),kG 53 50 (.ia 48 (.t 51) (.t 52)),kG 54 50 (.fa 54 (.t 53) 3),
 kG 55 50 (.ld 4 (.t 54)),kO 56 (.pk (.t 50) (.b true) (.t 55)),kM 9 56])
 (.seq (.reg [kO 12 (.mv (kI 0))])
 (.block 2 (.loop (.seq (.seq (.reg [kM 57 12,kM 58 0,kM 59 11,kO 60 (.ia 48 (.t 58) (.t 59)),kO 61 (.fa 54 (.t 60) 2),kO 62 (.ld 22 (.t 61)),kO 63 (.bi .len [22] [.t 62]),
 kO 64 (.bin .lss 3 (.t 57) (.t 63))])
 (.cond (.t 64) (.skip)
 (.exit 2)))
 (.seq (.block 3 (.seq (.reg [kM 68 0,kM 69 11,kO 70 (.ia 48 (.t 68) (.t 69)),kO 71 (.ld 54 (.t 70)),kM 72 12,kO 73 (.call (.fn 89) [.t 71,.t 72]),kM 67 73,
 kO 74 (.ex (.t 67) 0),kO 75 (.ex (.t 67) 1),kO 13 (.al 68),kN (.st 68 (.t 13) (.t 74)),kM 14 75])
 (.reg [kM 76 10,kM 77 76,kG 78 77 (.mv (.t 14)),kG 79 77 (.un .not (.t 78)),kO 80 (.pk (.t 77) (.b true) (.t 79)),kM 10 80])))
 (.reg [kM 65 12,kO 66 (.bin .add 3 (.t 65) (kI 1)),kM 12 66])))))))))
 (.reg [kM 37 11,kO 38 (.bin .add 3 (.t 37) (kI 1)),kM 11 38]))))))
 (.seq (.seq (.reg [kO 15 (.mv (kI 0))])
 (.block 4 (.loop (.seq (.seq (.reg [kM 81 15,kM 82 1,kO 83 (.bi .len [48] [.t 82]),kO 84 (.bin .lss 3 (.t 81) (.t 83))])
 (.cond (.t 84) (.skip)
 (.exit 4)))
 (.seq (.block 5 (.seq (.drw drw52_1 [kO 87 (.fa 50 (.t 8) 4),kO 88 (.ld 47 (.t 87)),kM 89 1,kM 90 15,kO 91 (.ia 48 (.t 89) (.t 90)),kO 92 (.fa 54 (.t 91) 0),kO 93 (.ld 3 (.t 92)),
 kO 94 (.bsl 47 1 [(0,.t 93)]),kO 95 (.bi .append [47,47] [.t 88,.t 94]),kO 96 (.fa 50 (.t 8) 4),kN (.st 47 (.t 96) (.t 95))])
 (.reg [kM 97 9,kM 98 97,kG 99 98 (.mv (.t 1)),kG 100 98 (.mv (.t 15)),kG 101 98 (.ia 48 (.t 99) (.t 100)),kG 102 98 (.fa 54 (.t 101) 3),
 kG 103 98 (.ld 4 (.t 102)),kO 104 (.pk (.t 98) (.b true) (.t 103)),kM 9 104])))
 (.reg [kM 85 15,kO 86 (.bin .add 3 (.t 85) (kI 1)),kM 15 86]))))))
 (.seq (.seq (.reg [kO 105 (.ld 50 (.t 8)),kO 106 (.call (.fn 90) [.t 105]),kO 107 (.un .not (.t 106)),kM 108 107,kG 109 108 (.mv (.t 9)),
 kO 110 (.pk (.t 108) (.b true) (.t 109)),kM 111 110,kG 112 111 (.mv (.t 10)),kO 113 (.pk (.t 111) (.b true) (.t 112))])
 (.cond (.t 113) (.seq (.reg [kO 6 (.mv (.ns)),kO 7 (.mv (kI 1))])
 (.ret))
 (.skip)))
 (.seq (.seq (.reg [kO 16 (.mv (kI 0))])
 (.block 6 (.loop (.seq (.seq (.reg [kM 114 16,kM 115 1,kO 116 (.bi .len [48] [.t 115]),kO 117 (.bin .lss 3 (.t 114) (.t 116))])
 (.cond (.t 117) (.skip)
 (.exit 6)))
 (.seq (.block 7 (.seq (.reg [kM 120 1,kM 121 16,kO 122 (.ia 48 (.t 120) (.t 121)),kO 123 (.fa 54 (.t 122) 2),kO 124 (.ld 22 (.t 123)),kO 125 (.bi .len [22] [.t 124]),
 kO 126 (.bin .gtr 3 (.t 125) (kI 0))])
 (.cond (.t 126) (.seq (.reg [kO 6 (.mv (.ns)),kO 7 (.mv (kI 11))])
 (.ret))
 (.skip))))
 (.reg [kM 118 16,kO 119 (.bin .add 3 (.t 118) (kI 1)),kM 16 119]))))))
 (.seq (.seq (.reg [kO 17 (.mv (kI 0))])
 (.block 8 (.loop (.seq (.seq (.reg [kM 127 17,kM 128 1,kO 129 (.bi .len [48] [.t 128]),kO 130 (.bin .lss 3 (.t 127) (.t 129))])
 (.cond (.t 130) (.skip)
 (.exit 8)))
 (.seq (.block 9 (.seq (.drw drw52_2 [kM 133 0,kO 134 (.call (.fn 88) [.t 133]),kO 135 (.bin .add 3 (.t 134) (kI 2)),kM 136 1,kM 137 17,kO 138 (.ia 48 (.t 136) (.t 137)),
 kO 139 (.fa 54 (.t 138) 1),kO 140 (.ld 3 (.t 139)),kO 141 (.bin .gtr 3 (.t 135) (.t 140))])
 (.cond (.t 141) (.seq (.reg [kO 6 (.mv (.ns)),kO 7 (.mv (kI 6))])
 (.ret))
 (.skip))))
 (.reg [kM 131 17,kO 132 (.bin .add 3 (.t 131) (kI 1)),kM 17 132]))))))
 (.seq (.reg [kM 143 0,kM 144 1,kO 145 (.bi .len [48] [.t 144]),kO 146 (.call (.fn 91) [.t 143,.t 145]),kM 142 146,kO 147 (.ex (.t 142) 0),
 kO 148 (.ex (.t 142) 1),kM 18 147,kM 19 148])
 (.seq (.seq (.reg [kM 149 19,kO 150 (.bin .neq 3 (.t 149) (kI 0))])
 (.cond (.t 150) (.seq (.reg [kM 151 19,kO 6 (.mv (.ns)),kM 7 151])
 (.ret))
 (.skip)))
 (.seq (.reg [kO 20 (.mv (.ns))])
 (.seq (.seq (.reg [kO 21 (.mv (kI 0))])
 (.block 10 (.loop (.seq (.seq (.reg [kM 152 21,kM 153 1,kO 154 (.bi .len [48] [.t 153]),kO 155 (.bin .lss 3 (.t 152) (.t 154))])
 (.cond (.t 155) (.skip)
 (.exit 10)))
 (.seq (.block 11 (.seq (.drw drw52_3 [kM 158 1,kM 159 21,kO 160 (.ia 48 (.t 158) (.t 159)),kO 161 (.fa 54 (.t 160) 0),kO 162 (.ld 3 (.t 161)),kM 163 1,kM 164 21,
 kO 165 (.ia 48 (.t 163) (.t 164)),kO 166 (.fa 54 (.t 165) 1),kO 167 (.ld 3 (.t 166)),kO 168 (.bld 54 [(0,.t 162),(1,.t 167)]),kO 22 (.al 54),
 kN (.st 54 (.t 22) (.t 168))])
 (.seq (.drw drw52_4 [kO 169 (.fa 54 (.t 22) 2),kO 170 (.ld 22 (.t 169)),kO 171 (.fa 54 (.t 22) 0),kO 172 (.ld 3 (.t 171)),kO 173 (.bsl 25 1 [(0,.i .u8 80)]),
 kO 174 (.cvt 25 25 (.t 173)),kO 175 (.call (.fn 92) [.i .i64 1,.t 172,.i .i64 0,.t 174]),kO 176 (.bsl 22 1 [(0,.t 175)]),
 kO 177 (.bi .append [22,22] [.t 170,.t 176]),kO 178 (.fa 54 (.t 22) 2),kN (.st 22 (.t 178) (.t 177))])
 (.seq (.seq (.reg [kO 23 (.mv (kI 0))])
 (.block 12 (.loop (.seq (.seq (.reg [kM 179 23,kM 180 18,kM 181 21,kO 182 (.ia 111 (.t 180) (.t 181)),kO 183 (.ld 22 (.t 182)),kO 184 (.bi .len [22] [.t 183]),
 kO 185 (.bin .lss 3 (.t 179) (.t 184))])
 (.cond (.t 185) (.skip)
 (.exit 12)))
 (.seq (.block 13 (.drw drw52_5 [kO 188 (.fa 54 (.t 22) 2),kO 189 (.ld 22 (.t 188)),kO 190 (.fa 54 (.t 22) 0),kO 191 (.ld 3 (.t 190)),kM 192 23,
 kO 193 (.bin .add 3 (.t 192) (kI 1)),kM 194 18,kM 195 21,kO 196 (.ia 111 (.t 194) (.t 195)),kO 197 (.ld 22 (.t 196)),kM 198 23,
 kO 199 (.ia 22 (.t 197) (.t 198)),kO 200 (.ld 25 (.t 199)),kO 201 (.call (.fn 92) [.i .i64 6,.t 191,.t 193,.t 200]),
 kO 202 (.bsl 22 1 [(0,.t 201)]),kO 203 (.bi .append [22,22] [.t 189,.t 202]),kO 204 (.fa 54 (.t 22) 2),kN (.st 22 (.t 204) (.t 203))]))
 (.reg [kM 186 23,kO 187 (.bin .add 3 (.t 186) (kI 1)),kM 23 187]))))))
 (.seq (.reg [kM 205 0,kO 206 (.bi .len [48] [.t 205]),kM 207 21,kO 208 (.bin .add 3 (.t 206) (.t 207)),kO 209 (.fa 50 (.t 8) 1),kN (.st 3 (.t 209) (.t 208))])
 (.seq (.drw drw52_6 [kO 210 (.fa 54 (.t 22) 2),kO 211 (.ld 22 (.t 210)),kO 212 (.fa 54 (.t 22) 0),kO 213 (.ld 3 (.t 212)),kM 214 18,kM 215 21,
 kO 216 (.ia 111 (.t 214) (.t 215)),kO 217 (.ld 22 (.t 216)),kO 218 (.bi .len [22] [.t 217]),kO 219 (.bin .add 3 (.t 218) (kI 1)),
 kO 220 (.ld 50 (.t 8)),kO 221 (.call (.fn 93) [.t 220]),kO 222 (.call (.fn 92) [.i .i64 5,.t 213,.t 219,.t 221]),
 kO 223 (.bsl 22 1 [(0,.t 222)]),kO 224 (.bi .append [22,22] [.t 211,.t 223]),kO 225 (.fa 54 (.t 22) 2),kN (.st 22 (.t 225) (.t 224))])
 (.reg [kM 226 20,kO 227 (.ld 54 (.t 22)),kO 228 (.bsl 48 1 [(0,.t 227)]),kO 229 (.bi .append [48,48] [.t 226,.t 228]),kM 20 229])))))))
 (.reg [kM 156 21,kO 157 (.bin .add 3 (.t 156) (kI 1)),kM 21 157]))))))
 (.seq (.reg [kM 230 20,kM 6 230,kO 7 (.mv (kI 0))])
 (.ret))))))))))))))
theorem b52:Body Try.prog 52 231 [6,7] k52:=⟨Enters.of Try.func52 (by kernel_rfl) (by kernel_rfl),_,_,Try.func52,rfl,by kernel_rfl,rfl,rfl⟩
def k53:KC:=
 .seq (.reg [kO 1 (.box 54 (.t 0)),kO 2 (.al 50),kO 3 (.mv (.b false))])
 (.seq (.reg [kO 9 (.ld 54 (.t 1)),kO 10 (.fa 54 (.t 1) 2),kO 11 (.ld 22 (.t 10)),kO 12 (.bi .len [22] [.t 11]),kO 13 (.bin .sub 3 (.t 12) (kI 1)),
 kO 14 (.call (.fn 89) [.t 9,.t 13]),kM 8 14,kO 15 (.ex (.t 8) 0),kO 16 (.ex (.t 8) 1),kO 4 (.al 68),kN (.st 68 (.t 4) (.t 15)),kM 5 16])
 (.seq (.seq (.reg [kM 17 5,kO 18 (.un .not (.t 17)),kM 19 18,kG 20 19 (.fa 68 (.t 4) 0),kG 21 19 (.ld 3 (.t 20)),kG 22 19 (.bin .neq 3 (.t 21) (kI 5)),
 kO 23 (.pk (.t 19) (.b true) (.t 22))])
 (.cond (.t 23) (.seq (.reg [kO 24 (.bld 50 []),kN (.st 50 (.t 2) (.t 24)),kO 3 (.mv (.b false))])
 (.ret))
 (.skip)))
 (.seq (.reg [kO 26 (.fa 68 (.t 4) 3),kO 27 (.ld 25 (.t 26)),kO 28 (.call (.fn 94) [.t 27]),kM 25 28,kO 29 (.ex (.t 25) 0),kO 30 (.ex (.t 25) 1),
 kO 6 (.al 50),kN (.st 50 (.t 6) (.t 29)),kM 7 30])
 (.seq (.reg [kO 31 (.ld 50 (.t 6)),kM 32 7,kO 33 (.bin .eql 3 (.t 32) (kI 0)),kN (.st 50 (.t 2) (.t 31)),kM 3 33])
 (.ret)))))
noncomputable def drw54_0:Array Oper:=((Try.f54.body.map regs).getD []).getD 0 #[]
noncomputable def k54:KC:=
 .seq (.reg [kO 2 (.box 50 (.t 0)),kO 4 (.mv (kI 0)),kO 5 (.mv (.b false))])
 (.seq (.seq (.reg [kO 7 (.ld 50 (.t 2)),kO 8 (.call (.fn 95) [.t 7]),kO 9 (.un .not (.t 8))])
 (.cond (.t 9) (.seq (.reg [kO 4 (.mv (kI 0)),kO 5 (.mv (.b false))])
 (.ret))
 (.skip)))
 (.seq (.reg [kO 10 (.fa 50 (.t 2) 4),kO 11 (.ld 47 (.t 10)),kM 12 1,kO 13 (.call (.fn 96) [.t 11,.t 12]),kM 6 13])
 (.seq (.drw drw54_0 [kM 14 6,kM 15 6,kO 16 (.bin .geq 3 (.t 15) (kI 0)),kM 17 16,kT 18 17 (.mv (.t 6)),kT 19 17 (.fa 50 (.t 2) 2),kT 20 17 (.ld 3 (.t 19)),
 kT 21 17 (.bin .lss 3 (.t 18) (.t 20)),kO 22 (.pk (.t 17) (.t 21) (.b false)),kM 4 14,kM 5 22])
 (.ret))))
theorem b54:Body Try.prog 54 23 [4,5] k54:=⟨Enters.of Try.func54 (by kernel_rfl) (by kernel_rfl),_,_,Try.func54,rfl,by kernel_rfl,rfl,rfl⟩
def k55:KC:=
 .seq (.reg [kO 3 (.box 50 (.t 1)),kO 4 (.mv (kI 0)),kO 5 (.mv (.b false))])
 (.seq (.seq (.reg [kO 12 (.fa 50 (.t 3) 4),kO 13 (.ld 47 (.t 12)),kO 14 (.fa 50 (.t 3) 2),kO 15 (.ld 3 (.t 14)),kO 16 (.sli 47 (.t 13) (some (.t 15)) none none),
 kO 17 (.bi .len [47] [.t 16]),kO 18 (.mv (kI 0))])
 (.block 0 (.loop (.seq (.reg [kO 19 (.bin .lss 3 (.t 18) (.t 17))])
 (.seq (.cond (.t 19) (.skip)
 (.exit 0))
 (.seq (.block 1 (.seq (.reg [kO 20 (.ia 47 (.t 16) (.t 18)),kO 21 (.ld 3 (.t 20)),kM 7 21])
 (.seq (.reg [kM 22 0,kM 23 7,kO 24 (.call (.fn 97) [.t 22,.t 23]),kO 8 (.al 54),kN (.st 54 (.t 8) (.t 24))])
 (.seq (.reg [kO 26 (.ld 54 (.t 8)),kO 27 (.call (.fn 70) [.t 26]),kM 25 27,kO 28 (.ex (.t 25) 0),kO 29 (.ex (.t 25) 1),kO 9 (.al 50),
 kN (.st 50 (.t 9) (.t 28)),kM 10 29])
 (.seq (.reg [kM 30 10])
 (.cond (.t 30) (.seq (.reg [kO 31 (.fa 54 (.t 8) 2),kO 32 (.ld 22 (.t 31)),kO 33 (.bi .len [22] [.t 32]),kO 34 (.bin .sub 3 (.t 33) (kI 2)),kM 11 34])
 (.seq (.reg [kM 35 11,kM 36 11,kO 37 (.bin .geq 3 (.t 36) (kI 0)),kM 4 35,kM 5 37])
 (.ret)))
 (.skip)))))))
 (.reg [kO 38 (.bin .add 3 (.t 18) (kI 1)),kM 18 38])))))))
 (.seq (.reg [kO 4 (.mv (kI 0)),kO 5 (.mv (.b false))])
 (.ret)))
theorem b55:Body Try.prog 55 39 [4,5] k55:=⟨Enters.of Try.func55 (by kernel_rfl) (by kernel_rfl),_,_,Try.func55,rfl,by kernel_rfl,rfl,rfl⟩
def k56:KC:=
 .seq (.reg [kO 4 (.mv (kI 0))])
 (.seq (.seq (.reg [kM 6 0,kO 7 (.bi .len [48] [.t 6]),kO 8 (.mv (kI 0))])
 (.block 0 (.loop (.seq (.reg [kO 9 (.bin .lss 3 (.t 8) (.t 7))])
 (.seq (.cond (.t 9) (.skip)
 (.exit 0))
 (.seq (.block 1 (.seq (.reg [kM 10 8,kM 5 10])
 (.seq (.reg [kM 11 1,kM 12 0,kM 13 5,kO 14 (.ia 48 (.t 12) (.t 13)),kO 15 (.ld 54 (.t 14)),kO 16 (.call (.t 11) [.t 15])])
 (.cond (.t 16) (.seq (.reg [kM 17 5,kM 4 17])
 (.ret))
 (.skip)))))
 (.reg [kO 18 (.bin .add 3 (.t 8) (kI 1)),kM 8 18])))))))
 (.seq (.reg [kO 4 (.mv (kI (-1)))])
 (.ret)))
theorem b56:Body Try.prog 56 19 [4] k56:=⟨Enters.of Try.func56 (by kernel_rfl) (by kernel_rfl),_,_,Try.func56,rfl,by kernel_rfl,rfl,rfl⟩
def k57:KC:=
 .seq (.reg [kO 2 (.box 54 (.t 0)),kO 3 (.mv (.b false))])
 (.seq (.reg [kO 4 (.fa 54 (.t 2) 0),kO 5 (.ld 3 (.t 4)),kO 6 (.ld 3 (.t 1)),kO 7 (.bin .eql 3 (.t 5) (.t 6)),kM 3 7])
 (.ret))
theorem b57:Body Try.prog 57 8 [3] k57:=⟨Enters.of Try.func57 (by kernel_rfl) (by kernel_rfl),_,_,Try.func57,rfl,by kernel_rfl,rfl,rfl⟩
def k58:KC:=
 .seq (.reg [kO 2 (.mv (.b false))])
 (.seq (.reg [kM 3 0,kO 4 (.call (.fn 98) [.t 3,.fn 99]),kO 5 (.un .not (.t 4)),kM 2 5])
 (.ret))
theorem b58:Body Try.prog 58 6 [2] k58:=⟨Enters.of Try.func58 (by kernel_rfl) (by kernel_rfl),_,_,Try.func58,rfl,by kernel_rfl,rfl,rfl⟩
def k60:KC:=
 .seq (.reg [kO 4 (.box 50 (.t 1)),kO 6 (.mv (.ns))])
 (.seq (.reg [kO 7 (.mv (.ns))])
 (.seq (.seq (.reg [kO 11 (.fa 50 (.t 4) 4),kO 12 (.ld 47 (.t 11)),kO 13 (.bi .len [47] [.t 12]),kO 14 (.mv (kI 0))])
 (.block 0 (.loop (.seq (.reg [kO 15 (.bin .lss 3 (.t 14) (.t 13))])
 (.seq (.cond (.t 15) (.skip)
 (.exit 0))
 (.seq (.block 1 (.seq (.reg [kM 16 14,kO 17 (.ia 47 (.t 12) (.t 14)),kO 18 (.ld 3 (.t 17)),kM 8 16,kM 9 18])
 (.seq (.reg [kM 19 0,kM 20 9,kO 21 (.call (.fn 97) [.t 19,.t 20]),kO 10 (.al 54),kN (.st 54 (.t 10) (.t 21))])
 (.seq (.reg [kM 22 8,kO 23 (.fa 50 (.t 4) 2),kO 24 (.ld 3 (.t 23)),kO 25 (.bin .lss 3 (.t 22) (.t 24))])
 (.cond (.t 25) (.reg [kM 26 7,kO 27 (.ld 54 (.t 10)),kM 28 2,kO 29 (.call (.fn 100) [.t 27,.t 28]),kO 30 (.bsl 22 1 [(0,.t 29)]),
 kO 31 (.bi .append [22,22] [.t 26,.t 30]),kM 7 31])
 (.reg [kM 32 7,kO 33 (.ld 54 (.t 10)),kM 34 2,kO 35 (.call (.fn 101) [.t 33,.t 34]),kO 36 (.bsl 22 1 [(0,.t 35)]),
 kO 37 (.bi .append [22,22] [.t 32,.t 36]),kM 7 37]))))))
 (.reg [kO 38 (.bin .add 3 (.t 14) (kI 1)),kM 14 38])))))))
 (.seq (.reg [kM 39 7,kM 6 39])
 (.ret))))
theorem b60:Body Try.prog 60 40 [6] k60:=⟨Enters.of Try.func60 (by kernel_rfl) (by kernel_rfl),_,_,Try.func60,rfl,by kernel_rfl,rfl,rfl⟩
def k61:KC:=
 .seq (.reg [kO 2 (.mv (.ns))])
 (.seq (.seq (.reg [kM 3 0,kO 4 (.bin .eql 25 (.t 3) (.ns))])
 (.cond (.t 4) (.seq (.reg [kO 2 (.mv (.ns))])
 (.ret))
 (.skip)))
 (.seq (.reg [kO 5 (.bsl 25 0 []),kM 6 0,kO 7 (.bi .append [25,25] [.t 5,.t 6]),kM 2 7])
 (.ret)))
theorem b61:Body Try.prog 61 8 [2] k61:=⟨Enters.of Try.func61 (by kernel_rfl) (by kernel_rfl),_,_,Try.func61,rfl,by kernel_rfl,rfl,rfl⟩
def k62:KC:=
 .reg [kM 4 0,kM 5 0,kO 6 (.nc (.t 5)),kO 7 (.fa 102 (.t 6) 0),kO 8 (.ld 25 (.t 7)),kM 9 1,kO 10 (.bsl 25 1 [(0,.t 9)]),
 kO 11 (.bi .append [25,25] [.t 8,.t 10]),kO 12 (.nc (.t 4)),kO 13 (.fa 102 (.t 12) 0),kN (.st 25 (.t 13) (.t 11))]
theorem b62:Body Try.prog 62 14 [] k62:=⟨Enters.of Try.func62 (by kernel_rfl) (by kernel_rfl),_,_,Try.func62,rfl,by kernel_rfl,rfl,rfl⟩
def k63:KC:=
 .seq (.reg [kM 5 1,kO 6 (.cvt 3 145 (.t 5)),kM 4 6])
 (.reg [kM 7 0,kM 8 0,kO 9 (.nc (.t 8)),kO 10 (.fa 102 (.t 9) 0),kO 11 (.ld 25 (.t 10)),kM 12 4,kO 13 (.bin .shr 145 (.t 12) (.i .u64 24)),
 kO 14 (.bin .and 145 (.t 13) (.i .u64 255)),kO 15 (.cvt 145 5 (.t 14)),kM 16 4,kO 17 (.bin .shr 145 (.t 16) (.i .u64 16)),
 kO 18 (.bin .and 145 (.t 17) (.i .u64 255)),kO 19 (.cvt 145 5 (.t 18)),kM 20 4,kO 21 (.bin .shr 145 (.t 20) (.i .u64 8)),
 kO 22 (.bin .and 145 (.t 21) (.i .u64 255)),kO 23 (.cvt 145 5 (.t 22)),kM 24 4,kO 25 (.bin .and 145 (.t 24) (.i .u64 255)),
 kO 26 (.cvt 145 5 (.t 25)),kO 27 (.bsl 25 4 [(0,.t 15),(1,.t 19),(2,.t 23),(3,.t 26)]),kO 28 (.bi .append [25,25] [.t 11,.t 27]),
 kO 29 (.nc (.t 7)),kO 30 (.fa 102 (.t 29) 0),kN (.st 25 (.t 30) (.t 28))])
theorem b63:Body Try.prog 63 31 [] k63:=⟨Enters.of Try.func63 (by kernel_rfl) (by kernel_rfl),_,_,Try.func63,rfl,by kernel_rfl,rfl,rfl⟩
def k64:KC:=
 .seq (.reg [kO 2 (.mv (.i .u32 0))])
 (.seq (.reg [kM 3 0,kO 4 (.call (.fn 102) [.i .u32 0,.t 3]),kM 2 4])
 (.ret))
theorem b64:Body Try.prog 64 5 [2] k64:=⟨Enters.of Try.func64 (by kernel_rfl) (by kernel_rfl),_,_,Try.func64,rfl,by kernel_rfl,rfl,rfl⟩
def k70:KC:=
 .seq (.reg [kO 1 (.box 54 (.t 0)),kO 2 (.al 50),kO 3 (.mv (.b false))])
 (.seq (.reg [kO 9 (.ld 54 (.t 1)),kO 10 (.fa 54 (.t 1) 2),kO 11 (.ld 22 (.t 10)),kO 12 (.bi .len [22] [.t 11]),kO 13 (.bin .sub 3 (.t 12) (kI 1)),
 kO 14 (.call (.fn 115) [.t 9,.t 13]),kM 8 14,kO 15 (.ex (.t 8) 0),kO 16 (.ex (.t 8) 1),kO 4 (.al 68),kN (.st 68 (.t 4) (.t 15)),kM 5 16])
 (.seq (.seq (.reg [kM 17 5,kO 18 (.un .not (.t 17)),kM 19 18,kG 20 19 (.fa 68 (.t 4) 0),kG 21 19 (.ld 3 (.t 20)),kG 22 19 (.bin .neq 3 (.t 21) (kI 5)),
 kO 23 (.pk (.t 19) (.b true) (.t 22))])
 (.cond (.t 23) (.seq (.reg [kO 24 (.bld 50 []),kN (.st 50 (.t 2) (.t 24)),kO 3 (.mv (.b false))])
 (.ret))
 (.skip)))
 (.seq (.reg [kO 26 (.fa 68 (.t 4) 3),kO 27 (.ld 25 (.t 26)),kO 28 (.call (.fn 116) [.t 27]),kM 25 28,kO 29 (.ex (.t 25) 0),kO 30 (.ex (.t 25) 1),
 kO 6 (.al 50),kN (.st 50 (.t 6) (.t 29)),kM 7 30])
 (.seq (.reg [kO 31 (.ld 50 (.t 6)),kM 32 7,kO 33 (.bin .eql 26 (.t 32) (kI 0)),kN (.st 50 (.t 2) (.t 31)),kM 3 33])
 (.ret)))))
def k76:KC:=
 .seq (.reg [kO 4 (.mv (.b false))])
 (.seq (.reg [kM 5 0,kM 6 1,kO 7 (.call (.fn 96) [.t 5,.t 6]),kO 8 (.bin .geq 3 (.t 7) (kI 0)),kM 4 8])
 (.ret))
theorem b76:Body Try.prog 76 9 [4] k76:=⟨Enters.of Try.func76 (by kernel_rfl) (by kernel_rfl),_,_,Try.func76,rfl,by kernel_rfl,rfl,rfl⟩
def k78:KC:=
 .seq (.reg [kO 4 (.mv (.ns))])
 (.seq (.reg [kO 5 (.mv (.ns))])
 (.seq (.seq (.reg [kM 10 0,kO 11 (.mv (kI 0))])
 (.block 0 (.loop (.seq (.reg [kO 12 (.bin .lss 3 (.t 11) (.t 10))])
 (.seq (.cond (.t 12) (.skip)
 (.exit 0))
 (.seq (.block 1 (.seq (.reg [kM 13 11,kM 6 13])
 (.seq (.reg [kM 14 0,kO 15 (.mk 25 (.t 14) (.t 14)),kM 7 15])
 (.seq (.reg [kM 16 7,kM 17 6,kO 18 (.ia 25 (.t 16) (.t 17)),kN (.st 5 (.t 18) (.i .u8 1))])
 (.reg [kM 19 5,kM 20 7,kO 21 (.bsl 22 1 [(0,.t 20)]),kO 22 (.bi .append [22,22] [.t 19,.t 21]),kM 5 22])))))
 (.reg [kO 23 (.bin .add 3 (.t 11) (kI 1)),kM 11 23])))))))
 (.seq (.seq (.reg [kM 24 1,kM 25 0,kO 26 (.bin .gtr 3 (.t 24) (.t 25))])
 (.cond (.t 26) (.seq (.reg [kM 28 0,kM 29 1,kM 30 0,kO 31 (.bin .sub 3 (.t 29) (.t 30)),kO 32 (.call (.fn 44) [.t 28,.t 31]),kM 27 32,kO 33 (.ex (.t 27) 0),
 kO 34 (.ex (.t 27) 1),kM 8 33,kM 9 34])
 (.reg [kM 35 5,kM 36 8,kO 37 (.bi .append [22,22] [.t 35,.t 36]),kM 5 37]))
 (.skip)))
 (.seq (.reg [kM 38 5,kM 4 38])
 (.ret)))))
theorem b78:Body Try.prog 78 39 [4] k78:=⟨Enters.of Try.func78 (by kernel_rfl) (by kernel_rfl),_,_,Try.func78,rfl,by kernel_rfl,rfl,rfl⟩
noncomputable def drw79_0:Array Oper:=((Try.f79.body.map regs).getD []).getD 0 #[]
noncomputable def drw79_1:Array Oper:=((Try.f79.body.map regs).getD []).getD 1 #[]
noncomputable def drw79_2:Array Oper:=((Try.f79.body.map regs).getD []).getD 2 #[]
noncomputable def drw79_3:Array Oper:=((Try.f79.body.map regs).getD []).getD 3 #[]
noncomputable def k79:KC:=
 .seq (.reg [kO 2 (.mv (.ns)),kO 3 (.mv (kI 0))])
 (.seq (.seq (.reg [kM 11 0,kO 12 (.call (.fn 120) [.t 11]),kO 13 (.un .not (.t 12)),kM 14 13,kG 15 14 (.mv (.t 0)),kG 16 14 (.bi .len [22] [.t 15]),
 kG 17 14 (.mv (.t 0)),kG 18 14 (.ia 22 (.t 17) (kI 0)),kG 19 14 (.ld 25 (.t 18)),kG 20 14 (.bi .len [25] [.t 19]),
 kG 21 14 (.bin .neq 3 (.t 16) (.t 20)),kO 22 (.pk (.t 14) (.b true) (.t 21))])
 (.cond (.t 22) (.seq (.reg [kO 2 (.mv (.ns)),kO 3 (.mv (kI 1))])
 (.ret))
 (.skip)))
 (.seq (.reg [kM 23 0,kO 24 (.call (.fn 121) [.t 23]),kM 4 24])
 (.seq (.seq (.reg [kM 25 4,kO 26 (.bi .len [22] [.t 25]),kO 27 (.mv (kI 0))])
 (.block 0 (.loop (.seq (.reg [kO 28 (.bin .lss 3 (.t 27) (.t 26))])
 (.seq (.cond (.t 28) (.skip)
 (.exit 0))
 (.seq (.block 1 (.seq (.reg [kM 29 27,kO 5 (.al 3),kN (.st 3 (.t 5) (.t 29))])
 (.seq (.reg [kM 30 4,kO 31 (.ld 3 (.t 5)),kO 32 (.sli 22 (.t 30) (some (.t 31)) none none),kO 33 (.mf 123 [.t 5]),kO 34 (.call (.fn 122) [.t 32,.t 33]),
 kM 6 34])
 (.seq (.seq (.reg [kM 35 6,kO 36 (.bin .lss 3 (.t 35) (kI 0))])
 (.cond (.t 36) (.seq (.reg [kO 2 (.mv (.ns)),kO 3 (.mv (kI 12))])
 (.ret))
 (.skip)))
 (.seq (.drw drw79_0 [kM 37 4,kO 38 (.ld 3 (.t 5)),kM 39 4,kO 40 (.ld 3 (.t 5)),kM 41 6,kO 42 (.bin .add 3 (.t 40) (.t 41)),kM 43 4,kO 44 (.ld 3 (.t 5)),kM 45 6,
 kO 46 (.bin .add 3 (.t 44) (.t 45)),kO 47 (.ia 22 (.t 43) (.t 46)),kO 48 (.ld 25 (.t 47)),kM 49 4,kO 50 (.ld 3 (.t 5)),
 kO 51 (.ia 22 (.t 49) (.t 50)),kO 52 (.ld 25 (.t 51)),kO 53 (.ia 22 (.t 37) (.t 38)),kN (.st 25 (.t 53) (.t 48)),kO 54 (.ia 22 (.t 39) (.t 42)),
 kN (.st 25 (.t 54) (.t 52))])
 (.seq (.drw drw79_1 [kM 55 4,kO 56 (.ld 3 (.t 5)),kM 57 4,kO 58 (.ld 3 (.t 5)),kO 59 (.ia 22 (.t 57) (.t 58)),kO 60 (.ld 25 (.t 59)),kM 61 4,kO 62 (.ld 3 (.t 5)),
 kO 63 (.ia 22 (.t 61) (.t 62)),kO 64 (.ld 25 (.t 63)),kO 65 (.ld 3 (.t 5)),kO 66 (.ia 25 (.t 64) (.t 65)),kO 67 (.ld 5 (.t 66)),
 kO 68 (.call (.fn 82) [.t 67]),kO 69 (.call (.fn 124) [.t 60,.t 68]),kO 70 (.ia 22 (.t 55) (.t 56)),kN (.st 25 (.t 70) (.t 69))])
 (.seq (.reg [kM 71 4,kO 72 (.bi .len [22] [.t 71]),kO 73 (.mv (kI 0))])
 (.block 2 (.loop (.seq (.reg [kO 74 (.bin .lss 3 (.t 73) (.t 72))])
 (.seq (.cond (.t 74) (.skip)
 (.exit 2))
 (.seq (.block 3 (.seq (.reg [kM 75 73,kM 7 75])
 (.seq (.drw drw79_2 [kM 76 7,kO 77 (.ld 3 (.t 5)),kO 78 (.bin .neq 3 (.t 76) (.t 77)),kM 79 78,kT 80 79 (.mv (.t 4)),kT 81 79 (.mv (.t 7)),
 kT 82 79 (.ia 22 (.t 80) (.t 81)),kT 83 79 (.ld 25 (.t 82)),kT 84 79 (.ld 3 (.t 5)),kT 85 79 (.ia 25 (.t 83) (.t 84)),kT 86 79 (.ld 5 (.t 85)),
 kT 87 79 (.bin .neq 5 (.t 86) (.i .u8 0)),kO 88 (.pk (.t 79) (.t 87) (.b false))])
 (.cond (.t 88) (.drw drw79_3 [kM 89 4,kM 90 7,kM 91 4,kM 92 7,kO 93 (.ia 22 (.t 91) (.t 92)),kO 94 (.ld 25 (.t 93)),kM 95 4,kO 96 (.ld 3 (.t 5)),
 kO 97 (.ia 22 (.t 95) (.t 96)),kO 98 (.ld 25 (.t 97)),kM 99 4,kM 100 7,kO 101 (.ia 22 (.t 99) (.t 100)),kO 102 (.ld 25 (.t 101)),
 kO 103 (.ld 3 (.t 5)),kO 104 (.ia 25 (.t 102) (.t 103)),kO 105 (.ld 5 (.t 104)),kO 106 (.call (.fn 124) [.t 98,.t 105]),
 kO 107 (.call (.fn 125) [.t 94,.t 106]),kO 108 (.ia 22 (.t 89) (.t 90)),kN (.st 25 (.t 108) (.t 107))])
 (.skip)))))
 (.reg [kO 109 (.bin .add 3 (.t 73) (kI 1)),kM 73 109])))))))))))))
 (.reg [kO 110 (.bin .add 3 (.t 27) (kI 1)),kM 27 110])))))))
 (.seq (.reg [kO 8 (.mv (.ns))])
 (.seq (.seq (.reg [kM 111 4,kO 112 (.bi .len [22] [.t 111]),kO 113 (.mv (kI 0))])
 (.block 4 (.loop (.seq (.reg [kO 114 (.bin .lss 3 (.t 113) (.t 112))])
 (.seq (.cond (.t 114) (.skip)
 (.exit 4))
 (.seq (.block 5 (.seq (.reg [kO 115 (.ia 22 (.t 111) (.t 113)),kO 116 (.ld 25 (.t 115)),kM 10 116])
 (.reg [kM 117 8,kM 118 10,kM 119 0,kO 120 (.bi .len [22] [.t 119]),kO 121 (.sli 25 (.t 118) (some (.t 120)) none none),
 kO 122 (.call (.fn 61) [.t 121]),kO 123 (.bsl 22 1 [(0,.t 122)]),kO 124 (.bi .append [22,22] [.t 117,.t 123]),kM 8 124])))
 (.reg [kO 125 (.bin .add 3 (.t 113) (kI 1)),kM 113 125])))))))
 (.seq (.reg [kM 126 8,kM 2 126,kO 3 (.mv (kI 0))])
 (.ret)))))))
theorem b79:Body Try.prog 79 127 [2,3] k79:=⟨Enters.of Try.func79 (by kernel_rfl) (by kernel_rfl),_,_,Try.func79,rfl,by kernel_rfl,rfl,rfl⟩
def k80:KC:=
 .seq (.reg [kO 4 (.mv (.b false))])
 (.seq (.reg [kM 5 0,kM 6 1,kO 7 (.call (.fn 122) [.t 5,.t 6]),kO 8 (.bin .geq 3 (.t 7) (kI 0)),kM 4 8])
 (.ret))
theorem b80:Body Try.prog 80 9 [4] k80:=⟨Enters.of Try.func80 (by kernel_rfl) (by kernel_rfl),_,_,Try.func80,rfl,by kernel_rfl,rfl,rfl⟩
def k81:KC:=
 .seq (.reg [kO 3 (.mv (.b false))])
 (.seq (.reg [kM 4 0,kO 5 (.bi .len [25] [.t 4]),kO 6 (.ld 22 (.t 1)),kO 7 (.ia 22 (.t 6) (kI 0)),kO 8 (.ld 25 (.t 7)),kO 9 (.bi .len [25] [.t 8]),
 kO 10 (.bin .neq 3 (.t 5) (.t 9)),kM 3 10])
 (.ret))
theorem b81:Body Try.prog 81 11 [3] k81:=⟨Enters.of Try.func81 (by kernel_rfl) (by kernel_rfl),_,_,Try.func81,rfl,by kernel_rfl,rfl,rfl⟩
def k82:KC:=
 .seq (.reg [kO 2 (.mv (.i .u8 0))])
 (.seq (.reg [kM 3 0,kO 4 (.call (.fn 126) [.t 3,.i .i64 254]),kM 2 4])
 (.ret))
theorem b82:Body Try.prog 82 5 [2] k82:=⟨Enters.of Try.func82 (by kernel_rfl) (by kernel_rfl),_,_,Try.func82,rfl,by kernel_rfl,rfl,rfl⟩
def k83:KC:=
 .seq (.reg [kO 4 (.mv (.i .u8 0))])
 (.seq (.reg [kM 5 0,kM 6 1,kO 7 (.bin .xor 5 (.t 5) (.t 6)),kM 4 7])
 (.ret))
theorem b83:Body Try.prog 83 8 [4] k83:=⟨Enters.of Try.func83 (by kernel_rfl) (by kernel_rfl),_,_,Try.func83,rfl,by kernel_rfl,rfl,rfl⟩
def k84:KC:=
 .seq (.reg [kO 4 (.mv (.ns)),kO 5 (.mv (kI 0))])
 (.seq (.seq (.reg [kM 6 0,kO 7 (.call (.fn 120) [.t 6]),kO 8 (.un .not (.t 7)),kM 9 8,kG 10 9 (.mv (.t 1)),kG 11 9 (.bi .len [25] [.t 10]),kG 12 9 (.mv (.t 0)),
 kG 13 9 (.ia 22 (.t 12) (kI 0)),kG 14 9 (.ld 25 (.t 13)),kG 15 9 (.bi .len [25] [.t 14]),kG 16 9 (.bin .neq 3 (.t 11) (.t 15)),
 kO 17 (.pk (.t 9) (.b true) (.t 16))])
 (.cond (.t 17) (.seq (.reg [kO 4 (.mv (.ns)),kO 5 (.mv (kI 1))])
 (.ret))
 (.skip)))
 (.seq (.reg [kM 18 0,kM 19 1,kO 20 (.call (.fn 127) [.t 18,.t 19]),kM 4 20,kO 5 (.mv (kI 0))])
 (.ret)))
theorem b84:Body Try.prog 84 21 [4,5] k84:=⟨Enters.of Try.func84 (by kernel_rfl) (by kernel_rfl),_,_,Try.func84,rfl,by kernel_rfl,rfl,rfl⟩
def k88:KC:=
 .seq (.reg [kO 2 (.mv (kI 0))])
 (.seq (.reg [kO 3 (.mv (kI 0))])
 (.seq (.seq (.reg [kO 4 (.mv (kI 0))])
 (.block 0 (.loop (.seq (.seq (.reg [kM 5 4,kM 6 0,kO 7 (.bi .len [48] [.t 6]),kO 8 (.bin .lss 3 (.t 5) (.t 7))])
 (.cond (.t 8) (.skip)
 (.exit 0)))
 (.seq (.block 1 (.seq (.reg [kM 11 0,kM 12 4,kO 13 (.ia 48 (.t 11) (.t 12)),kO 14 (.fa 54 (.t 13) 3),kO 15 (.ld 4 (.t 14)),kO 16 (.un .not (.t 15)),kM 17 16,
 kT 18 17 (.mv (.t 0)),kT 19 17 (.mv (.t 4)),kT 20 17 (.ia 48 (.t 18) (.t 19)),kT 21 17 (.fa 54 (.t 20) 2),kT 22 17 (.ld 22 (.t 21)),
 kT 23 17 (.bi .len [22] [.t 22]),kT 24 17 (.mv (.t 3)),kT 25 17 (.bin .gtr 3 (.t 23) (.t 24)),kO 26 (.pk (.t 17) (.t 25) (.b false))])
 (.cond (.t 26) (.reg [kM 27 0,kM 28 4,kO 29 (.ia 48 (.t 27) (.t 28)),kO 30 (.fa 54 (.t 29) 2),kO 31 (.ld 22 (.t 30)),kO 32 (.bi .len [22] [.t 31]),kM 3 32])
 (.skip))))
 (.reg [kM 9 4,kO 10 (.bin .add 3 (.t 9) (kI 1)),kM 4 10]))))))
 (.seq (.reg [kM 33 3,kM 2 33])
 (.ret))))
theorem b88:Body Try.prog 88 34 [2] k88:=⟨Enters.of Try.func88 (by kernel_rfl) (by kernel_rfl),_,_,Try.func88,rfl,by kernel_rfl,rfl,rfl⟩
def k89:KC:=
 .seq (.reg [kO 2 (.box 54 (.t 0)),kO 4 (.al 68),kO 5 (.mv (.b false))])
 (.seq (.seq (.reg [kO 8 (.fa 54 (.t 2) 3),kO 9 (.ld 4 (.t 8)),kM 10 9,kG 11 10 (.mv (.t 1)),kG 12 10 (.bin .lss 3 (.t 11) (kI 0)),
 kO 13 (.pk (.t 10) (.b true) (.t 12)),kM 14 13,kG 15 14 (.mv (.t 1)),kG 16 14 (.fa 54 (.t 2) 2),kG 17 14 (.ld 22 (.t 16)),
 kG 18 14 (.bi .len [22] [.t 17]),kG 19 14 (.bin .geq 3 (.t 15) (.t 18)),kO 20 (.pk (.t 14) (.b true) (.t 19))])
 (.cond (.t 20) (.seq (.reg [kO 21 (.bld 68 []),kN (.st 68 (.t 4) (.t 21)),kO 5 (.mv (.b false))])
 (.ret))
 (.skip)))
 (.seq (.reg [kO 23 (.fa 54 (.t 2) 2),kO 24 (.ld 22 (.t 23)),kM 25 1,kO 26 (.ia 22 (.t 24) (.t 25)),kO 27 (.ld 25 (.t 26)),kO 28 (.call (.fn 140) [.t 27]),
 kM 22 28,kO 29 (.ex (.t 22) 0),kO 30 (.ex (.t 22) 1),kO 6 (.al 68),kN (.st 68 (.t 6) (.t 29)),kM 7 30])
 (.seq (.seq (.reg [kM 31 7,kO 32 (.bin .neq 3 (.t 31) (kI 0)),kM 33 32,kG 34 33 (.fa 68 (.t 6) 1),kG 35 33 (.ld 3 (.t 34)),kG 36 33 (.fa 54 (.t 2) 0),
 kG 37 33 (.ld 3 (.t 36)),kG 38 33 (.bin .neq 3 (.t 35) (.t 37)),kO 39 (.pk (.t 33) (.b true) (.t 38)),kM 40 39,kG 41 40 (.fa 68 (.t 6) 2),
 kG 42 40 (.ld 3 (.t 41)),kG 43 40 (.mv (.t 1)),kG 44 40 (.bin .neq 3 (.t 42) (.t 43)),kO 45 (.pk (.t 40) (.b true) (.t 44))])
 (.cond (.t 45) (.seq (.reg [kO 46 (.bld 68 []),kN (.st 68 (.t 4) (.t 46)),kO 5 (.mv (.b false))])
 (.ret))
 (.skip)))
 (.seq (.reg [kO 47 (.ld 68 (.t 6)),kN (.st 68 (.t 4) (.t 47)),kO 5 (.mv (.b true))])
 (.ret)))))
noncomputable def drw90_0:Array Oper:=((Try.f90.body.map regs).getD []).getD 0 #[]
noncomputable def k90:KC:=
 .seq (.reg [kO 1 (.box 50 (.t 0)),kO 2 (.mv (.b false))])
 (.seq (.seq (.reg [kO 5 (.fa 50 (.t 1) 0),kO 6 (.ld 3 (.t 5)),kO 7 (.bin .lss 3 (.t 6) (kI 1)),kM 8 7,kG 9 8 (.fa 50 (.t 1) 0),kG 10 8 (.ld 3 (.t 9)),
 kG 11 8 (.bin .gtr 3 (.t 10) (kI 1073741824)),kO 12 (.pk (.t 8) (.b true) (.t 11)),kM 13 12,kG 14 13 (.fa 50 (.t 1) 2),kG 15 13 (.ld 3 (.t 14)),
 kG 16 13 (.bin .lss 3 (.t 15) (kI 1)),kO 17 (.pk (.t 13) (.b true) (.t 16)),kM 18 17,kG 19 18 (.fa 50 (.t 1) 3),kG 20 18 (.ld 3 (.t 19)),
 kG 21 18 (.bin .lss 3 (.t 20) (kI 1)),kO 22 (.pk (.t 18) (.b true) (.t 21)),kM 23 22,kG 24 23 (.fa 50 (.t 1) 2),kG 25 23 (.ld 3 (.t 24)),
 kG 26 23 (.bin .gtr 3 (.t 25) (kI 14)),kO 27 (.pk (.t 23) (.b true) (.t 26)),kM 28 27,kG 29 28 (.fa 50 (.t 1) 3),kG 30 28 (.ld 3 (.t 29)),
 kG 31 28 (.bin .gtr 3 (.t 30) (kI 14)),kO 32 (.pk (.t 28) (.b true) (.t 31)),kM 33 32,kG 34 33 (.fa 50 (.t 1) 2),kG 35 33 (.ld 3 (.t 34)),
 kG 36 33 (.fa 50 (.t 1) 3),kG 37 33 (.ld 3 (.t 36)),kG 38 33 (.bin .add 3 (.t 35) (.t 37)),kG 39 33 (.bin .gtr 3 (.t 38) (kI 14)),
 kO 40 (.pk (.t 33) (.b true) (.t 39)),kM 41 40,kG 42 41 (.fa 50 (.t 1) 4),kG 43 41 (.ld 47 (.t 42)),kG 44 41 (.bi .len [47] [.t 43]),
 kG 45 41 (.fa 50 (.t 1) 2),kG 46 41 (.ld 3 (.t 45)),kG 47 41 (.fa 50 (.t 1) 3),kG 48 41 (.ld 3 (.t 47)),kG 49 41 (.bin .add 3 (.t 46) (.t 48)),
 kG 50 41 (.bin .neq 3 (.t 44) (.t 49)),kO 51 (.pk (.t 41) (.b true) (.t 50)),kM 52 51,kG 53 52 (.fa 50 (.t 1) 1),kG 54 52 (.ld 3 (.t 53)),
 kG 55 52 (.bin .lss 3 (.t 54) (kI 0)),kO 56 (.pk (.t 52) (.b true) (.t 55)),kM 57 56,kG 58 57 (.fa 50 (.t 1) 1),kG 59 57 (.ld 3 (.t 58)),
 kG 60 57 (.fa 50 (.t 1) 4),kG 61 57 (.ld 47 (.t 60)),kG 62 57 (.bi .len [47] [.t 61]),kG 63 57 (.bin .geq 3 (.t 59) (.t 62)),
 kO 64 (.pk (.t 57) (.b true) (.t 63))])
 (.cond (.t 64) (.seq (.reg [kO 2 (.mv (.b false))])
 (.ret))
 (.skip)))
 (.seq (.seq (.reg [kO 3 (.mv (kI 0))])
 (.block 0 (.loop (.seq (.seq (.reg [kM 65 3,kO 66 (.fa 50 (.t 1) 4),kO 67 (.ld 47 (.t 66)),kO 68 (.bi .len [47] [.t 67]),kO 69 (.bin .lss 3 (.t 65) (.t 68))])
 (.cond (.t 69) (.skip)
 (.exit 0)))
 (.seq (.block 1 (.seq (.seq (.reg [kO 72 (.fa 50 (.t 1) 4),kO 73 (.ld 47 (.t 72)),kM 74 3,kO 75 (.ia 47 (.t 73) (.t 74)),kO 76 (.ld 3 (.t 75)),kO 77 (.bin .lss 3 (.t 76) (kI 1)),
 kM 78 77,kG 79 78 (.fa 50 (.t 1) 4),kG 80 78 (.ld 47 (.t 79)),kG 81 78 (.mv (.t 3)),kG 82 78 (.ia 47 (.t 80) (.t 81)),kG 83 78 (.ld 3 (.t 82)),
 kG 84 78 (.bin .gtr 3 (.t 83) (kI 2147483647)),kO 85 (.pk (.t 78) (.b true) (.t 84))])
 (.cond (.t 85) (.seq (.reg [kO 2 (.mv (.b false))])
 (.ret))
 (.skip)))
 (.seq (.reg [kO 4 (.mv (kI 0))])
 (.block 2 (.loop (.seq (.seq (.reg [kM 86 4,kM 87 3,kO 88 (.bin .lss 3 (.t 86) (.t 87))])
 (.cond (.t 88) (.skip)
 (.exit 2)))
 (.seq (.block 3 (.seq (.drw drw90_0 [kO 91 (.fa 50 (.t 1) 4),kO 92 (.ld 47 (.t 91)),kM 93 4,kO 94 (.ia 47 (.t 92) (.t 93)),kO 95 (.ld 3 (.t 94)),kO 96 (.fa 50 (.t 1) 4),
 kO 97 (.ld 47 (.t 96)),kM 98 3,kO 99 (.ia 47 (.t 97) (.t 98)),kO 100 (.ld 3 (.t 99)),kO 101 (.bin .eql 3 (.t 95) (.t 100))])
 (.cond (.t 101) (.seq (.reg [kO 2 (.mv (.b false))])
 (.ret))
 (.skip))))
 (.reg [kM 89 4,kO 90 (.bin .add 3 (.t 89) (kI 1)),kM 4 90]))))))))
 (.reg [kM 70 3,kO 71 (.bin .add 3 (.t 70) (kI 1)),kM 3 71]))))))
 (.seq (.reg [kO 2 (.mv (.b true))])
 (.ret))))
theorem b90:Body Try.prog 90 102 [2] k90:=⟨Enters.of Try.func90 (by kernel_rfl) (by kernel_rfl),_,_,Try.func90,rfl,by kernel_rfl,rfl,rfl⟩
noncomputable def drw91_0:Array Oper:=((Try.f91.body.map regs).getD []).getD 0 #[]
noncomputable def k91:KC:=
 .seq (.reg [kO 4 (.mv (.ns)),kO 5 (.mv (kI 0))])
 (.seq (.seq (.reg [kM 14 0,kO 15 (.bi .len [48] [.t 14]),kO 16 (.bin .lss 3 (.t 15) (kI 1)),kM 17 16,kG 18 17 (.mv (.t 1)),kG 19 17 (.bin .lss 3 (.t 18) (kI 0)),
 kO 20 (.pk (.t 17) (.b true) (.t 19)),kM 21 20,kG 22 21 (.mv (.t 1)),kG 23 21 (.bin .gtr 3 (.t 22) (kI 255)),
 kO 24 (.pk (.t 21) (.b true) (.t 23)),kM 25 24,kG 26 25 (.mv (.t 0)),kG 27 25 (.bi .len [48] [.t 26]),kG 28 25 (.mv (.t 1)),
 kG 29 25 (.bin .add 3 (.t 27) (.t 28)),kG 30 25 (.bin .gtr 3 (.t 29) (kI 255)),kO 31 (.pk (.t 25) (.b true) (.t 30))])
 (.cond (.t 31) (.seq (.reg [kO 4 (.mv (.ns)),kO 5 (.mv (kI 1))])
 (.ret))
 (.skip)))
 (.seq (.reg [kO 6 (.mv (.ns))])
 (.seq (.seq (.reg [kO 7 (.mv (kI 0))])
 (.block 0 (.loop (.seq (.seq (.reg [kM 32 7,kM 33 1,kO 34 (.bin .lss 3 (.t 32) (.t 33))])
 (.cond (.t 34) (.skip)
 (.exit 0)))
 (.seq (.block 1 (.reg [kM 37 6,kO 38 (.bsl 111 1 [(0,.ns)]),kO 39 (.bi .append [111,111] [.t 37,.t 38]),kM 6 39]))
 (.reg [kM 35 7,kO 36 (.bin .add 3 (.t 35) (kI 1)),kM 7 36]))))))
 (.seq (.seq (.reg [kO 8 (.mv (kI 0))])
 (.block 2 (.loop (.seq (.seq (.reg [kM 40 8,kM 41 0,kO 42 (.call (.fn 88) [.t 41]),kO 43 (.bin .lss 3 (.t 40) (.t 42))])
 (.cond (.t 43) (.skip)
 (.exit 2)))
 (.seq (.block 3 (.seq (.reg [kM 46 0,kM 47 8,kO 48 (.call (.fn 141) [.t 46,.t 47]),kM 9 48])
 (.seq (.seq (.reg [kO 10 (.mv (kI 0))])
 (.block 4 (.loop (.seq (.seq (.reg [kM 49 10,kM 50 9,kO 51 (.bi .len [22] [.t 50]),kO 52 (.bin .lss 3 (.t 49) (.t 51))])
 (.cond (.t 52) (.skip)
 (.exit 4)))
 (.seq (.block 5 (.seq (.reg [kM 55 9,kM 56 10,kO 57 (.ia 22 (.t 55) (.t 56)),kO 58 (.ld 25 (.t 57)),kO 59 (.bi .len [25] [.t 58]),kO 60 (.bin .eql 3 (.t 59) (kI 0))])
 (.cond (.t 60) (.seq (.reg [kO 4 (.mv (.ns)),kO 5 (.mv (kI 1))])
 (.ret))
 (.skip))))
 (.reg [kM 53 10,kO 54 (.bin .add 3 (.t 53) (kI 1)),kM 10 54]))))))
 (.seq (.reg [kM 62 9,kM 63 1,kO 64 (.call (.fn 142) [.t 62,.t 63]),kM 61 64,kO 65 (.ex (.t 61) 0),kO 66 (.ex (.t 61) 1),kM 11 65,kM 12 66])
 (.seq (.seq (.reg [kM 67 12,kO 68 (.bin .neq 3 (.t 67) (kI 0))])
 (.cond (.t 68) (.seq (.reg [kM 69 12,kO 4 (.mv (.ns)),kM 5 69])
 (.ret))
 (.skip)))
 (.seq (.reg [kO 13 (.mv (kI 0))])
 (.block 6 (.loop (.seq (.seq (.reg [kM 70 13,kM 71 1,kO 72 (.bin .lss 3 (.t 70) (.t 71))])
 (.cond (.t 72) (.skip)
 (.exit 6)))
 (.seq (.block 7 (.drw drw91_0 [kM 75 6,kM 76 13,kM 77 6,kM 78 13,kO 79 (.ia 111 (.t 77) (.t 78)),kO 80 (.ld 22 (.t 79)),kM 81 11,kM 82 13,kO 83 (.ia 22 (.t 81) (.t 82)),
 kO 84 (.ld 25 (.t 83)),kO 85 (.bsl 22 1 [(0,.t 84)]),kO 86 (.bi .append [22,22] [.t 80,.t 85]),kO 87 (.ia 111 (.t 75) (.t 76)),
 kN (.st 22 (.t 87) (.t 86))]))
 (.reg [kM 73 13,kO 74 (.bin .add 3 (.t 73) (kI 1)),kM 13 74])))))))))))
 (.reg [kM 44 8,kO 45 (.bin .add 3 (.t 44) (kI 1)),kM 8 45]))))))
 (.seq (.reg [kM 88 6,kM 4 88,kO 5 (.mv (kI 0))])
 (.ret))))))
theorem b91:Body Try.prog 91 89 [4,5] k91:=⟨Enters.of Try.func91 (by kernel_rfl) (by kernel_rfl),_,_,Try.func91,rfl,by kernel_rfl,rfl,rfl⟩
def k92:KC:=
 .seq (.reg [kO 8 (.mv (.ns))])
 (.seq (.reg [kM 12 0,kM 13 1,kM 14 2,kM 15 3,kO 16 (.bld 68 [(0,.t 12),(1,.t 13),(2,.t 14),(3,.t 15)]),kO 17 (.call (.fn 37) [.t 16]),kM 11 17,
 kO 18 (.ex (.t 11) 0),kO 19 (.ex (.t 11) 1),kM 9 18,kM 10 19])
 (.seq (.reg [kM 20 9,kM 8 20])
 (.ret)))
theorem b92:Body Try.prog 92 21 [8] k92:=⟨Enters.of Try.func92 (by kernel_rfl) (by kernel_rfl),_,_,Try.func92,rfl,by kernel_rfl,rfl,rfl⟩
def k93:KC:=
 .seq (.reg [kO 1 (.box 50 (.t 0)),kO 2 (.mv (.ns))])
 (.seq (.seq (.reg [kO 5 (.ld 50 (.t 1)),kO 6 (.call (.fn 90) [.t 5]),kO 7 (.un .not (.t 6))])
 (.cond (.t 7) (.seq (.reg [kO 2 (.mv (.ns))])
 (.ret))
 (.skip)))
 (.seq (.reg [kO 8 (.bld 102 []),kO 9 (.box 102 (.t 8)),kM 3 9])
 (.seq (.reg [kM 10 3,kO 11 (.fa 50 (.t 1) 0),kO 12 (.ld 3 (.t 11)),kO 13 (.call (.fn 63) [.t 10,.t 12])])
 (.seq (.reg [kM 14 3,kO 15 (.fa 50 (.t 1) 1),kO 16 (.ld 3 (.t 15)),kO 17 (.cvt 3 5 (.t 16)),kO 18 (.call (.fn 62) [.t 14,.t 17])])
 (.seq (.reg [kM 19 3,kO 20 (.fa 50 (.t 1) 2),kO 21 (.ld 3 (.t 20)),kO 22 (.cvt 3 5 (.t 21)),kO 23 (.call (.fn 62) [.t 19,.t 22])])
 (.seq (.reg [kM 24 3,kO 25 (.fa 50 (.t 1) 3),kO 26 (.ld 3 (.t 25)),kO 27 (.cvt 3 5 (.t 26)),kO 28 (.call (.fn 62) [.t 24,.t 27])])
 (.seq (.seq (.reg [kO 4 (.mv (kI 0))])
 (.block 0 (.loop (.seq (.seq (.reg [kM 29 4,kO 30 (.fa 50 (.t 1) 4),kO 31 (.ld 47 (.t 30)),kO 32 (.bi .len [47] [.t 31]),kO 33 (.bin .lss 3 (.t 29) (.t 32))])
 (.cond (.t 33) (.skip)
 (.exit 0)))
 (.seq (.block 1 (.reg [kM 36 3,kO 37 (.fa 50 (.t 1) 4),kO 38 (.ld 47 (.t 37)),kM 39 4,kO 40 (.ia 47 (.t 38) (.t 39)),kO 41 (.ld 3 (.t 40)),
 kO 42 (.call (.fn 63) [.t 36,.t 41])]))
 (.reg [kM 34 4,kO 35 (.bin .add 3 (.t 34) (kI 1)),kM 4 35]))))))
 (.seq (.reg [kM 43 3,kO 44 (.nc (.t 43)),kO 45 (.fa 102 (.t 44) 0),kO 46 (.ld 25 (.t 45)),kM 2 46])
 (.ret)))))))))
theorem b93:Body Try.prog 93 47 [2] k93:=⟨Enters.of Try.func93 (by kernel_rfl) (by kernel_rfl),_,_,Try.func93,rfl,by kernel_rfl,rfl,rfl⟩
noncomputable def drw94_0:Array Oper:=((Try.f94.body.map regs).getD []).getD 0 #[]
noncomputable def k94:KC:=
 .seq (.reg [kO 2 (.al 50),kO 3 (.mv (kI 0))])
 (.seq (.reg [kM 7 0,kO 8 (.call (.fn 143) [.t 7]),kM 4 8])
 (.seq (.reg [kM 9 4,kO 10 (.call (.fn 144) [.t 9]),kM 11 4,kO 12 (.call (.fn 145) [.t 11]),kO 13 (.cvt 5 3 (.t 12)),kM 14 4,kO 15 (.call (.fn 145) [.t 14]),
 kO 16 (.cvt 5 3 (.t 15)),kM 17 4,kO 18 (.call (.fn 145) [.t 17]),kO 19 (.cvt 5 3 (.t 18)),
 kO 20 (.bld 50 [(0,.t 10),(1,.t 13),(2,.t 16),(3,.t 19)]),kO 5 (.al 50),kN (.st 50 (.t 5) (.t 20))])
 (.seq (.block 0 (.loop (.seq (.seq (.reg [kM 21 4,kO 22 (.call (.fn 146) [.t 21]),kO 23 (.bin .geq 3 (.t 22) (kI 4)),kM 24 23,kT 25 24 (.fa 50 (.t 5) 4),kT 26 24 (.ld 47 (.t 25)),
 kT 27 24 (.bi .len [47] [.t 26]),kT 28 24 (.bin .lss 3 (.t 27) (kI 14)),kO 29 (.pk (.t 24) (.t 28) (.b false))])
 (.cond (.t 29) (.skip)
 (.exit 0)))
 (.block 1 (.drw drw94_0 [kO 30 (.fa 50 (.t 5) 4),kO 31 (.ld 47 (.t 30)),kM 32 4,kO 33 (.call (.fn 144) [.t 32]),kO 34 (.bsl 47 1 [(0,.t 33)]),
 kO 35 (.bi .append [47,47] [.t 31,.t 34]),kO 36 (.fa 50 (.t 5) 4),kN (.st 47 (.t 36) (.t 35))])))))
 (.seq (.reg [kO 37 (.ld 50 (.t 5)),kO 38 (.call (.fn 93) [.t 37]),kM 6 38])
 (.seq (.seq (.reg [kM 39 6,kO 40 (.bi .len [25] [.t 39]),kO 41 (.bin .eql 3 (.t 40) (kI 0)),kM 42 41,kG 43 42 (.mv (.t 6)),kG 44 42 (.cvt 25 9 (.t 43)),
 kG 45 42 (.mv (.t 0)),kG 46 42 (.cvt 25 9 (.t 45)),kG 47 42 (.bin .neq 9 (.t 44) (.t 46)),kO 48 (.pk (.t 42) (.b true) (.t 47))])
 (.cond (.t 48) (.seq (.reg [kO 49 (.bld 50 []),kN (.st 50 (.t 2) (.t 49)),kO 3 (.mv (kI 2))])
 (.ret))
 (.skip)))
 (.seq (.reg [kO 50 (.ld 50 (.t 5)),kN (.st 50 (.t 2) (.t 50)),kO 3 (.mv (kI 0))])
 (.ret)))))))
def k95:KC:=
 .seq (.reg [kO 1 (.box 50 (.t 0)),kO 2 (.mv (.b false))])
 (.seq (.seq (.reg [kO 6 (.fa 50 (.t 1) 0),kO 7 (.ld 3 (.t 6)),kO 8 (.call (.fn 147) [.t 7,.i .i64 1,.i .i64 1073741824]),kO 9 (.un .not (.t 8)),kM 10 9,
 kG 11 10 (.fa 50 (.t 1) 2),kG 12 10 (.ld 3 (.t 11)),kG 13 10 (.call (.fn 147) [.t 12,.i .i64 1,.i .i64 14]),kG 14 10 (.un .not (.t 13)),
 kO 15 (.pk (.t 10) (.b true) (.t 14)),kM 16 15,kG 17 16 (.fa 50 (.t 1) 3),kG 18 16 (.ld 3 (.t 17)),kG 19 16 (.fa 50 (.t 1) 2),
 kG 20 16 (.ld 3 (.t 19)),kG 21 16 (.bin .sub 3 (kI 14) (.t 20)),kG 22 16 (.call (.fn 147) [.t 18,.i .i64 1,.t 21]),kG 23 16 (.un .not (.t 22)),
 kO 24 (.pk (.t 16) (.b true) (.t 23))])
 (.cond (.t 24) (.seq (.reg [kO 2 (.mv (.b false))])
 (.ret))
 (.skip)))
 (.seq (.reg [kO 25 (.fa 50 (.t 1) 2),kO 26 (.ld 3 (.t 25)),kO 27 (.fa 50 (.t 1) 3),kO 28 (.ld 3 (.t 27)),kO 29 (.bin .add 3 (.t 26) (.t 28)),kM 3 29])
 (.seq (.seq (.reg [kO 30 (.fa 50 (.t 1) 1),kO 31 (.ld 3 (.t 30)),kM 32 3,kO 33 (.bin .sub 3 (.t 32) (kI 1)),kO 34 (.call (.fn 147) [.t 31,.i .i64 0,.t 33]),
 kO 35 (.un .not (.t 34)),kM 36 35,kG 37 36 (.fa 50 (.t 1) 4),kG 38 36 (.ld 47 (.t 37)),kG 39 36 (.bi .len [47] [.t 38]),kG 40 36 (.mv (.t 3)),
 kG 41 36 (.bin .neq 3 (.t 39) (.t 40)),kO 42 (.pk (.t 36) (.b true) (.t 41))])
 (.cond (.t 42) (.seq (.reg [kO 2 (.mv (.b false))])
 (.ret))
 (.skip)))
 (.seq (.seq (.reg [kO 43 (.fa 50 (.t 1) 4),kO 44 (.ld 47 (.t 43)),kO 45 (.bi .len [47] [.t 44]),kO 46 (.mv (kI 0))])
 (.block 0 (.loop (.seq (.reg [kO 47 (.bin .lss 3 (.t 46) (.t 45))])
 (.seq (.cond (.t 47) (.skip)
 (.exit 0))
 (.seq (.block 1 (.seq (.reg [kM 48 46,kO 49 (.ia 47 (.t 44) (.t 46)),kO 50 (.ld 3 (.t 49)),kM 4 48,kM 5 50])
 (.seq (.reg [kM 51 5,kO 52 (.call (.fn 147) [.t 51,.i .i64 1,.i .i64 2147483647]),kO 53 (.un .not (.t 52)),kM 54 53,kG 55 54 (.fa 50 (.t 1) 4),
 kG 56 54 (.ld 47 (.t 55)),kG 57 54 (.mv (.t 4)),kG 58 54 (.sli 47 (.t 56) none (some (.t 57)) none),kG 59 54 (.mv (.t 5)),
 kG 60 54 (.call (.fn 76) [.t 58,.t 59]),kO 61 (.pk (.t 54) (.b true) (.t 60))])
 (.cond (.t 61) (.seq (.reg [kO 2 (.mv (.b false))])
 (.ret))
 (.skip)))))
 (.reg [kO 62 (.bin .add 3 (.t 46) (kI 1)),kM 46 62])))))))
 (.seq (.reg [kO 2 (.mv (.b true))])
 (.ret))))))
theorem b95:Body Try.prog 95 63 [2] k95:=⟨Enters.of Try.func95 (by kernel_rfl) (by kernel_rfl),_,_,Try.func95,rfl,by kernel_rfl,rfl,rfl⟩
def k96:KC:=
 .seq (.reg [kO 4 (.mv (kI 0))])
 (.seq (.seq (.reg [kM 6 0,kO 7 (.bi .len [47] [.t 6]),kO 8 (.mv (kI 0))])
 (.block 0 (.loop (.seq (.reg [kO 9 (.bin .lss 3 (.t 8) (.t 7))])
 (.seq (.cond (.t 9) (.skip)
 (.exit 0))
 (.seq (.block 1 (.seq (.reg [kM 10 8,kM 5 10])
 (.seq (.reg [kM 11 1,kM 12 0,kM 13 5,kO 14 (.ia 47 (.t 12) (.t 13)),kO 15 (.ld 3 (.t 14)),kO 16 (.bin .eql 3 (.t 11) (.t 15))])
 (.cond (.t 16) (.seq (.reg [kM 17 5,kM 4 17])
 (.ret))
 (.skip)))))
 (.reg [kO 18 (.bin .add 3 (.t 8) (kI 1)),kM 8 18])))))))
 (.seq (.reg [kO 4 (.mv (kI (-1)))])
 (.ret)))
theorem b96:Body Try.prog 96 19 [4] k96:=⟨Enters.of Try.func96 (by kernel_rfl) (by kernel_rfl),_,_,Try.func96,rfl,by kernel_rfl,rfl,rfl⟩
def k97:KC:=
 .seq (.reg [kO 3 (.box 3 (.t 1)),kO 4 (.al 54)])
 (.seq (.reg [kM 6 0,kO 7 (.mf 148 [.t 3]),kO 8 (.call (.fn 56) [.t 6,.t 7]),kM 5 8])
 (.seq (.seq (.reg [kM 9 5,kO 10 (.bin .lss 3 (.t 9) (kI 0))])
 (.cond (.t 10) (.seq (.reg [kO 11 (.ld 3 (.t 3)),kO 12 (.bld 54 [(0,.t 11),(3,.b true)]),kN (.st 54 (.t 4) (.t 12))])
 (.ret))
 (.skip)))
 (.seq (.reg [kM 13 0,kM 14 5,kO 15 (.ia 48 (.t 13) (.t 14)),kO 16 (.ld 54 (.t 15)),kN (.st 54 (.t 4) (.t 16))])
 (.ret))))
def k98:KC:=
 .seq (.reg [kO 4 (.mv (.b false))])
 (.seq (.reg [kM 5 0,kM 6 1,kO 7 (.call (.fn 149) [.t 5,.t 6]),kO 8 (.bin .geq 3 (.t 7) (kI 0)),kM 4 8])
 (.ret))
theorem b98:Body Try.prog 98 9 [4] k98:=⟨Enters.of Try.func98 (by kernel_rfl) (by kernel_rfl),_,_,Try.func98,rfl,by kernel_rfl,rfl,rfl⟩
def k99:KC:=
 .seq (.reg [kO 2 (.mv (.b false))])
 (.seq (.reg [kM 3 0,kO 4 (.bin .neq 5 (.t 3) (.i .u8 0)),kM 2 4])
 (.ret))
theorem b99:Body Try.prog 99 5 [2] k99:=⟨Enters.of Try.func99 (by kernel_rfl) (by kernel_rfl),_,_,Try.func99,rfl,by kernel_rfl,rfl,rfl⟩
def k100:KC:=
 .seq (.reg [kO 2 (.box 54 (.t 0)),kO 4 (.mv (.ns))])
 (.seq (.seq (.reg [kO 7 (.fa 54 (.t 2) 3),kO 8 (.ld 4 (.t 7)),kO 9 (.un .not (.t 8)),kM 10 9,kT 11 10 (.mv (.t 1)),kT 12 10 (.fa 54 (.t 2) 2),
 kT 13 10 (.ld 22 (.t 12)),kT 14 10 (.bi .len [22] [.t 13]),kT 15 10 (.bin .geq 3 (.t 11) (.t 14)),kO 16 (.pk (.t 10) (.t 15) (.b false))])
 (.cond (.t 16) (.seq (.reg [kO 17 (.mk 25 (kI 79) (kI 79)),kM 4 17])
 (.ret))
 (.skip)))
 (.seq (.seq (.reg [kO 19 (.ld 54 (.t 2)),kM 20 1,kO 21 (.call (.fn 115) [.t 19,.t 20]),kM 18 21,kO 22 (.ex (.t 18) 0),kO 23 (.ex (.t 18) 1),kO 5 (.al 68),
 kN (.st 68 (.t 5) (.t 22)),kM 6 23])
 (.seq (.reg [kM 24 6,kO 25 (.un .not (.t 24)),kM 26 25,kG 27 26 (.fa 54 (.t 2) 2),kG 28 26 (.ld 22 (.t 27)),kG 29 26 (.mv (.t 1)),
 kG 30 26 (.ia 22 (.t 28) (.t 29)),kG 31 26 (.ld 25 (.t 30)),kG 32 26 (.bi .len [25] [.t 31]),kG 33 26 (.bin .neq 3 (.t 32) (kI 79)),
 kO 34 (.pk (.t 26) (.b true) (.t 33))])
 (.cond (.t 34) (.seq (.reg [kO 4 (.mv (.ns))])
 (.ret))
 (.skip))))
 (.seq (.reg [kO 35 (.fa 54 (.t 2) 2),kO 36 (.ld 22 (.t 35)),kM 37 1,kO 38 (.ia 22 (.t 36) (.t 37)),kO 39 (.ld 25 (.t 38)),kM 4 39])
 (.ret))))
theorem b100:Body Try.prog 100 40 [4] k100:=⟨Enters.of Try.func100 (by kernel_rfl) (by kernel_rfl),_,_,Try.func100,rfl,by kernel_rfl,rfl,rfl⟩
def k101:KC:=
 .seq (.reg [kO 2 (.box 54 (.t 0)),kO 4 (.mv (.ns))])
 (.seq (.reg [kO 8 (.ld 54 (.t 2)),kM 9 1,kO 10 (.bin .add 3 (.t 9) (kI 1)),kO 11 (.call (.fn 115) [.t 8,.t 10]),kM 7 11,kO 12 (.ex (.t 7) 0),
 kO 13 (.ex (.t 7) 1),kO 5 (.al 68),kN (.st 68 (.t 5) (.t 12)),kM 6 13])
 (.seq (.seq (.reg [kM 14 6,kO 15 (.un .not (.t 14)),kM 16 15,kG 17 16 (.fa 68 (.t 5) 0),kG 18 16 (.ld 3 (.t 17)),kG 19 16 (.bin .neq 3 (.t 18) (kI 6)),
 kO 20 (.pk (.t 16) (.b true) (.t 19)),kM 21 20,kG 22 21 (.fa 68 (.t 5) 3),kG 23 21 (.ld 25 (.t 22)),kG 24 21 (.bi .len [25] [.t 23]),
 kG 25 21 (.bin .neq 3 (.t 24) (kI 79)),kO 26 (.pk (.t 21) (.b true) (.t 25))])
 (.cond (.t 26) (.seq (.reg [kO 4 (.mv (.ns))])
 (.ret))
 (.skip)))
 (.seq (.reg [kO 27 (.fa 68 (.t 5) 3),kO 28 (.ld 25 (.t 27)),kM 4 28])
 (.ret))))
theorem b101:Body Try.prog 101 29 [4] k101:=⟨Enters.of Try.func101 (by kernel_rfl) (by kernel_rfl),_,_,Try.func101,rfl,by kernel_rfl,rfl,rfl⟩
def k102:KC:=
 .seq (.reg [kO 4 (.mv (.i .u32 0))])
 (.seq (.reg [kM 8 0,kO 9 (.bin .xor 106 (.t 8) (.i .u32 4294967295)),kM 5 9])
 (.seq (.seq (.reg [kO 6 (.mv (kI 0))])
 (.block 0 (.loop (.seq (.seq (.reg [kM 10 6,kM 11 1,kO 12 (.bi .len [25] [.t 11]),kO 13 (.bin .lss 3 (.t 10) (.t 12))])
 (.cond (.t 13) (.skip)
 (.exit 0)))
 (.seq (.block 1 (.seq (.reg [kM 16 5,kM 17 1,kM 18 6,kO 19 (.ia 25 (.t 17) (.t 18)),kO 20 (.ld 5 (.t 19)),kO 21 (.cvt 5 106 (.t 20)),kO 22 (.bin .xor 106 (.t 16) (.t 21)),
 kM 5 22])
 (.seq (.reg [kO 7 (.mv (kI 0))])
 (.block 2 (.loop (.seq (.seq (.reg [kM 23 7,kO 24 (.bin .lss 3 (.t 23) (kI 8))])
 (.cond (.t 24) (.skip)
 (.exit 2)))
 (.seq (.block 3 (.seq (.reg [kM 27 5,kO 28 (.bin .and 106 (.t 27) (.i .u32 1)),kO 29 (.bin .eql 106 (.t 28) (.i .u32 1))])
 (.cond (.t 29) (.reg [kM 30 5,kO 31 (.bin .shr 106 (.t 30) (.i .u64 1)),kO 32 (.bin .xor 106 (.t 31) (.i .u32 2197175160)),kM 5 32])
 (.reg [kM 33 5,kO 34 (.bin .shr 106 (.t 33) (.i .u64 1)),kM 5 34]))))
 (.reg [kM 25 7,kO 26 (.bin .add 3 (.t 25) (kI 1)),kM 7 26]))))))))
 (.reg [kM 14 6,kO 15 (.bin .add 3 (.t 14) (kI 1)),kM 6 15]))))))
 (.seq (.reg [kM 35 5,kO 36 (.bin .xor 106 (.t 35) (.i .u32 4294967295)),kM 4 36])
 (.ret))))
theorem b102:Body Try.prog 102 37 [4] k102:=⟨Enters.of Try.func102 (by kernel_rfl) (by kernel_rfl),_,_,Try.func102,rfl,by kernel_rfl,rfl,rfl⟩
def k115:KC:=
 .seq (.reg [kO 2 (.box 54 (.t 0)),kO 4 (.al 68),kO 5 (.mv (.b false))])
 (.seq (.seq (.reg [kO 8 (.fa 54 (.t 2) 3),kO 9 (.ld 4 (.t 8)),kM 10 9,kG 11 10 (.mv (.t 1)),kG 12 10 (.bin .lss 3 (.t 11) (kI 0)),
 kO 13 (.pk (.t 10) (.b true) (.t 12)),kM 14 13,kG 15 14 (.mv (.t 1)),kG 16 14 (.fa 54 (.t 2) 2),kG 17 14 (.ld 22 (.t 16)),
 kG 18 14 (.bi .len [22] [.t 17]),kG 19 14 (.bin .geq 3 (.t 15) (.t 18)),kO 20 (.pk (.t 14) (.b true) (.t 19))])
 (.cond (.t 20) (.seq (.reg [kO 21 (.bld 68 []),kN (.st 68 (.t 4) (.t 21)),kO 5 (.mv (.b false))])
 (.ret))
 (.skip)))
 (.seq (.reg [kO 23 (.fa 54 (.t 2) 2),kO 24 (.ld 22 (.t 23)),kM 25 1,kO 26 (.ia 22 (.t 24) (.t 25)),kO 27 (.ld 25 (.t 26)),kO 28 (.call (.fn 156) [.t 27]),
 kM 22 28,kO 29 (.ex (.t 22) 0),kO 30 (.ex (.t 22) 1),kO 6 (.al 68),kN (.st 68 (.t 6) (.t 29)),kM 7 30])
 (.seq (.seq (.reg [kM 31 7,kO 32 (.bin .neq 26 (.t 31) (kI 0)),kM 33 32,kG 34 33 (.fa 68 (.t 6) 1),kG 35 33 (.ld 3 (.t 34)),kG 36 33 (.fa 54 (.t 2) 0),
 kG 37 33 (.ld 3 (.t 36)),kG 38 33 (.bin .neq 3 (.t 35) (.t 37)),kO 39 (.pk (.t 33) (.b true) (.t 38)),kM 40 39,kG 41 40 (.fa 68 (.t 6) 2),
 kG 42 40 (.ld 3 (.t 41)),kG 43 40 (.mv (.t 1)),kG 44 40 (.bin .neq 3 (.t 42) (.t 43)),kO 45 (.pk (.t 40) (.b true) (.t 44))])
 (.cond (.t 45) (.seq (.reg [kO 46 (.bld 68 []),kN (.st 68 (.t 4) (.t 46)),kO 5 (.mv (.b false))])
 (.ret))
 (.skip)))
 (.seq (.reg [kO 47 (.ld 68 (.t 6)),kN (.st 68 (.t 4) (.t 47)),kO 5 (.mv (.b true))])
 (.ret)))))
noncomputable def drw116_0:Array Oper:=((Try.f116.body.map regs).getD []).getD 0 #[]
noncomputable def k116:KC:=
 .seq (.reg [kO 2 (.al 50),kO 3 (.mv (kI 0))])
 (.seq (.reg [kM 8 0,kO 9 (.call (.fn 157) [.t 8]),kM 4 9])
 (.seq (.reg [kM 10 4,kO 11 (.call (.fn 158) [.t 10]),kO 12 (.bld 50 [(0,.t 11)]),kO 5 (.al 50),kN (.st 50 (.t 5) (.t 12))])
 (.seq (.seq (.reg [kO 13 (.fa 50 (.t 5) 1),kO 14 (.fa 50 (.t 5) 2),kO 15 (.fa 50 (.t 5) 3),kO 16 (.bsl 195 3 [(0,.t 13),(1,.t 14),(2,.t 15)]),
 kO 17 (.bi .len [195] [.t 16]),kO 18 (.mv (kI 0))])
 (.block 0 (.loop (.seq (.reg [kO 19 (.bin .lss 3 (.t 18) (.t 17))])
 (.seq (.cond (.t 19) (.skip)
 (.exit 0))
 (.seq (.block 1 (.seq (.reg [kO 20 (.ia 195 (.t 16) (.t 18)),kO 21 (.ld 194 (.t 20)),kM 7 21])
 (.reg [kM 22 7,kM 23 4,kO 24 (.call (.fn 159) [.t 23]),kO 25 (.cvt 5 3 (.t 24)),kO 26 (.nc (.t 22)),kN (.st 3 (.t 26) (.t 25))])))
 (.reg [kO 27 (.bin .add 3 (.t 18) (kI 1)),kM 18 27])))))))
 (.seq (.block 2 (.loop (.seq (.seq (.reg [kM 28 4,kO 29 (.call (.fn 160) [.t 28]),kO 30 (.bin .gtr 3 (.t 29) (kI 0))])
 (.cond (.t 30) (.skip)
 (.exit 2)))
 (.block 3 (.drw drw116_0 [kO 31 (.fa 50 (.t 5) 4),kO 32 (.ld 47 (.t 31)),kM 33 4,kO 34 (.call (.fn 158) [.t 33]),kO 35 (.bsl 47 1 [(0,.t 34)]),
 kO 36 (.bi .append [47,47] [.t 32,.t 35]),kO 37 (.fa 50 (.t 5) 4),kN (.st 47 (.t 37) (.t 36))])))))
 (.seq (.seq (.reg [kM 38 4,kO 39 (.call (.fn 161) [.t 38]),kM 40 39,kG 41 40 (.ld 50 (.t 5)),kG 42 40 (.call (.fn 95) [.t 41]),kG 43 40 (.un .not (.t 42)),
 kO 44 (.pk (.t 40) (.b true) (.t 43))])
 (.cond (.t 44) (.seq (.reg [kO 45 (.bld 50 []),kN (.st 50 (.t 2) (.t 45)),kO 3 (.mv (kI 2))])
 (.ret))
 (.skip)))
 (.seq (.reg [kO 46 (.ld 50 (.t 5)),kN (.st 50 (.t 2) (.t 46)),kO 3 (.mv (kI 0))])
 (.ret)))))))
def k120:KC:=
 .seq (.reg [kO 1 (.box 22 (.t 0)),kO 2 (.mv (.b false))])
 (.seq (.seq (.reg [kO 3 (.ld 22 (.t 1)),kO 4 (.bi .len [22] [.t 3]),kO 5 (.bin .lss 3 (.t 4) (kI 1)),kM 6 5,kG 7 6 (.ld 22 (.t 1)),kG 8 6 (.bi .len [22] [.t 7]),
 kG 9 6 (.bin .gtr 3 (.t 8) (kI 255)),kO 10 (.pk (.t 6) (.b true) (.t 9)),kM 11 10,kG 12 11 (.ld 22 (.t 1)),kG 13 11 (.ia 22 (.t 12) (kI 0)),
 kG 14 11 (.ld 25 (.t 13)),kG 15 11 (.bi .len [25] [.t 14]),kG 16 11 (.bin .lss 3 (.t 15) (kI 1)),kO 17 (.pk (.t 11) (.b true) (.t 16)),kM 18 17,
 kG 19 18 (.ld 22 (.t 1)),kG 20 18 (.ia 22 (.t 19) (kI 0)),kG 21 18 (.ld 25 (.t 20)),kG 22 18 (.bi .len [25] [.t 21]),
 kG 23 18 (.bin .gtr 3 (.t 22) (kI 255)),kO 24 (.pk (.t 18) (.b true) (.t 23))])
 (.cond (.t 24) (.seq (.reg [kO 2 (.mv (.b false))])
 (.ret))
 (.skip)))
 (.seq (.reg [kO 25 (.ld 22 (.t 1)),kO 26 (.mf 170 [.t 1]),kO 27 (.call (.fn 80) [.t 25,.t 26]),kO 28 (.un .not (.t 27)),kM 2 28])
 (.ret)))
theorem b120:Body Try.prog 120 29 [2] k120:=⟨Enters.of Try.func120 (by kernel_rfl) (by kernel_rfl),_,_,Try.func120,rfl,by kernel_rfl,rfl,rfl⟩
def k121:KC:=
 .seq (.reg [kO 2 (.mv (.ns))])
 (.seq (.reg [kO 3 (.mv (.ns))])
 (.seq (.seq (.reg [kM 7 0,kO 8 (.bi .len [22] [.t 7]),kO 9 (.mv (kI 0))])
 (.block 0 (.loop (.seq (.reg [kO 10 (.bin .lss 3 (.t 9) (.t 8))])
 (.seq (.cond (.t 10) (.skip)
 (.exit 0))
 (.seq (.block 1 (.seq (.reg [kM 11 9,kO 12 (.ia 22 (.t 7) (.t 9)),kO 13 (.ld 25 (.t 12)),kM 4 11,kM 5 13])
 (.seq (.reg [kM 14 0,kO 15 (.bi .len [22] [.t 14]),kO 16 (.mk 25 (.t 15) (.t 15)),kM 6 16])
 (.seq (.reg [kM 17 6,kM 18 4,kO 19 (.ia 25 (.t 17) (.t 18)),kN (.st 5 (.t 19) (.i .u8 1))])
 (.reg [kM 20 3,kM 21 5,kM 22 6,kO 23 (.bsl 22 2 [(0,.t 21),(1,.t 22)]),kO 24 (.call (.fn 171) [.t 23]),kO 25 (.bsl 22 1 [(0,.t 24)]),
 kO 26 (.bi .append [22,22] [.t 20,.t 25]),kM 3 26])))))
 (.reg [kO 27 (.bin .add 3 (.t 9) (kI 1)),kM 9 27])))))))
 (.seq (.reg [kM 28 3,kM 2 28])
 (.ret))))
theorem b121:Body Try.prog 121 29 [2] k121:=⟨Enters.of Try.func121 (by kernel_rfl) (by kernel_rfl),_,_,Try.func121,rfl,by kernel_rfl,rfl,rfl⟩
def k122:KC:=
 .seq (.reg [kO 4 (.mv (kI 0))])
 (.seq (.seq (.reg [kM 6 0,kO 7 (.bi .len [22] [.t 6]),kO 8 (.mv (kI 0))])
 (.block 0 (.loop (.seq (.reg [kO 9 (.bin .lss 3 (.t 8) (.t 7))])
 (.seq (.cond (.t 9) (.skip)
 (.exit 0))
 (.seq (.block 1 (.seq (.reg [kM 10 8,kM 5 10])
 (.seq (.reg [kM 11 1,kM 12 0,kM 13 5,kO 14 (.ia 22 (.t 12) (.t 13)),kO 15 (.ld 25 (.t 14)),kO 16 (.call (.t 11) [.t 15])])
 (.cond (.t 16) (.seq (.reg [kM 17 5,kM 4 17])
 (.ret))
 (.skip)))))
 (.reg [kO 18 (.bin .add 3 (.t 8) (kI 1)),kM 8 18])))))))
 (.seq (.reg [kO 4 (.mv (kI (-1)))])
 (.ret)))
theorem b122:Body Try.prog 122 19 [4] k122:=⟨Enters.of Try.func122 (by kernel_rfl) (by kernel_rfl),_,_,Try.func122,rfl,by kernel_rfl,rfl,rfl⟩
def k123:KC:=
 .seq (.reg [kO 3 (.mv (.b false))])
 (.seq (.reg [kM 4 0,kO 5 (.ld 3 (.t 1)),kO 6 (.ia 25 (.t 4) (.t 5)),kO 7 (.ld 5 (.t 6)),kO 8 (.bin .neq 5 (.t 7) (.i .u8 0)),kM 3 8])
 (.ret))
theorem b123:Body Try.prog 123 9 [3] k123:=⟨Enters.of Try.func123 (by kernel_rfl) (by kernel_rfl),_,_,Try.func123,rfl,by kernel_rfl,rfl,rfl⟩
def k124:KC:=
 .seq (.reg [kO 4 (.mv (.ns))])
 (.seq (.reg [kM 8 0,kO 9 (.bi .len [25] [.t 8]),kO 10 (.mk 25 (.t 9) (.t 9)),kM 5 10])
 (.seq (.seq (.reg [kM 11 0,kO 12 (.bi .len [25] [.t 11]),kO 13 (.mv (kI 0))])
 (.block 0 (.loop (.seq (.reg [kO 14 (.bin .lss 3 (.t 13) (.t 12))])
 (.seq (.cond (.t 14) (.skip)
 (.exit 0))
 (.seq (.block 1 (.seq (.reg [kM 15 13,kO 16 (.ia 25 (.t 11) (.t 13)),kO 17 (.ld 5 (.t 16)),kM 6 15,kM 7 17])
 (.reg [kM 18 5,kM 19 6,kM 20 7,kM 21 1,kO 22 (.call (.fn 172) [.t 20,.t 21]),kO 23 (.ia 25 (.t 18) (.t 19)),kN (.st 5 (.t 23) (.t 22))])))
 (.reg [kO 24 (.bin .add 3 (.t 13) (kI 1)),kM 13 24])))))))
 (.seq (.reg [kM 25 5,kM 4 25])
 (.ret))))
theorem b124:Body Try.prog 124 26 [4] k124:=⟨Enters.of Try.func124 (by kernel_rfl) (by kernel_rfl),_,_,Try.func124,rfl,by kernel_rfl,rfl,rfl⟩
noncomputable def drw125_0:Array Oper:=((Try.f125.body.map regs).getD []).getD 0 #[]
noncomputable def k125:KC:=
 .seq (.reg [kO 4 (.mv (.ns))])
 (.seq (.reg [kM 7 0,kO 8 (.bi .len [25] [.t 7]),kO 9 (.mk 25 (.t 8) (.t 8)),kM 5 9])
 (.seq (.seq (.reg [kM 10 0,kO 11 (.bi .len [25] [.t 10]),kO 12 (.mv (kI 0))])
 (.block 0 (.loop (.seq (.reg [kO 13 (.bin .lss 3 (.t 12) (.t 11))])
 (.seq (.cond (.t 13) (.skip)
 (.exit 0))
 (.seq (.block 1 (.seq (.reg [kM 14 12,kM 6 14])
 (.drw drw125_0 [kM 15 5,kM 16 6,kM 17 0,kM 18 6,kO 19 (.ia 25 (.t 17) (.t 18)),kO 20 (.ld 5 (.t 19)),kM 21 1,kM 22 6,kO 23 (.ia 25 (.t 21) (.t 22)),
 kO 24 (.ld 5 (.t 23)),kO 25 (.call (.fn 83) [.t 20,.t 24]),kO 26 (.ia 25 (.t 15) (.t 16)),kN (.st 5 (.t 26) (.t 25))])))
 (.reg [kO 27 (.bin .add 3 (.t 12) (kI 1)),kM 12 27])))))))
 (.seq (.reg [kM 28 5,kM 4 28])
 (.ret))))
theorem b125:Body Try.prog 125 29 [4] k125:=⟨Enters.of Try.func125 (by kernel_rfl) (by kernel_rfl),_,_,Try.func125,rfl,by kernel_rfl,rfl,rfl⟩
def k126:KC:=
 .seq (.reg [kO 4 (.mv (.i .u8 0))])
 (.seq (.reg [kO 5 (.mv (.i .u8 1))])
 (.seq (.block 0 (.loop (.seq (.seq (.reg [kM 6 1,kO 7 (.bin .gtr 3 (.t 6) (kI 0))])
 (.cond (.t 7) (.skip)
 (.exit 0)))
 (.seq (.block 1 (.seq (.seq (.reg [kM 10 1,kO 11 (.bin .and 3 (.t 10) (kI 1)),kO 12 (.bin .eql 3 (.t 11) (kI 1))])
 (.cond (.t 12) (.reg [kM 13 5,kM 14 0,kO 15 (.call (.fn 172) [.t 13,.t 14]),kM 5 15])
 (.skip)))
 (.reg [kM 16 0,kM 17 0,kO 18 (.call (.fn 172) [.t 16,.t 17]),kM 0 18])))
 (.reg [kM 8 1,kO 9 (.bin .shr 3 (.t 8) (.i .u64 1)),kM 1 9])))))
 (.seq (.reg [kM 19 5,kM 4 19])
 (.ret))))
theorem b126:Body Try.prog 126 20 [4] k126:=⟨Enters.of Try.func126 (by kernel_rfl) (by kernel_rfl),_,_,Try.func126,rfl,by kernel_rfl,rfl,rfl⟩
noncomputable def drw127_0:Array Oper:=((Try.f127.body.map regs).getD []).getD 0 #[]
noncomputable def k127:KC:=
 .seq (.reg [kO 4 (.mv (.ns))])
 (.seq (.reg [kM 10 0,kO 11 (.bi .len [22] [.t 10]),kO 12 (.mk 25 (.t 11) (.t 11)),kM 5 12])
 (.seq (.seq (.reg [kM 13 0,kO 14 (.bi .len [22] [.t 13]),kO 15 (.mv (kI 0))])
 (.block 0 (.loop (.seq (.reg [kO 16 (.bin .lss 3 (.t 15) (.t 14))])
 (.seq (.cond (.t 16) (.skip)
 (.exit 0))
 (.seq (.block 1 (.seq (.reg [kM 17 15,kO 18 (.ia 22 (.t 13) (.t 15)),kO 19 (.ld 25 (.t 18)),kM 6 17,kM 7 19])
 (.seq (.reg [kM 20 7,kO 21 (.bi .len [25] [.t 20]),kO 22 (.mv (kI 0))])
 (.block 2 (.loop (.seq (.reg [kO 23 (.bin .lss 3 (.t 22) (.t 21))])
 (.seq (.cond (.t 23) (.skip)
 (.exit 2))
 (.seq (.block 3 (.seq (.reg [kM 24 22,kO 25 (.ia 25 (.t 20) (.t 22)),kO 26 (.ld 5 (.t 25)),kM 8 24,kM 9 26])
 (.drw drw127_0 [kM 27 5,kM 28 6,kM 29 5,kM 30 6,kO 31 (.ia 25 (.t 29) (.t 30)),kO 32 (.ld 5 (.t 31)),kM 33 9,kM 34 1,kM 35 8,kO 36 (.ia 25 (.t 34) (.t 35)),
 kO 37 (.ld 5 (.t 36)),kO 38 (.call (.fn 172) [.t 33,.t 37]),kO 39 (.call (.fn 83) [.t 32,.t 38]),kO 40 (.ia 25 (.t 27) (.t 28)),
 kN (.st 5 (.t 40) (.t 39))])))
 (.reg [kO 41 (.bin .add 3 (.t 22) (kI 1)),kM 22 41])))))))))
 (.reg [kO 42 (.bin .add 3 (.t 15) (kI 1)),kM 15 42])))))))
 (.seq (.reg [kM 43 5,kM 4 43])
 (.ret))))
theorem b127:Body Try.prog 127 44 [4] k127:=⟨Enters.of Try.func127 (by kernel_rfl) (by kernel_rfl),_,_,Try.func127,rfl,by kernel_rfl,rfl,rfl⟩
def k140:KC:=
 .seq (.reg [kO 2 (.al 68),kO 3 (.mv (kI 0))])
 (.seq (.reg [kM 9 0,kO 10 (.call (.fn 143) [.t 9]),kM 4 10])
 (.seq (.reg [kM 11 4,kO 12 (.call (.fn 145) [.t 11]),kO 13 (.cvt 5 3 (.t 12)),kM 14 4,kO 15 (.call (.fn 144) [.t 14]),kM 16 4,
 kO 17 (.call (.fn 144) [.t 16]),kO 18 (.bld 68 [(0,.t 13),(1,.t 15),(2,.t 17)]),kO 5 (.al 68),kN (.st 68 (.t 5) (.t 18))])
 (.seq (.reg [kM 19 4,kO 20 (.call (.fn 145) [.t 19]),kO 21 (.cvt 5 3 (.t 20)),kO 22 (.bin .mul 3 (kI 256) (.t 21)),kM 23 4,kO 24 (.call (.fn 145) [.t 23]),
 kO 25 (.cvt 5 3 (.t 24)),kO 26 (.bin .add 3 (.t 22) (.t 25)),kM 6 26])
 (.seq (.seq (.reg [kM 27 4,kO 28 (.call (.fn 179) [.t 27]),kM 29 28,kG 30 29 (.mv (.t 6)),kG 31 29 (.mv (.t 4)),kG 32 29 (.call (.fn 146) [.t 31]),
 kG 33 29 (.bin .gtr 3 (.t 30) (.t 32)),kO 34 (.pk (.t 29) (.b true) (.t 33))])
 (.cond (.t 34) (.seq (.reg [kO 35 (.bld 68 []),kN (.st 68 (.t 2) (.t 35)),kO 3 (.mv (kI 2))])
 (.ret))
 (.skip)))
 (.seq (.reg [kM 36 4,kM 37 6,kO 38 (.call (.fn 180) [.t 36,.t 37]),kO 39 (.bi .append [25,25] [.ns,.t 38]),kO 40 (.fa 68 (.t 5) 3),
 kN (.st 25 (.t 40) (.t 39))])
 (.seq (.reg [kO 42 (.ld 68 (.t 5)),kO 43 (.call (.fn 37) [.t 42]),kM 41 43,kO 44 (.ex (.t 41) 0),kO 45 (.ex (.t 41) 1),kM 7 44,kM 8 45])
 (.seq (.seq (.reg [kM 46 8,kO 47 (.bin .neq 3 (.t 46) (kI 0)),kM 48 47,kG 49 48 (.mv (.t 7)),kG 50 48 (.cvt 25 9 (.t 49)),kG 51 48 (.mv (.t 0)),
 kG 52 48 (.cvt 25 9 (.t 51)),kG 53 48 (.bin .neq 9 (.t 50) (.t 52)),kO 54 (.pk (.t 48) (.b true) (.t 53))])
 (.cond (.t 54) (.seq (.reg [kO 55 (.bld 68 []),kN (.st 68 (.t 2) (.t 55)),kO 3 (.mv (kI 2))])
 (.ret))
 (.skip)))
 (.seq (.reg [kO 56 (.ld 68 (.t 5)),kN (.st 68 (.t 2) (.t 56)),kO 3 (.mv (kI 0))])
 (.ret)))))))))
def k141:KC:=
 .seq (.reg [kO 4 (.mv (.ns))])
 (.seq (.reg [kO 5 (.mv (.ns))])
 (.seq (.seq (.reg [kO 6 (.mv (kI 0))])
 (.block 0 (.loop (.seq (.seq (.reg [kM 7 6,kM 8 0,kO 9 (.bi .len [48] [.t 8]),kO 10 (.bin .lss 3 (.t 7) (.t 9))])
 (.cond (.t 10) (.skip)
 (.exit 0)))
 (.seq (.block 1 (.block 2 (.seq (.reg [kM 17 0,kM 18 6,kO 19 (.ia 48 (.t 17) (.t 18)),kO 20 (.fa 54 (.t 19) 3),kO 21 (.ld 4 (.t 20)),kM 22 21,kG 23 22 (.mv (.t 1)),
 kG 24 22 (.bin .lss 3 (.t 23) (kI 0)),kO 25 (.pk (.t 22) (.b true) (.t 24)),kM 26 25,kG 27 26 (.mv (.t 1)),kG 28 26 (.mv (.t 0)),
 kG 29 26 (.mv (.t 6)),kG 30 26 (.ia 48 (.t 28) (.t 29)),kG 31 26 (.fa 54 (.t 30) 2),kG 32 26 (.ld 22 (.t 31)),kG 33 26 (.bi .len [22] [.t 32]),
 kG 34 26 (.bin .geq 3 (.t 27) (.t 33)),kO 35 (.pk (.t 26) (.b true) (.t 34)),kM 16 35])
 (.cond (.t 16) (.reg [kM 36 5,kO 37 (.mk 25 (kI 79) (kI 79)),kO 38 (.bsl 22 1 [(0,.t 37)]),kO 39 (.bi .append [22,22] [.t 36,.t 38]),kM 5 39])
 (.seq (.reg [kM 41 0,kM 42 6,kO 43 (.ia 48 (.t 41) (.t 42)),kO 44 (.fa 54 (.t 43) 2),kO 45 (.ld 22 (.t 44)),kM 46 1,kO 47 (.ia 22 (.t 45) (.t 46)),
 kO 48 (.ld 25 (.t 47)),kO 49 (.bi .len [25] [.t 48]),kO 50 (.bin .eql 3 (.t 49) (kI 79)),kM 40 50])
 (.cond (.t 40) (.reg [kM 51 5,kM 52 0,kM 53 6,kO 54 (.ia 48 (.t 52) (.t 53)),kO 55 (.fa 54 (.t 54) 2),kO 56 (.ld 22 (.t 55)),kM 57 1,kO 58 (.ia 22 (.t 56) (.t 57)),
 kO 59 (.ld 25 (.t 58)),kO 60 (.bi .append [25,25] [.ns,.t 59]),kO 61 (.bsl 22 1 [(0,.t 60)]),kO 62 (.bi .append [22,22] [.t 51,.t 61]),
 kM 5 62])
 (.reg [kM 13 5,kO 14 (.bsl 22 1 [(0,.ns)]),kO 15 (.bi .append [22,22] [.t 13,.t 14]),kM 5 15])))))))
 (.reg [kM 11 6,kO 12 (.bin .add 3 (.t 11) (kI 1)),kM 6 12]))))))
 (.seq (.reg [kM 63 5,kM 4 63])
 (.ret))))
theorem b141:Body Try.prog 141 64 [4] k141:=⟨Enters.of Try.func141 (by kernel_rfl) (by kernel_rfl),_,_,Try.func141,rfl,by kernel_rfl,rfl,rfl⟩
noncomputable def drw142_0:Array Oper:=((Try.f142.body.map regs).getD []).getD 0 #[]
noncomputable def drw142_1:Array Oper:=((Try.f142.body.map regs).getD []).getD 1 #[]
noncomputable def k142:KC:=
 .seq (.reg [kO 4 (.mv (.ns)),kO 5 (.mv (kI 0))])
 (.seq (.seq (.reg [kM 14 0,kO 15 (.bi .len [22] [.t 14]),kO 16 (.bin .lss 3 (.t 15) (kI 1)),kM 17 16,kG 18 17 (.mv (.t 1)),kG 19 17 (.bin .lss 3 (.t 18) (kI 0)),
 kO 20 (.pk (.t 17) (.b true) (.t 19)),kM 21 20,kG 22 21 (.mv (.t 1)),kG 23 21 (.bin .gtr 3 (.t 22) (kI 255)),
 kO 24 (.pk (.t 21) (.b true) (.t 23)),kM 25 24,kG 26 25 (.mv (.t 0)),kG 27 25 (.bi .len [22] [.t 26]),kG 28 25 (.mv (.t 1)),
 kG 29 25 (.bin .add 3 (.t 27) (.t 28)),kG 30 25 (.bin .gtr 3 (.t 29) (kI 255)),kO 31 (.pk (.t 25) (.b true) (.t 30))])
 (.cond (.t 31) (.seq (.reg [kO 4 (.mv (.ns)),kO 5 (.mv (kI 1))])
 (.ret))
 (.skip)))
 (.seq (.seq (.reg [kO 6 (.mv (kI 1))])
 (.block 0 (.loop (.seq (.seq (.reg [kM 32 6,kM 33 0,kO 34 (.bi .len [22] [.t 33]),kO 35 (.bin .lss 3 (.t 32) (.t 34))])
 (.cond (.t 35) (.skip)
 (.exit 0)))
 (.seq (.block 1 (.seq (.drw drw142_0 [kM 38 0,kM 39 6,kO 40 (.ia 22 (.t 38) (.t 39)),kO 41 (.ld 25 (.t 40)),kO 42 (.bi .len [25] [.t 41]),kM 43 0,kO 44 (.ia 22 (.t 43) (kI 0)),
 kO 45 (.ld 25 (.t 44)),kO 46 (.bi .len [25] [.t 45]),kO 47 (.bin .neq 3 (.t 42) (.t 46))])
 (.cond (.t 47) (.seq (.reg [kO 4 (.mv (.ns)),kO 5 (.mv (kI 1))])
 (.ret))
 (.skip))))
 (.reg [kM 36 6,kO 37 (.bin .add 3 (.t 36) (kI 1)),kM 6 37]))))))
 (.seq (.seq (.reg [kM 48 1,kO 49 (.bin .eql 3 (.t 48) (kI 0))])
 (.cond (.t 49) (.seq (.reg [kO 4 (.mv (.ns)),kO 5 (.mv (kI 0))])
 (.ret))
 (.skip)))
 (.seq (.reg [kM 51 0,kO 52 (.bi .len [22] [.t 51]),kM 53 1,kO 54 (.call (.fn 181) [.t 52,.t 53]),kM 50 54,kO 55 (.ex (.t 50) 0),kO 56 (.ex (.t 50) 1),
 kM 7 55,kM 8 56])
 (.seq (.reg [kO 9 (.mv (.ns))])
 (.seq (.seq (.reg [kO 10 (.mv (kI 0))])
 (.block 2 (.loop (.seq (.seq (.reg [kM 57 10,kM 58 1,kO 59 (.bin .lss 3 (.t 57) (.t 58))])
 (.cond (.t 59) (.skip)
 (.exit 2)))
 (.seq (.block 3 (.seq (.reg [kM 62 0,kO 63 (.ia 22 (.t 62) (kI 0)),kO 64 (.ld 25 (.t 63)),kO 65 (.bi .len [25] [.t 64]),kO 66 (.mk 25 (.t 65) (.t 65)),kM 11 66])
 (.seq (.seq (.reg [kO 12 (.mv (kI 0))])
 (.block 4 (.loop (.seq (.seq (.reg [kM 67 12,kM 68 11,kO 69 (.bi .len [25] [.t 68]),kO 70 (.bin .lss 3 (.t 67) (.t 69))])
 (.cond (.t 70) (.skip)
 (.exit 4)))
 (.seq (.block 5 (.seq (.reg [kO 13 (.mv (kI 0))])
 (.block 6 (.loop (.seq (.seq (.reg [kM 73 13,kM 74 0,kO 75 (.bi .len [22] [.t 74]),kO 76 (.bin .lss 3 (.t 73) (.t 75))])
 (.cond (.t 76) (.skip)
 (.exit 6)))
 (.seq (.block 7 (.drw drw142_1 [kM 79 11,kM 80 12,kM 81 11,kM 82 12,kO 83 (.ia 25 (.t 81) (.t 82)),kO 84 (.ld 5 (.t 83)),kM 85 7,kM 86 10,kO 87 (.ia 22 (.t 85) (.t 86)),
 kO 88 (.ld 25 (.t 87)),kM 89 13,kO 90 (.ia 25 (.t 88) (.t 89)),kO 91 (.ld 5 (.t 90)),kM 92 0,kM 93 13,kO 94 (.ia 22 (.t 92) (.t 93)),
 kO 95 (.ld 25 (.t 94)),kM 96 12,kO 97 (.ia 25 (.t 95) (.t 96)),kO 98 (.ld 5 (.t 97)),kO 99 (.call (.fn 182) [.t 91,.t 98]),
 kO 100 (.bin .xor 5 (.t 84) (.t 99)),kO 101 (.ia 25 (.t 79) (.t 80)),kN (.st 5 (.t 101) (.t 100))]))
 (.reg [kM 77 13,kO 78 (.bin .add 3 (.t 77) (kI 1)),kM 13 78])))))))
 (.reg [kM 71 12,kO 72 (.bin .add 3 (.t 71) (kI 1)),kM 12 72]))))))
 (.reg [kM 102 9,kM 103 11,kO 104 (.bsl 22 1 [(0,.t 103)]),kO 105 (.bi .append [22,22] [.t 102,.t 104]),kM 9 105]))))
 (.reg [kM 60 10,kO 61 (.bin .add 3 (.t 60) (kI 1)),kM 10 61]))))))
 (.seq (.reg [kM 106 9,kM 4 106,kO 5 (.mv (kI 0))])
 (.ret))))))))
theorem b142:Body Try.prog 142 107 [4,5] k142:=⟨Enters.of Try.func142 (by kernel_rfl) (by kernel_rfl),_,_,Try.func142,rfl,by kernel_rfl,rfl,rfl⟩
def k143:KC:=
 .seq (.reg [kO 2 (.mv (.np))])
 (.seq (.reg [kM 3 0,kO 4 (.bld 211 [(0,.t 3)]),kO 5 (.box 211 (.t 4)),kM 2 5])
 (.ret))
theorem b143:Body Try.prog 143 6 [2] k143:=⟨Enters.of Try.func143 (by kernel_rfl) (by kernel_rfl),_,_,Try.func143,rfl,by kernel_rfl,rfl,rfl⟩
def k144:KC:=
 .seq (.reg [kO 2 (.mv (kI 0))])
 (.seq (.reg [kM 6 0,kO 7 (.call (.fn 180) [.t 6,.i .i64 4]),kM 3 7])
 (.seq (.reg [kO 4 (.mv (kI 0))])
 (.seq (.seq (.reg [kO 5 (.mv (kI 0))])
 (.block 0 (.loop (.seq (.seq (.reg [kM 8 5,kM 9 3,kO 10 (.bi .len [25] [.t 9]),kO 11 (.bin .lss 3 (.t 8) (.t 10))])
 (.cond (.t 11) (.skip)
 (.exit 0)))
 (.seq (.block 1 (.reg [kM 14 4,kO 15 (.bin .shl 3 (.t 14) (.i .u64 8)),kM 16 3,kM 17 5,kO 18 (.ia 25 (.t 16) (.t 17)),kO 19 (.ld 5 (.t 18)),kO 20 (.cvt 5 3 (.t 19)),
 kO 21 (.bin .or 3 (.t 15) (.t 20)),kM 4 21]))
 (.reg [kM 12 5,kO 13 (.bin .add 3 (.t 12) (kI 1)),kM 5 13]))))))
 (.seq (.reg [kM 22 4,kM 2 22])
 (.ret)))))
theorem b144:Body Try.prog 144 23 [2] k144:=⟨Enters.of Try.func144 (by kernel_rfl) (by kernel_rfl),_,_,Try.func144,rfl,by kernel_rfl,rfl,rfl⟩
def k145:KC:=
 .seq (.reg [kO 2 (.mv (.i .u8 0))])
 (.seq (.reg [kM 4 0,kO 5 (.call (.fn 180) [.t 4,.i .i64 1]),kM 3 5])
 (.seq (.seq (.reg [kM 6 3,kO 7 (.bi .len [25] [.t 6]),kO 8 (.bin .eql 3 (.t 7) (kI 0))])
 (.cond (.t 8) (.seq (.reg [kO 2 (.mv (.i .u8 0))])
 (.ret))
 (.skip)))
 (.seq (.reg [kM 9 3,kO 10 (.ia 25 (.t 9) (kI 0)),kO 11 (.ld 5 (.t 10)),kM 2 11])
 (.ret))))
theorem b145:Body Try.prog 145 12 [2] k145:=⟨Enters.of Try.func145 (by kernel_rfl) (by kernel_rfl),_,_,Try.func145,rfl,by kernel_rfl,rfl,rfl⟩
def k146:KC:=
 .seq (.reg [kO 2 (.mv (kI 0))])
 (.seq (.seq (.reg [kM 3 0,kO 4 (.nc (.t 3)),kO 5 (.fa 211 (.t 4) 1),kO 6 (.ld 4 (.t 5))])
 (.cond (.t 6) (.seq (.reg [kO 2 (.mv (kI 0))])
 (.ret))
 (.skip)))
 (.seq (.reg [kM 7 0,kO 8 (.nc (.t 7)),kO 9 (.fa 211 (.t 8) 0),kO 10 (.ld 25 (.t 9)),kO 11 (.bi .len [25] [.t 10]),kM 2 11])
 (.ret)))
theorem b146:Body Try.prog 146 12 [2] k146:=⟨Enters.of Try.func146 (by kernel_rfl) (by kernel_rfl),_,_,Try.func146,rfl,by kernel_rfl,rfl,rfl⟩
def k147:KC:=
 .seq (.reg [kO 6 (.mv (.b false))])
 (.seq (.reg [kM 7 0,kM 8 1,kO 9 (.bin .geq 3 (.t 7) (.t 8)),kM 10 9,kT 11 10 (.mv (.t 0)),kT 12 10 (.mv (.t 2)),kT 13 10 (.bin .leq 3 (.t 11) (.t 12)),
 kO 14 (.pk (.t 10) (.t 13) (.b false)),kM 6 14])
 (.ret))
theorem b147:Body Try.prog 147 15 [6] k147:=⟨Enters.of Try.func147 (by kernel_rfl) (by kernel_rfl),_,_,Try.func147,rfl,by kernel_rfl,rfl,rfl⟩
def k148:KC:=
 .seq (.reg [kO 2 (.box 54 (.t 0)),kO 3 (.mv (.b false))])
 (.seq (.reg [kO 4 (.fa 54 (.t 2) 0),kO 5 (.ld 3 (.t 4)),kO 6 (.ld 3 (.t 1)),kO 7 (.bin .eql 3 (.t 5) (.t 6)),kM 3 7])
 (.ret))
theorem b148:Body Try.prog 148 8 [3] k148:=⟨Enters.of Try.func148 (by kernel_rfl) (by kernel_rfl),_,_,Try.func148,rfl,by kernel_rfl,rfl,rfl⟩
def k149:KC:=
 .seq (.reg [kO 4 (.mv (kI 0))])
 (.seq (.seq (.reg [kM 6 0,kO 7 (.bi .len [25] [.t 6]),kO 8 (.mv (kI 0))])
 (.block 0 (.loop (.seq (.reg [kO 9 (.bin .lss 3 (.t 8) (.t 7))])
 (.seq (.cond (.t 9) (.skip)
 (.exit 0))
 (.seq (.block 1 (.seq (.reg [kM 10 8,kM 5 10])
 (.seq (.reg [kM 11 1,kM 12 0,kM 13 5,kO 14 (.ia 25 (.t 12) (.t 13)),kO 15 (.ld 5 (.t 14)),kO 16 (.call (.t 11) [.t 15])])
 (.cond (.t 16) (.seq (.reg [kM 17 5,kM 4 17])
 (.ret))
 (.skip)))))
 (.reg [kO 18 (.bin .add 3 (.t 8) (kI 1)),kM 8 18])))))))
 (.seq (.reg [kO 4 (.mv (kI (-1)))])
 (.ret)))
theorem b149:Body Try.prog 149 19 [4] k149:=⟨Enters.of Try.func149 (by kernel_rfl) (by kernel_rfl),_,_,Try.func149,rfl,by kernel_rfl,rfl,rfl⟩
def k151:KC:=
 .seq (.reg [kM 5 1,kO 6 (.cvt 3 106 (.t 5)),kM 4 6])
 (.reg [kM 7 0,kM 8 0,kO 9 (.nc (.t 8)),kO 10 (.fa 186 (.t 9) 0),kO 11 (.ld 25 (.t 10)),kM 12 4,kO 13 (.bin .shr 106 (.t 12) (.i .u64 24)),
 kO 14 (.cvt 106 5 (.t 13)),kM 15 4,kO 16 (.bin .shr 106 (.t 15) (.i .u64 16)),kO 17 (.cvt 106 5 (.t 16)),kM 18 4,
 kO 19 (.bin .shr 106 (.t 18) (.i .u64 8)),kO 20 (.cvt 106 5 (.t 19)),kM 21 4,kO 22 (.cvt 106 5 (.t 21)),
 kO 23 (.bsl 25 4 [(0,.t 14),(1,.t 17),(2,.t 20),(3,.t 22)]),kO 24 (.bi .append [25,25] [.t 11,.t 23]),kO 25 (.nc (.t 7)),
 kO 26 (.fa 186 (.t 25) 0),kN (.st 25 (.t 26) (.t 24))])
theorem b151:Body Try.prog 151 27 [] k151:=⟨Enters.of Try.func151 (by kernel_rfl) (by kernel_rfl),_,_,Try.func151,rfl,by kernel_rfl,rfl,rfl⟩
def k152:KC:=
 .reg [kM 4 0,kM 5 0,kO 6 (.nc (.t 5)),kO 7 (.fa 186 (.t 6) 0),kO 8 (.ld 25 (.t 7)),kM 9 1,kO 10 (.bsl 25 1 [(0,.t 9)]),
 kO 11 (.bi .append [25,25] [.t 8,.t 10]),kO 12 (.nc (.t 4)),kO 13 (.fa 186 (.t 12) 0),kN (.st 25 (.t 13) (.t 11))]
theorem b152:Body Try.prog 152 14 [] k152:=⟨Enters.of Try.func152 (by kernel_rfl) (by kernel_rfl),_,_,Try.func152,rfl,by kernel_rfl,rfl,rfl⟩
def k153:KC:=
 .seq (.reg [kO 2 (.mv (.ns))])
 (.seq (.reg [kM 3 0,kO 4 (.nc (.t 3)),kO 5 (.fa 186 (.t 4) 0),kO 6 (.ld 25 (.t 5)),kO 7 (.call (.fn 61) [.t 6]),kM 2 7])
 (.ret))
theorem b153:Body Try.prog 153 8 [2] k153:=⟨Enters.of Try.func153 (by kernel_rfl) (by kernel_rfl),_,_,Try.func153,rfl,by kernel_rfl,rfl,rfl⟩
noncomputable def drw154_0:Array Oper:=((Try.f154.body.map regs).getD []).getD 0 #[]
noncomputable def k154:KC:=
 .seq (.reg [kO 1 (.box 68 (.t 0)),kO 2 (.mv (kI 0))])
 (.seq (.seq (.reg [kO 3 (.fa 68 (.t 1) 1),kO 4 (.ld 3 (.t 3)),kO 5 (.bin .lss 3 (.t 4) (kI 1)),kM 6 5,kG 7 6 (.fa 68 (.t 1) 1),kG 8 6 (.ld 3 (.t 7)),
 kG 9 6 (.bin .gtr 3 (.t 8) (kI 2147483647)),kO 10 (.pk (.t 6) (.b true) (.t 9)),kM 11 10,kG 12 11 (.fa 68 (.t 1) 2),kG 13 11 (.ld 3 (.t 12)),
 kG 14 11 (.bin .lss 3 (.t 13) (kI 0)),kO 15 (.pk (.t 11) (.b true) (.t 14)),kM 16 15,kG 17 16 (.fa 68 (.t 1) 2),kG 18 16 (.ld 3 (.t 17)),
 kG 19 16 (.bin .gtr 3 (.t 18) (kI 2147483647)),kO 20 (.pk (.t 16) (.b true) (.t 19))])
 (.cond (.t 20) (.seq (.reg [kO 2 (.mv (kI 1))])
 (.ret))
 (.skip)))
 (.seq (.seq (.reg [kO 21 (.fa 68 (.t 1) 0),kO 22 (.ld 3 (.t 21))])
 (.block 0 (.seq (.block 6 (.block 5 (.block 4 (.block 3 (.block 2 (.block 1 (.seq (.seq (.seq (.reg [kO 24 (.bin .eql 3 (.t 22) (kI 1)),kM 23 24])
 (.cond (.t 23) (.exit 1)
 (.skip)))
 (.seq (.seq (.reg [kO 26 (.bin .eql 3 (.t 22) (kI 2)),kM 25 26])
 (.cond (.t 25) (.exit 2)
 (.skip)))
 (.seq (.seq (.reg [kO 28 (.bin .eql 3 (.t 22) (kI 3)),kM 27 28])
 (.cond (.t 27) (.exit 3)
 (.skip)))
 (.seq (.seq (.reg [kO 30 (.bin .eql 3 (.t 22) (kI 4)),kM 29 30])
 (.cond (.t 29) (.exit 4)
 (.skip)))
 (.seq (.seq (.reg [kO 32 (.bin .eql 3 (.t 22) (kI 5)),kM 31 32])
 (.cond (.t 31) (.exit 5)
 (.skip)))
 (.seq (.reg [kO 34 (.bin .eql 3 (.t 22) (kI 6)),kM 33 34])
 (.cond (.t 33) (.exit 6)
 (.skip))))))))
 (.exit 0))))))))
 (.seq (.seq (.seq (.drw drw154_0 [kO 35 (.fa 68 (.t 1) 3),kO 36 (.ld 25 (.t 35)),kO 37 (.bi .len [25] [.t 36]),kO 38 (.fa 68 (.t 1) 0),kO 39 (.ld 3 (.t 38)),
 kO 40 (.call (.fn 183) [.t 39]),kO 41 (.bin .gtr 3 (.t 37) (.t 40))])
 (.cond (.t 41) (.seq (.reg [kO 2 (.mv (kI 4))])
 (.ret))
 (.skip)))
 (.seq (.reg [kO 2 (.mv (kI 0))])
 (.ret)))
 (.exit 0)))))
 (.seq (.reg [kO 2 (.mv (kI 1))])
 (.ret))))
theorem b154:Body Try.prog 154 42 [2] k154:=⟨Enters.of Try.func154 (by kernel_rfl) (by kernel_rfl),_,_,Try.func154,rfl,by kernel_rfl,rfl,rfl⟩
def k155:KC:=
 .seq (.reg [kO 1 (.box 68 (.t 0)),kO 2 (.mv (.ns))])
 (.seq (.reg [kO 6 (.bld 186 []),kO 7 (.box 186 (.t 6)),kM 3 7])
 (.seq (.reg [kM 8 3,kO 9 (.fa 68 (.t 1) 0),kO 10 (.ld 3 (.t 9)),kO 11 (.cvt 3 5 (.t 10)),kO 12 (.call (.fn 152) [.t 8,.t 11])])
 (.seq (.reg [kM 13 3,kO 14 (.fa 68 (.t 1) 1),kO 15 (.ld 3 (.t 14)),kO 16 (.call (.fn 151) [.t 13,.t 15])])
 (.seq (.reg [kM 17 3,kO 18 (.fa 68 (.t 1) 2),kO 19 (.ld 3 (.t 18)),kO 20 (.call (.fn 151) [.t 17,.t 19])])
 (.seq (.reg [kM 21 3,kO 22 (.fa 68 (.t 1) 3),kO 23 (.ld 25 (.t 22)),kO 24 (.bi .len [25] [.t 23]),kO 25 (.bin .shr 3 (.t 24) (.i .u64 8)),
 kO 26 (.cvt 3 5 (.t 25)),kO 27 (.call (.fn 152) [.t 21,.t 26])])
 (.seq (.reg [kM 28 3,kO 29 (.fa 68 (.t 1) 3),kO 30 (.ld 25 (.t 29)),kO 31 (.bi .len [25] [.t 30]),kO 32 (.cvt 3 5 (.t 31)),
 kO 33 (.call (.fn 152) [.t 28,.t 32])])
 (.seq (.reg [kO 34 (.fa 68 (.t 1) 0),kO 35 (.ld 3 (.t 34)),kO 36 (.call (.fn 183) [.t 35]),kO 37 (.mk 25 (.t 36) (.t 36)),kM 4 37])
 (.seq (.reg [kM 38 4,kO 39 (.fa 68 (.t 1) 3),kO 40 (.ld 25 (.t 39)),kO 41 (.bi .copy [25,25] [.t 38,.t 40])])
 (.seq (.reg [kM 42 3,kO 43 (.call (.fn 153) [.t 42]),kM 44 4,kO 45 (.bi .append [25,25] [.t 43,.t 44]),kM 5 45])
 (.seq (.reg [kO 46 (.bld 186 []),kO 47 (.box 186 (.t 46)),kM 3 47])
 (.seq (.reg [kM 48 3,kM 49 5,kO 50 (.call (.fn 184) [.t 49]),kO 51 (.cvt 106 3 (.t 50)),kO 52 (.call (.fn 151) [.t 48,.t 51])])
 (.seq (.reg [kM 53 5,kM 54 3,kO 55 (.call (.fn 153) [.t 54]),kO 56 (.bi .append [25,25] [.t 53,.t 55]),kM 2 56])
 (.ret)))))))))))))
theorem b155:Body Try.prog 155 57 [2] k155:=⟨Enters.of Try.func155 (by kernel_rfl) (by kernel_rfl),_,_,Try.func155,rfl,by kernel_rfl,rfl,rfl⟩
def k156:KC:=
 .seq (.reg [kO 2 (.al 68),kO 3 (.mv (kI 0))])
 (.seq (.reg [kM 7 0,kO 8 (.call (.fn 157) [.t 7]),kM 4 8])
 (.seq (.reg [kM 9 4,kO 10 (.call (.fn 159) [.t 9]),kO 11 (.cvt 5 3 (.t 10)),kO 12 (.bld 68 [(0,.t 11)]),kO 5 (.al 68),kN (.st 68 (.t 5) (.t 12))])
 (.seq (.reg [kM 13 4,kO 14 (.call (.fn 158) [.t 13]),kO 15 (.fa 68 (.t 5) 1),kN (.st 3 (.t 15) (.t 14))])
 (.seq (.reg [kM 16 4,kO 17 (.call (.fn 158) [.t 16]),kO 18 (.fa 68 (.t 5) 2),kN (.st 3 (.t 18) (.t 17))])
 (.seq (.reg [kM 19 4,kO 20 (.call (.fn 159) [.t 19]),kO 21 (.cvt 5 3 (.t 20)),kO 22 (.bin .shl 3 (.t 21) (.i .u64 8)),kM 23 4,
 kO 24 (.call (.fn 159) [.t 23]),kO 25 (.cvt 5 3 (.t 24)),kO 26 (.bin .or 3 (.t 22) (.t 25)),kM 6 26])
 (.seq (.reg [kM 27 4,kM 28 6,kO 29 (.call (.fn 185) [.t 27,.t 28]),kO 30 (.fa 68 (.t 5) 3),kN (.st 25 (.t 30) (.t 29))])
 (.seq (.seq (.reg [kM 31 4,kO 32 (.call (.fn 161) [.t 31]),kM 33 32,kG 34 33 (.ld 68 (.t 5)),kG 35 33 (.call (.fn 154) [.t 34]),
 kG 36 33 (.bin .neq 26 (.t 35) (kI 0)),kO 37 (.pk (.t 33) (.b true) (.t 36)),kM 38 37,kG 39 38 (.mv (.t 0)),kG 40 38 (.ld 68 (.t 5)),
 kG 41 38 (.call (.fn 155) [.t 40]),kG 42 38 (.call (.fn 186) [.t 39,.t 41]),kG 43 38 (.un .not (.t 42)),kO 44 (.pk (.t 38) (.b true) (.t 43))])
 (.cond (.t 44) (.seq (.reg [kO 45 (.bld 68 []),kN (.st 68 (.t 2) (.t 45)),kO 3 (.mv (kI 2))])
 (.ret))
 (.skip)))
 (.seq (.reg [kO 46 (.ld 68 (.t 5)),kN (.st 68 (.t 2) (.t 46)),kO 3 (.mv (kI 0))])
 (.ret)))))))))
def k157:KC:=
 .seq (.reg [kO 2 (.mv (.np))])
 (.seq (.reg [kM 3 0,kO 4 (.call (.fn 61) [.t 3]),kO 5 (.bld 215 [(0,.t 4)]),kO 6 (.box 215 (.t 5)),kM 2 6])
 (.ret))
theorem b157:Body Try.prog 157 7 [2] k157:=⟨Enters.of Try.func157 (by kernel_rfl) (by kernel_rfl),_,_,Try.func157,rfl,by kernel_rfl,rfl,rfl⟩
def k158:KC:=
 .seq (.reg [kO 2 (.mv (kI 0))])
 (.seq (.reg [kO 3 (.mv (.i .u32 0))])
 (.seq (.seq (.reg [kM 6 0,kO 7 (.call (.fn 187) [.t 6,.i .i64 4]),kO 8 (.bi .len [25] [.t 7]),kO 9 (.mv (kI 0))])
 (.block 0 (.loop (.seq (.reg [kO 10 (.bin .lss 3 (.t 9) (.t 8))])
 (.seq (.cond (.t 10) (.skip)
 (.exit 0))
 (.seq (.block 1 (.seq (.reg [kO 11 (.ia 25 (.t 7) (.t 9)),kO 12 (.ld 5 (.t 11)),kM 5 12])
 (.reg [kM 13 3,kO 14 (.bin .shl 106 (.t 13) (.i .u64 8)),kM 15 5,kO 16 (.cvt 5 106 (.t 15)),kO 17 (.bin .or 106 (.t 14) (.t 16)),kM 3 17])))
 (.reg [kO 18 (.bin .add 3 (.t 9) (kI 1)),kM 9 18])))))))
 (.seq (.reg [kM 19 3,kO 20 (.cvt 106 3 (.t 19)),kM 2 20])
 (.ret))))
theorem b158:Body Try.prog 158 21 [2] k158:=⟨Enters.of Try.func158 (by kernel_rfl) (by kernel_rfl),_,_,Try.func158,rfl,by kernel_rfl,rfl,rfl⟩
def k159:KC:=
 .seq (.reg [kO 2 (.mv (.i .u8 0))])
 (.seq (.reg [kM 4 0,kO 5 (.call (.fn 187) [.t 4,.i .i64 1]),kM 3 5])
 (.seq (.seq (.reg [kM 6 3,kO 7 (.bi .len [25] [.t 6]),kO 8 (.bin .eql 3 (.t 7) (kI 0))])
 (.cond (.t 8) (.seq (.reg [kO 2 (.mv (.i .u8 0))])
 (.ret))
 (.skip)))
 (.seq (.reg [kM 9 3,kO 10 (.ia 25 (.t 9) (kI 0)),kO 11 (.ld 5 (.t 10)),kM 2 11])
 (.ret))))
theorem b159:Body Try.prog 159 12 [2] k159:=⟨Enters.of Try.func159 (by kernel_rfl) (by kernel_rfl),_,_,Try.func159,rfl,by kernel_rfl,rfl,rfl⟩
def k160:KC:=
 .seq (.reg [kO 2 (.mv (kI 0))])
 (.seq (.seq (.reg [kM 3 0,kO 4 (.bin .eql 192 (.t 3) (.np))])
 (.cond (.t 4) (.seq (.reg [kO 2 (.mv (kI 0))])
 (.ret))
 (.skip)))
 (.seq (.reg [kM 5 0,kO 6 (.nc (.t 5)),kO 7 (.fa 215 (.t 6) 0),kO 8 (.ld 25 (.t 7)),kO 9 (.bi .len [25] [.t 8]),kM 2 9])
 (.ret)))
theorem b160:Body Try.prog 160 10 [2] k160:=⟨Enters.of Try.func160 (by kernel_rfl) (by kernel_rfl),_,_,Try.func160,rfl,by kernel_rfl,rfl,rfl⟩
def k161:KC:=
 .seq (.reg [kO 2 (.mv (.b false))])
 (.seq (.reg [kM 3 0,kO 4 (.bin .neq 192 (.t 3) (.np)),kM 5 4,kT 6 5 (.mv (.t 0)),kT 7 5 (.nc (.t 6)),kT 8 5 (.fa 215 (.t 7) 1),kT 9 5 (.ld 4 (.t 8)),
 kO 10 (.pk (.t 5) (.t 9) (.b false)),kM 2 10])
 (.ret))
theorem b161:Body Try.prog 161 11 [2] k161:=⟨Enters.of Try.func161 (by kernel_rfl) (by kernel_rfl),_,_,Try.func161,rfl,by kernel_rfl,rfl,rfl⟩
def k170:KC:=
 .seq (.reg [kO 3 (.mv (.b false))])
 (.seq (.reg [kM 4 0,kO 5 (.bi .len [25] [.t 4]),kO 6 (.ld 22 (.t 1)),kO 7 (.ia 22 (.t 6) (kI 0)),kO 8 (.ld 25 (.t 7)),kO 9 (.bi .len [25] [.t 8]),
 kO 10 (.bin .neq 3 (.t 5) (.t 9)),kM 3 10])
 (.ret))
theorem b170:Body Try.prog 170 11 [3] k170:=⟨Enters.of Try.func170 (by kernel_rfl) (by kernel_rfl),_,_,Try.func170,rfl,by kernel_rfl,rfl,rfl⟩
def k171:KC:=
 .seq (.reg [kO 2 (.mv (.ns))])
 (.seq (.reg [kO 3 (.mv (kI 0))])
 (.seq (.seq (.reg [kM 9 0,kO 10 (.bi .len [22] [.t 9]),kO 11 (.mv (kI 0))])
 (.block 0 (.loop (.seq (.reg [kO 12 (.bin .lss 3 (.t 11) (.t 10))])
 (.seq (.cond (.t 12) (.skip)
 (.exit 0))
 (.seq (.block 1 (.seq (.reg [kO 13 (.ia 22 (.t 9) (.t 11)),kO 14 (.ld 25 (.t 13)),kM 5 14])
 (.seq (.reg [kM 15 3,kM 16 5,kO 17 (.bi .len [25] [.t 16]),kO 18 (.bin .add 3 (.t 15) (.t 17)),kM 3 18])
 (.seq (.reg [kM 19 3,kO 20 (.bin .lss 3 (.t 19) (kI 0))])
 (.cond (.t 20) (.reg [kO 21 (.unk),kN (.unk)])
 (.skip))))))
 (.reg [kO 22 (.bin .add 3 (.t 11) (kI 1)),kM 11 22])))))))
 (.seq (.reg [kM 23 3,kO 24 (.call (.fn 191) [.ns,.t 23]),kM 6 24])
 (.seq (.seq (.reg [kM 25 0,kO 26 (.bi .len [22] [.t 25]),kO 27 (.mv (kI 0))])
 (.block 2 (.loop (.seq (.reg [kO 28 (.bin .lss 3 (.t 27) (.t 26))])
 (.seq (.cond (.t 28) (.skip)
 (.exit 2))
 (.seq (.block 3 (.seq (.reg [kO 29 (.ia 22 (.t 25) (.t 27)),kO 30 (.ld 25 (.t 29)),kM 8 30])
 (.reg [kM 31 6,kM 32 8,kO 33 (.bi .append [25,25] [.t 31,.t 32]),kM 6 33])))
 (.reg [kO 34 (.bin .add 3 (.t 27) (kI 1)),kM 27 34])))))))
 (.seq (.reg [kM 35 6,kM 2 35])
 (.ret))))))
theorem b171:Body Try.prog 171 36 [2] k171:=⟨Enters.of Try.func171 (by kernel_rfl) (by kernel_rfl),_,_,Try.func171,rfl,by kernel_rfl,rfl,rfl⟩
def k172:KC:=
 .seq (.reg [kO 4 (.mv (.i .u8 0))])
 (.seq (.reg [kO 5 (.mv (.i .u8 0))])
 (.seq (.block 0 (.loop (.seq (.seq (.reg [kM 7 1,kO 8 (.bin .neq 5 (.t 7) (.i .u8 0))])
 (.cond (.t 8) (.skip)
 (.exit 0)))
 (.seq (.block 1 (.seq (.seq (.reg [kM 11 1,kO 12 (.bin .and 5 (.t 11) (.i .u8 1)),kO 13 (.bin .eql 5 (.t 12) (.i .u8 1))])
 (.cond (.t 13) (.reg [kM 14 5,kM 15 0,kO 16 (.bin .xor 5 (.t 14) (.t 15)),kM 5 16])
 (.skip)))
 (.seq (.reg [kM 17 0,kO 18 (.bin .and 5 (.t 17) (.i .u8 128)),kO 19 (.bin .neq 5 (.t 18) (.i .u8 0)),kM 6 19])
 (.seq (.reg [kM 20 0,kO 21 (.bin .shl 5 (.t 20) (.i .u64 1)),kM 0 21])
 (.seq (.reg [kM 22 6])
 (.cond (.t 22) (.reg [kM 23 0,kO 24 (.bin .xor 5 (.t 23) (.i .u8 29)),kM 0 24])
 (.skip)))))))
 (.reg [kM 9 1,kO 10 (.bin .shr 5 (.t 9) (.i .u64 1)),kM 1 10])))))
 (.seq (.reg [kM 25 5,kM 4 25])
 (.ret))))
theorem b172:Body Try.prog 172 26 [4] k172:=⟨Enters.of Try.func172 (by kernel_rfl) (by kernel_rfl),_,_,Try.func172,rfl,by kernel_rfl,rfl,rfl⟩
def k179:KC:=
 .seq (.reg [kO 2 (.mv (.b false))])
 (.seq (.reg [kM 3 0,kO 4 (.nc (.t 3)),kO 5 (.fa 211 (.t 4) 1),kO 6 (.ld 4 (.t 5)),kM 2 6])
 (.ret))
theorem b179:Body Try.prog 179 7 [2] k179:=⟨Enters.of Try.func179 (by kernel_rfl) (by kernel_rfl),_,_,Try.func179,rfl,by kernel_rfl,rfl,rfl⟩
def k180:KC:=
 .seq (.reg [kO 4 (.mv (.ns))])
 (.seq (.seq (.reg [kM 6 0,kO 7 (.nc (.t 6)),kO 8 (.fa 211 (.t 7) 1),kO 9 (.ld 4 (.t 8)),kM 10 9,kG 11 10 (.mv (.t 0)),kG 12 10 (.nc (.t 11)),
 kG 13 10 (.fa 211 (.t 12) 0),kG 14 10 (.ld 25 (.t 13)),kG 15 10 (.bi .len [25] [.t 14]),kG 16 10 (.mv (.t 1)),
 kG 17 10 (.bin .lss 3 (.t 15) (.t 16)),kO 18 (.pk (.t 10) (.b true) (.t 17))])
 (.cond (.t 18) (.seq (.reg [kM 19 0,kO 20 (.nc (.t 19)),kO 21 (.fa 211 (.t 20) 1),kN (.st 4 (.t 21) (.b true))])
 (.seq (.reg [kO 4 (.mv (.ns))])
 (.ret)))
 (.skip)))
 (.seq (.reg [kM 22 0,kO 23 (.nc (.t 22)),kO 24 (.fa 211 (.t 23) 0),kO 25 (.ld 25 (.t 24)),kM 26 1,kO 27 (.sli 25 (.t 25) none (some (.t 26)) none),kM 5 27])
 (.seq (.reg [kM 28 0,kM 29 0,kO 30 (.nc (.t 29)),kO 31 (.fa 211 (.t 30) 0),kO 32 (.ld 25 (.t 31)),kM 33 1,kO 34 (.sli 25 (.t 32) (some (.t 33)) none none),
 kO 35 (.nc (.t 28)),kO 36 (.fa 211 (.t 35) 0),kN (.st 25 (.t 36) (.t 34))])
 (.seq (.reg [kM 37 5,kM 4 37])
 (.ret)))))
theorem b180:Body Try.prog 180 38 [4] k180:=⟨Enters.of Try.func180 (by kernel_rfl) (by kernel_rfl),_,_,Try.func180,rfl,by kernel_rfl,rfl,rfl⟩
def k181:KC:=
 .seq (.reg [kO 4 (.mv (.ns)),kO 5 (.mv (kI 0))])
 (.seq (.seq (.reg [kM 10 0,kO 11 (.bin .lss 3 (.t 10) (kI 1)),kM 12 11,kG 13 12 (.mv (.t 1)),kG 14 12 (.bin .lss 3 (.t 13) (kI 1)),
 kO 15 (.pk (.t 12) (.b true) (.t 14)),kM 16 15,kG 17 16 (.mv (.t 0)),kG 18 16 (.bin .gtr 3 (.t 17) (kI 255)),
 kO 19 (.pk (.t 16) (.b true) (.t 18)),kM 20 19,kG 21 20 (.mv (.t 1)),kG 22 20 (.bin .gtr 3 (.t 21) (kI 255)),
 kO 23 (.pk (.t 20) (.b true) (.t 22)),kM 24 23,kG 25 24 (.mv (.t 0)),kG 26 24 (.mv (.t 1)),kG 27 24 (.bin .add 3 (.t 25) (.t 26)),
 kG 28 24 (.bin .gtr 3 (.t 27) (kI 255)),kO 29 (.pk (.t 24) (.b true) (.t 28))])
 (.cond (.t 29) (.seq (.reg [kO 4 (.mv (.ns)),kO 5 (.mv (kI 1))])
 (.ret))
 (.skip)))
 (.seq (.reg [kO 6 (.mv (.ns))])
 (.seq (.seq (.reg [kO 7 (.mv (kI 0))])
 (.block 0 (.loop (.seq (.seq (.reg [kM 30 7,kM 31 1,kO 32 (.bin .lss 3 (.t 30) (.t 31))])
 (.cond (.t 32) (.skip)
 (.exit 0)))
 (.seq (.block 1 (.seq (.reg [kO 8 (.mv (.ns))])
 (.seq (.seq (.reg [kO 9 (.mv (kI 0))])
 (.block 2 (.loop (.seq (.seq (.reg [kM 35 9,kM 36 0,kO 37 (.bin .lss 3 (.t 35) (.t 36))])
 (.cond (.t 37) (.skip)
 (.exit 2)))
 (.seq (.block 3 (.reg [kM 40 8,kM 41 7,kO 42 (.cvt 3 5 (.t 41)),kM 43 1,kM 44 9,kO 45 (.bin .add 3 (.t 43) (.t 44)),kO 46 (.cvt 3 5 (.t 45)),
 kO 47 (.bin .xor 5 (.t 42) (.t 46)),kO 48 (.call (.fn 193) [.t 47]),kO 49 (.bsl 25 1 [(0,.t 48)]),kO 50 (.bi .append [25,25] [.t 40,.t 49]),
 kM 8 50]))
 (.reg [kM 38 9,kO 39 (.bin .add 3 (.t 38) (kI 1)),kM 9 39]))))))
 (.reg [kM 51 6,kM 52 8,kO 53 (.bsl 22 1 [(0,.t 52)]),kO 54 (.bi .append [22,22] [.t 51,.t 53]),kM 6 54]))))
 (.reg [kM 33 7,kO 34 (.bin .add 3 (.t 33) (kI 1)),kM 7 34]))))))
 (.seq (.reg [kM 55 6,kM 4 55,kO 5 (.mv (kI 0))])
 (.ret)))))
theorem b181:Body Try.prog 181 56 [4,5] k181:=⟨Enters.of Try.func181 (by kernel_rfl) (by kernel_rfl),_,_,Try.func181,rfl,by kernel_rfl,rfl,rfl⟩
def k182:KC:=
 .seq (.reg [kO 4 (.mv (.i .u8 0))])
 (.seq (.reg [kO 5 (.mv (kI 0))])
 (.seq (.seq (.reg [kO 6 (.mv (kI 0))])
 (.block 0 (.loop (.seq (.seq (.reg [kM 8 6,kO 9 (.bin .lss 3 (.t 8) (kI 8))])
 (.cond (.t 9) (.skip)
 (.exit 0)))
 (.seq (.block 1 (.seq (.reg [kM 12 1,kM 13 6,kO 14 (.cvt 3 105 (.t 13)),kO 15 (.bin .shr 5 (.t 12) (.t 14)),kO 16 (.bin .and 5 (.t 15) (.i .u8 1)),
 kO 17 (.bin .eql 5 (.t 16) (.i .u8 1))])
 (.cond (.t 17) (.reg [kM 18 5,kM 19 0,kO 20 (.cvt 5 3 (.t 19)),kM 21 6,kO 22 (.cvt 3 105 (.t 21)),kO 23 (.bin .shl 3 (.t 20) (.t 22)),
 kO 24 (.bin .xor 3 (.t 18) (.t 23)),kM 5 24])
 (.skip))))
 (.reg [kM 10 6,kO 11 (.bin .add 3 (.t 10) (kI 1)),kM 6 11]))))))
 (.seq (.seq (.reg [kO 7 (.mv (kI 14))])
 (.block 2 (.loop (.seq (.seq (.reg [kM 25 7,kO 26 (.bin .geq 3 (.t 25) (kI 8))])
 (.cond (.t 26) (.skip)
 (.exit 2)))
 (.seq (.block 3 (.seq (.reg [kM 29 5,kM 30 7,kO 31 (.cvt 3 105 (.t 30)),kO 32 (.bin .shr 3 (.t 29) (.t 31)),kO 33 (.bin .and 3 (.t 32) (kI 1)),
 kO 34 (.bin .eql 3 (.t 33) (kI 1))])
 (.cond (.t 34) (.reg [kM 35 5,kM 36 7,kO 37 (.bin .sub 3 (.t 36) (kI 8)),kO 38 (.cvt 3 105 (.t 37)),kO 39 (.bin .shl 3 (kI 285) (.t 38)),
 kO 40 (.bin .xor 3 (.t 35) (.t 39)),kM 5 40])
 (.skip))))
 (.reg [kM 27 7,kO 28 (.bin .sub 3 (.t 27) (kI 1)),kM 7 28]))))))
 (.seq (.reg [kM 41 5,kO 42 (.cvt 3 5 (.t 41)),kM 4 42])
 (.ret)))))
theorem b182:Body Try.prog 182 43 [4] k182:=⟨Enters.of Try.func182 (by kernel_rfl) (by kernel_rfl),_,_,Try.func182,rfl,by kernel_rfl,rfl,rfl⟩
def k183:KC:=
 .seq (.reg [kO 2 (.mv (kI 0))])
 (.seq (.seq (.reg [kM 3 0,kO 4 (.bin .eql 3 (.t 3) (kI 6))])
 (.cond (.t 4) (.seq (.reg [kO 2 (.mv (kI 79))])
 (.ret))
 (.skip)))
 (.seq (.reg [kO 2 (.mv (kI 64))])
 (.ret)))
theorem b183:Body Try.prog 183 5 [2] k183:=⟨Enters.of Try.func183 (by kernel_rfl) (by kernel_rfl),_,_,Try.func183,rfl,by kernel_rfl,rfl,rfl⟩
def k184:KC:=
 .seq (.reg [kO 2 (.mv (.i .u32 0))])
 (.seq (.reg [kM 3 0,kO 4 (.call (.fn 194) [.i .u32 0,.t 3]),kM 2 4])
 (.ret))
theorem b184:Body Try.prog 184 5 [2] k184:=⟨Enters.of Try.func184 (by kernel_rfl) (by kernel_rfl),_,_,Try.func184,rfl,by kernel_rfl,rfl,rfl⟩
def k185:KC:=
 .seq (.reg [kO 4 (.mv (.ns))])
 (.seq (.reg [kM 5 0,kM 6 1,kO 7 (.bi .max [3,3] [.i .i64 0,.t 6]),kO 8 (.call (.fn 187) [.t 5,.t 7]),kO 9 (.call (.fn 61) [.t 8]),kM 4 9])
 (.ret))
theorem b185:Body Try.prog 185 10 [4] k185:=⟨Enters.of Try.func185 (by kernel_rfl) (by kernel_rfl),_,_,Try.func185,rfl,by kernel_rfl,rfl,rfl⟩
noncomputable def drw186_0:Array Oper:=((Try.f186.body.map regs).getD []).getD 0 #[]
noncomputable def k186:KC:=
 .seq (.reg [kO 4 (.mv (.b false))])
 (.seq (.seq (.reg [kM 6 0,kO 7 (.bi .len [25] [.t 6]),kM 8 1,kO 9 (.bi .len [25] [.t 8]),kO 10 (.bin .neq 3 (.t 7) (.t 9))])
 (.cond (.t 10) (.seq (.reg [kO 4 (.mv (.b false))])
 (.ret))
 (.skip)))
 (.seq (.seq (.reg [kM 11 0,kO 12 (.bi .len [25] [.t 11]),kO 13 (.mv (kI 0))])
 (.block 0 (.loop (.seq (.reg [kO 14 (.bin .lss 3 (.t 13) (.t 12))])
 (.seq (.cond (.t 14) (.skip)
 (.exit 0))
 (.seq (.block 1 (.seq (.reg [kM 15 13,kM 5 15])
 (.seq (.drw drw186_0 [kM 16 0,kM 17 5,kO 18 (.ia 25 (.t 16) (.t 17)),kO 19 (.ld 5 (.t 18)),kM 20 1,kM 21 5,kO 22 (.ia 25 (.t 20) (.t 21)),kO 23 (.ld 5 (.t 22)),
 kO 24 (.bin .neq 5 (.t 19) (.t 23))])
 (.cond (.t 24) (.seq (.reg [kO 4 (.mv (.b false))])
 (.ret))
 (.skip)))))
 (.reg [kO 25 (.bin .add 3 (.t 13) (kI 1)),kM 13 25])))))))
 (.seq (.reg [kO 4 (.mv (.b true))])
 (.ret))))
theorem b186:Body Try.prog 186 26 [4] k186:=⟨Enters.of Try.func186 (by kernel_rfl) (by kernel_rfl),_,_,Try.func186,rfl,by kernel_rfl,rfl,rfl⟩
def k187:KC:=
 .seq (.reg [kO 4 (.mv (.ns))])
 (.seq (.seq (.reg [kM 6 0,kO 7 (.bin .eql 192 (.t 6) (.np)),kM 8 7,kG 9 8 (.mv (.t 0)),kG 10 8 (.nc (.t 9)),kG 11 8 (.fa 215 (.t 10) 1),kG 12 8 (.ld 4 (.t 11)),
 kO 13 (.pk (.t 8) (.b true) (.t 12))])
 (.cond (.t 13) (.seq (.reg [kO 4 (.mv (.ns))])
 (.ret))
 (.skip)))
 (.seq (.seq (.reg [kM 14 1,kM 15 0,kO 16 (.nc (.t 15)),kO 17 (.fa 215 (.t 16) 0),kO 18 (.ld 25 (.t 17)),kO 19 (.bi .len [25] [.t 18]),
 kO 20 (.bin .gtr 3 (.t 14) (.t 19))])
 (.cond (.t 20) (.seq (.reg [kM 21 0,kM 22 0,kO 23 (.nc (.t 21)),kO 24 (.fa 215 (.t 23) 0),kN (.st 25 (.t 24) (.ns)),kO 25 (.nc (.t 22)),kO 26 (.fa 215 (.t 25) 1),
 kN (.st 4 (.t 26) (.b true))])
 (.seq (.reg [kO 4 (.mv (.ns))])
 (.ret)))
 (.skip)))
 (.seq (.reg [kM 27 0,kO 28 (.nc (.t 27)),kO 29 (.fa 215 (.t 28) 0),kO 30 (.ld 25 (.t 29)),kM 31 1,kO 32 (.sli 25 (.t 30) none (some (.t 31)) none),kM 5 32])
 (.seq (.reg [kM 33 0,kM 34 0,kO 35 (.nc (.t 34)),kO 36 (.fa 215 (.t 35) 0),kO 37 (.ld 25 (.t 36)),kM 38 1,kO 39 (.sli 25 (.t 37) (some (.t 38)) none none),
 kO 40 (.nc (.t 33)),kO 41 (.fa 215 (.t 40) 0),kN (.st 25 (.t 41) (.t 39))])
 (.seq (.reg [kM 42 5,kM 4 42])
 (.ret))))))
theorem b187:Body Try.prog 187 43 [4] k187:=⟨Enters.of Try.func187 (by kernel_rfl) (by kernel_rfl),_,_,Try.func187,rfl,by kernel_rfl,rfl,rfl⟩
def k191:KC:=
 .seq (.reg [kO 4 (.mv (.ns))])
 (.seq (.seq (.reg [kM 5 1,kO 6 (.bin .lss 3 (.t 5) (kI 0))])
 (.cond (.t 6) (.reg [kO 7 (.unk),kN (.unk)])
 (.skip)))
 (.seq (.seq (.reg [kM 8 1,kM 9 0,kO 10 (.bi .cap [25] [.t 9]),kM 11 0,kO 12 (.bi .len [25] [.t 11]),kO 13 (.bin .sub 3 (.t 10) (.t 12)),
 kO 14 (.bin .sub 3 (.t 8) (.t 13)),kM 1 14])
 (.seq (.reg [kM 15 1,kO 16 (.bin .gtr 3 (.t 15) (kI 0))])
 (.cond (.t 16) (.reg [kM 17 0,kM 18 0,kO 19 (.bi .cap [25] [.t 18]),kO 20 (.sli 25 (.t 17) none (some (.t 19)) none),kM 21 1,
 kO 22 (.bi .append [25,3] [.t 20,.t 21]),kM 23 0,kO 24 (.bi .len [25] [.t 23]),kO 25 (.sli 25 (.t 22) none (some (.t 24)) none),kM 0 25])
 (.skip))))
 (.seq (.reg [kM 26 0,kM 4 26])
 (.ret))))
theorem b191:Body Try.prog 191 27 [4] k191:=⟨Enters.of Try.func191 (by kernel_rfl) (by kernel_rfl),_,_,Try.func191,rfl,by kernel_rfl,rfl,rfl⟩
def k193:KC:=
 .seq (.reg [kO 2 (.mv (.i .u8 0))])
 (.seq (.reg [kO 3 (.mv (.i .u8 1))])
 (.seq (.seq (.reg [kO 4 (.mv (kI 0))])
 (.block 0 (.loop (.seq (.seq (.reg [kM 5 4,kO 6 (.bin .lss 3 (.t 5) (kI 254))])
 (.cond (.t 6) (.skip)
 (.exit 0)))
 (.seq (.block 1 (.reg [kM 9 3,kM 10 0,kO 11 (.call (.fn 182) [.t 9,.t 10]),kM 3 11]))
 (.reg [kM 7 4,kO 8 (.bin .add 3 (.t 7) (kI 1)),kM 4 8]))))))
 (.seq (.reg [kM 12 3,kM 2 12])
 (.ret))))
theorem b193:Body Try.prog 193 13 [2] k193:=⟨Enters.of Try.func193 (by kernel_rfl) (by kernel_rfl),_,_,Try.func193,rfl,by kernel_rfl,rfl,rfl⟩
end Go.Proofs.Ytndjbcnpgggddaa
