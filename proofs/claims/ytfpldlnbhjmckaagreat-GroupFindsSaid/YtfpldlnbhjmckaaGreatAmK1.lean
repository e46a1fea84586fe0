import Derived.Test.YtfpldlnbhjmckaaGreatAmT
namespace Go.Proofs.YtfpldlnbhjmckaaGreat
open Go.AM
noncomputable def drw119_0:Array Oper:=((Tryz.f119.body.map regs).getD []).getD 0 #[]
noncomputable def drw119_1:Array Oper:=((Tryz.f119.body.map regs).getD []).getD 1 #[]
noncomputable def drw119_2:Array Oper:=((Tryz.f119.body.map regs).getD []).getD 2 #[]
noncomputable def k119:KC:=
 .seq (.reg [kO 2 (.mv (.i .u64 0))])
 (.seq (.drw drw119_0 [kM 3 0,kO 4 (.nc (.t 3)),kO 5 (.ld 155 (.t 4)),kM 6 0,kO 7 (.nc (.t 6)),kO 8 (.ld 155 (.t 7)),kO 9 (.bin .shl 155 (.t 8) (.i .u64 13)),
 kO 10 (.bin .xor 155 (.t 5) (.t 9)),kO 11 (.nc (.t 3)),kN (.st 155 (.t 11) (.t 10))])
 (.seq (.drw drw119_1 [kM 12 0,kO 13 (.nc (.t 12)),kO 14 (.ld 155 (.t 13)),kM 15 0,kO 16 (.nc (.t 15)),kO 17 (.ld 155 (.t 16)),
 kO 18 (.bin .shr 155 (.t 17) (.i .u64 7)),kO 19 (.bin .xor 155 (.t 14) (.t 18)),kO 20 (.nc (.t 12)),kN (.st 155 (.t 20) (.t 19))])
 (.seq (.drw drw119_2 [kM 21 0,kO 22 (.nc (.t 21)),kO 23 (.ld 155 (.t 22)),kM 24 0,kO 25 (.nc (.t 24)),kO 26 (.ld 155 (.t 25)),
 kO 27 (.bin .shl 155 (.t 26) (.i .u64 17)),kO 28 (.bin .xor 155 (.t 23) (.t 27)),kO 29 (.nc (.t 21)),kN (.st 155 (.t 29) (.t 28))])
 (.seq (.reg [kM 30 0,kO 31 (.nc (.t 30)),kO 32 (.ld 155 (.t 31)),kM 2 32])
 (.ret)))))
theorem b119:Body Tryz.prog 119 33 [2] k119:=⟨Enters.of Tryz.func119 (by kernel_rfl) (by kernel_rfl),_,_,Tryz.func119,rfl,by kernel_rfl,rfl,rfl⟩
def k120:KC:=
 .seq (.reg [kO 8 (.mv (kI 0))])
 (.seq (.reg [kM 9 0,kM 10 1,kO 11 (.bin .sub 3 (.t 10) (kI 1)),kM 12 1,kM 13 1,kO 14 (.bin .add 3 (.t 13) (kI 1)),kM 15 2,kM 16 3,
 kO 17 (.call (.fn 121) [.t 9,.t 11,.t 12,.t 14,.t 15,.t 16]),kM 8 17])
 (.ret))
theorem b120:Body Tryz.prog 120 18 [8] k120:=⟨Enters.of Tryz.func120 (by kernel_rfl) (by kernel_rfl),_,_,Tryz.func120,rfl,by kernel_rfl,rfl,rfl⟩
def k121:KC:=
 .seq (.reg [kO 12 (.mv (kI 0))])
 (.seq (.reg [kM 14 0,kM 15 1,kM 16 2,kM 17 4,kM 18 5,kO 19 (.call (.fn 126) [.t 14,.t 15,.t 16,.t 17,.t 18]),kM 13 19,kO 20 (.ex (.t 13) 0),
 kO 21 (.ex (.t 13) 1),kM 1 20,kM 2 21])
 (.seq (.reg [kM 23 0,kM 24 2,kM 25 3,kM 26 4,kM 27 5,kO 28 (.call (.fn 126) [.t 23,.t 24,.t 25,.t 26,.t 27]),kM 22 28,kO 29 (.ex (.t 22) 0),
 kO 30 (.ex (.t 22) 1),kM 2 29,kM 3 30])
 (.seq (.reg [kM 32 0,kM 33 1,kM 34 2,kM 35 4,kM 36 5,kO 37 (.call (.fn 126) [.t 32,.t 33,.t 34,.t 35,.t 36]),kM 31 37,kO 38 (.ex (.t 31) 0),
 kO 39 (.ex (.t 31) 1),kM 1 38,kM 2 39])
 (.seq (.reg [kM 40 2,kM 12 40])
 (.ret)))))
theorem b121:Body Tryz.prog 121 41 [12] k121:=⟨Enters.of Tryz.func121 (by kernel_rfl) (by kernel_rfl),_,_,Tryz.func121,rfl,by kernel_rfl,rfl,rfl⟩
def k122:KC:=
 .seq (.reg [kO 4 (.mv (.i .u8 0))])
 (.seq (.reg [kO 5 (.mv (.i .u8 1))])
 (.seq (.block 0 (.loop (.seq (.seq (.reg [kM 6 1,kO 7 (.bin .gtr 3 (.t 6) (kI 0))])
 (.cond (.t 7) (.skip)
 (.exit 0)))
 (.seq (.block 1 (.seq (.seq (.reg [kM 10 1,kO 11 (.bin .and 3 (.t 10) (kI 1)),kO 12 (.bin .eql 3 (.t 11) (kI 1))])
 (.cond (.t 12) (.reg [kM 13 5,kM 14 0,kO 15 (.call (.fn 127) [.t 13,.t 14]),kM 5 15])
 (.skip)))
 (.reg [kM 16 0,kM 17 0,kO 18 (.call (.fn 127) [.t 16,.t 17]),kM 0 18])))
 (.reg [kM 8 1,kO 9 (.bin .shr 3 (.t 8) (.i .u64 1)),kM 1 9])))))
 (.seq (.reg [kM 19 5,kM 4 19])
 (.ret))))
theorem b122:Body Tryz.prog 122 20 [4] k122:=⟨Enters.of Tryz.func122 (by kernel_rfl) (by kernel_rfl),_,_,Tryz.func122,rfl,by kernel_rfl,rfl,rfl⟩
def k123:KC:=
 .seq (.reg [kO 1 (.box 47 (.t 0)),kO 2 (.mv (.b false))])
 (.seq (.seq (.reg [kO 3 (.ld 47 (.t 1)),kO 4 (.bi .len [47] [.t 3]),kO 5 (.bin .lss 3 (.t 4) (kI 1)),kM 6 5,kG 7 6 (.ld 47 (.t 1)),kG 8 6 (.bi .len [47] [.t 7]),
 kG 9 6 (.bin .gtr 3 (.t 8) (kI 255)),kO 10 (.pk (.t 6) (.b true) (.t 9)),kM 11 10,kG 12 11 (.ld 47 (.t 1)),kG 13 11 (.ia 47 (.t 12) (kI 0)),
 kG 14 11 (.ld 42 (.t 13)),kG 15 11 (.bi .len [42] [.t 14]),kG 16 11 (.bin .lss 3 (.t 15) (kI 1)),kO 17 (.pk (.t 11) (.b true) (.t 16)),kM 18 17,
 kG 19 18 (.ld 47 (.t 1)),kG 20 18 (.ia 47 (.t 19) (kI 0)),kG 21 18 (.ld 42 (.t 20)),kG 22 18 (.bi .len [42] [.t 21]),
 kG 23 18 (.bin .gtr 3 (.t 22) (kI 255)),kO 24 (.pk (.t 18) (.b true) (.t 23))])
 (.cond (.t 24) (.seq (.reg [kO 2 (.mv (.b false))])
 (.ret))
 (.skip)))
 (.seq (.reg [kO 25 (.ld 47 (.t 1)),kO 26 (.mf 128 [.t 1]),kO 27 (.call (.fn 53) [.t 25,.t 26]),kO 28 (.un .not (.t 27)),kM 2 28])
 (.ret)))
theorem b123:Body Tryz.prog 123 29 [2] k123:=⟨Enters.of Tryz.func123 (by kernel_rfl) (by kernel_rfl),_,_,Tryz.func123,rfl,by kernel_rfl,rfl,rfl⟩
noncomputable def drw124_0:Array Oper:=((Tryz.f124.body.map regs).getD []).getD 0 #[]
noncomputable def k124:KC:=
 .seq (.reg [kO 4 (.mv (.ns))])
 (.seq (.reg [kM 10 0,kO 11 (.bi .len [47] [.t 10]),kO 12 (.mk 42 (.t 11) (.t 11)),kM 5 12])
 (.seq (.seq (.reg [kM 13 0,kO 14 (.bi .len [47] [.t 13]),kO 15 (.mv (kI 0))])
 (.block 0 (.loop (.seq (.reg [kO 16 (.bin .lss 3 (.t 15) (.t 14))])
 (.seq (.cond (.t 16) (.skip)
 (.exit 0))
 (.seq (.block 1 (.seq (.reg [kM 17 15,kO 18 (.ia 47 (.t 13) (.t 15)),kO 19 (.ld 42 (.t 18)),kM 6 17,kM 7 19])
 (.seq (.reg [kM 20 7,kO 21 (.bi .len [42] [.t 20]),kO 22 (.mv (kI 0))])
 (.block 2 (.loop (.seq (.reg [kO 23 (.bin .lss 3 (.t 22) (.t 21))])
 (.seq (.cond (.t 23) (.skip)
 (.exit 2))
 (.seq (.block 3 (.seq (.reg [kM 24 22,kO 25 (.ia 42 (.t 20) (.t 22)),kO 26 (.ld 5 (.t 25)),kM 8 24,kM 9 26])
 (.drw drw124_0 [kM 27 5,kM 28 6,kM 29 5,kM 30 6,kO 31 (.ia 42 (.t 29) (.t 30)),kO 32 (.ld 5 (.t 31)),kM 33 9,kM 34 1,kM 35 8,kO 36 (.ia 42 (.t 34) (.t 35)),
 kO 37 (.ld 5 (.t 36)),kO 38 (.call (.fn 127) [.t 33,.t 37]),kO 39 (.call (.fn 108) [.t 32,.t 38]),kO 40 (.ia 42 (.t 27) (.t 28)),
 kN (.st 5 (.t 40) (.t 39))])))
 (.reg [kO 41 (.bin .add 3 (.t 22) (kI 1)),kM 22 41])))))))))
 (.reg [kO 42 (.bin .add 3 (.t 15) (kI 1)),kM 15 42])))))))
 (.seq (.reg [kM 43 5,kM 4 43])
 (.ret))))
theorem b124:Body Tryz.prog 124 44 [4] k124:=⟨Enters.of Tryz.func124 (by kernel_rfl) (by kernel_rfl),_,_,Tryz.func124,rfl,by kernel_rfl,rfl,rfl⟩
def k125:KC:=
 .seq (.reg [kO 4 (.mv (.i .u32 0))])
 (.seq (.reg [kM 8 0,kO 9 (.bin .xor 81 (.t 8) (.i .u32 4294967295)),kM 5 9])
 (.seq (.seq (.reg [kM 10 1,kO 11 (.bi .len [42] [.t 10]),kO 12 (.mv (kI 0))])
 (.block 0 (.loop (.seq (.reg [kO 13 (.bin .lss 3 (.t 12) (.t 11))])
 (.seq (.cond (.t 13) (.skip)
 (.exit 0))
 (.seq (.block 1 (.seq (.reg [kO 14 (.ia 42 (.t 10) (.t 12)),kO 15 (.ld 5 (.t 14)),kM 7 15])
 (.seq (.reg [kM 16 5,kM 17 7,kO 18 (.cvt 5 81 (.t 17)),kO 19 (.bin .xor 81 (.t 16) (.t 18)),kM 5 19])
 (.seq (.reg [kO 20 (.mv (kI 0))])
 (.block 2 (.loop (.seq (.reg [kO 21 (.bin .lss 3 (.t 20) (kI 8))])
 (.seq (.cond (.t 21) (.skip)
 (.exit 2))
 (.seq (.block 3 (.seq (.reg [kM 22 5,kO 23 (.bin .and 81 (.t 22) (.i .u32 1)),kO 24 (.bin .eql 81 (.t 23) (.i .u32 1))])
 (.cond (.t 24) (.reg [kM 25 5,kO 26 (.bin .shr 81 (.t 25) (.i .u64 1)),kO 27 (.bin .xor 81 (.t 26) (.i .u32 2197175160)),kM 5 27])
 (.reg [kM 28 5,kO 29 (.bin .shr 81 (.t 28) (.i .u64 1)),kM 5 29]))))
 (.reg [kO 30 (.bin .add 3 (.t 20) (kI 1)),kM 20 30]))))))))))
 (.reg [kO 31 (.bin .add 3 (.t 12) (kI 1)),kM 12 31])))))))
 (.seq (.reg [kM 32 5,kO 33 (.bin .xor 81 (.t 32) (.i .u32 4294967295)),kM 4 33])
 (.ret))))
theorem b125:Body Tryz.prog 125 34 [4] k125:=⟨Enters.of Tryz.func125 (by kernel_rfl) (by kernel_rfl),_,_,Tryz.func125,rfl,by kernel_rfl,rfl,rfl⟩
noncomputable def drw126_0:Array Oper:=((Tryz.f126.body.map regs).getD []).getD 0 #[]
noncomputable def k126:KC:=
 .seq (.reg [kO 10 (.mv (kI 0)),kO 11 (.mv (kI 0))])
 (.seq (.seq (.drw drw126_0 [kM 12 4,kM 13 0,kM 14 2,kO 15 (.ia 33 (.t 13) (.t 14)),kO 16 (.ld 38 (.t 15)),kM 17 0,kM 18 1,kO 19 (.ia 33 (.t 17) (.t 18)),
 kO 20 (.ld 38 (.t 19)),kO 21 (.call (.t 12) [.t 16,.t 20]),kO 22 (.bin .lss 3 (.t 21) (kI 0))])
 (.cond (.t 22) (.seq (.reg [kM 23 3,kO 24 (.nc (.t 23)),kO 25 (.ld 3 (.t 24)),kO 26 (.bin .add 3 (.t 25) (kI 1)),kO 27 (.nc (.t 23)),kN (.st 3 (.t 27) (.t 26))])
 (.seq (.reg [kM 28 2,kM 29 1,kM 10 28,kM 11 29])
 (.ret)))
 (.skip)))
 (.seq (.reg [kM 30 1,kM 31 2,kM 10 30,kM 11 31])
 (.ret)))
theorem b126:Body Tryz.prog 126 32 [10,11] k126:=⟨Enters.of Tryz.func126 (by kernel_rfl) (by kernel_rfl),_,_,Tryz.func126,rfl,by kernel_rfl,rfl,rfl⟩
def k127:KC:=
 .seq (.reg [kO 4 (.mv (.i .u8 0))])
 (.seq (.reg [kO 5 (.mv (.i .u8 0))])
 (.seq (.block 0 (.loop (.seq (.seq (.reg [kM 7 1,kO 8 (.bin .neq 5 (.t 7) (.i .u8 0))])
 (.cond (.t 8) (.skip)
 (.exit 0)))
 (.seq (.block 1 (.seq (.seq (.reg [kM 11 1,kO 12 (.bin .and 5 (.t 11) (.i .u8 1)),kO 13 (.bin .eql 5 (.t 12) (.i .u8 1))])
 (.cond (.t 13) (.reg [kM 14 5,kM 15 0,kO 16 (.bin .xor 5 (.t 14) (.t 15)),kM 5 16])
 (.skip)))
 (.seq (.reg [kM 17 0,kO 18 (.bin .and 5 (.t 17) (.i .u8 128)),kO 19 (.bin .neq 5 (.t 18) (.i .u8 0)),kM 6 19])
 (.seq (.reg [kM 20 0,kO 21 (.bin .shl 5 (.t 20) (.i .u64 1)),kM 0 21])
 (.seq (.reg [kM 22 6])
 (.cond (.t 22) (.reg [kM 23 0,kO 24 (.bin .xor 5 (.t 23) (.i .u8 29)),kM 0 24])
 (.skip)))))))
 (.reg [kM 9 1,kO 10 (.bin .shr 5 (.t 9) (.i .u64 1)),kM 1 10])))))
 (.seq (.reg [kM 25 5,kM 4 25])
 (.ret))))
theorem b127:Body Tryz.prog 127 26 [4] k127:=⟨Enters.of Tryz.func127 (by kernel_rfl) (by kernel_rfl),_,_,Tryz.func127,rfl,by kernel_rfl,rfl,rfl⟩
def k128:KC:=
 .seq (.reg [kO 3 (.mv (.b false))])
 (.seq (.reg [kM 4 0,kO 5 (.bi .len [42] [.t 4]),kO 6 (.ld 47 (.t 1)),kO 7 (.ia 47 (.t 6) (kI 0)),kO 8 (.ld 42 (.t 7)),kO 9 (.bi .len [42] [.t 8]),
 kO 10 (.bin .neq 3 (.t 5) (.t 9)),kM 3 10])
 (.ret))
theorem b128:Body Tryz.prog 128 11 [3] k128:=⟨Enters.of Tryz.func128 (by kernel_rfl) (by kernel_rfl),_,_,Tryz.func128,rfl,by kernel_rfl,rfl,rfl⟩
end Go.Proofs.YtfpldlnbhjmckaaGreat
