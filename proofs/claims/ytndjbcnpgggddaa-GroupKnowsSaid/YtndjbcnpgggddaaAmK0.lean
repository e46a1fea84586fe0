import Derived.Test.YtndjbcnpgggddaaAmT
namespace Go.Proofs.Ytndjbcnpgggddaa
open Go.AM
noncomputable def drw10_0:Array Oper:=((Try.f10.body.map regs).getD []).getD 0 #[]
noncomputable def k10:KC:=
 .seq (.reg [kO 6 (.mv (.b false))])
 (.seq (.reg [kO 22 (.call (.fn 36) []),kM 7 22])
 (.seq (.seq (.reg [kM 23 7,kO 24 (.un .not (.t 23)),kM 25 24,kG 26 25 (.mv (.t 0)),kG 27 25 (.bin .lss 3 (.t 26) (kI 1)),kO 28 (.pk (.t 25) (.b true) (.t 27)),
 kM 29 28,kG 30 29 (.mv (.t 0)),kG 31 29 (.bin .gtr 3 (.t 30) (kI 6)),kO 32 (.pk (.t 29) (.b true) (.t 31)),kM 33 32,kG 34 33 (.mv (.t 1)),
 kG 35 33 (.bi .len [47] [.t 34]),kG 36 33 (.bin .gtr 3 (.t 35) (kI 10)),kO 37 (.pk (.t 33) (.b true) (.t 36)),kM 38 37,kG 39 38 (.mv (.t 2)),
 kG 40 38 (.bi .len [47] [.t 39]),kG 41 38 (.bin .gtr 3 (.t 40) (kI 10)),kO 42 (.pk (.t 38) (.b true) (.t 41))])
 (.cond (.t 42) (.seq (.reg [kM 43 7,kM 6 43])
 (.ret))
 (.skip)))
 (.seq (.reg [kO 45 (.bsl 25 1 [(0,.i .u8 68)]),kO 46 (.cvt 25 25 (.t 45)),kO 47 (.bld 68 [(0,.i .i64 1),(1,.i .i64 1),(3,.t 46)]),
 kO 48 (.call (.fn 37) [.t 47]),kM 44 48,kO 49 (.ex (.t 44) 0),kO 50 (.ex (.t 44) 1),kM 8 49,kM 9 50])
 (.seq (.reg [kO 10 (.mv (.ns))])
 (.seq (.seq (.reg [kO 11 (.mv (kI 0))])
 (.block 0 (.loop (.seq (.seq (.reg [kM 51 11,kM 52 0,kO 53 (.bin .lss 3 (.t 51) (.t 52))])
 (.cond (.t 53) (.skip)
 (.exit 0)))
 (.seq (.block 1 (.reg [kM 56 10,kM 57 11,kO 58 (.bin .add 3 (kI 2) (.t 57)),kO 59 (.bld 54 [(0,.t 58),(1,.i .i64 5)]),kO 60 (.bsl 48 1 [(0,.t 59)]),
 kO 61 (.bi .append [48,48] [.t 56,.t 60]),kM 10 61]))
 (.reg [kM 54 11,kO 55 (.bin .add 3 (.t 54) (kI 1)),kM 11 55]))))))
 (.seq (.reg [kM 63 8,kO 64 (.bsl 22 1 [(0,.t 63)]),kO 65 (.bld 54 [(0,.i .i64 1),(1,.i .i64 5),(2,.t 64)]),kO 66 (.bsl 48 1 [(0,.t 65)]),kM 67 10,
 kO 68 (.call (.fn 38) [.t 66,.t 67,.i .i64 4]),kM 62 68,kO 69 (.ex (.t 62) 0),kO 70 (.ex (.t 62) 1),kM 12 69,kM 13 70])
 (.seq (.seq (.reg [kM 71 13,kO 72 (.call (.fn 39) [.t 71]),kO 73 (.bin .neq 3 (.t 72) (kI 0)),kM 74 73,kG 75 74 (.mv (.t 12)),kG 76 74 (.bi .len [48] [.t 75]),
 kG 77 74 (.mv (.t 0)),kG 78 74 (.bin .neq 3 (.t 76) (.t 77)),kO 79 (.pk (.t 74) (.b true) (.t 78))])
 (.cond (.t 79) (.seq (.reg [kO 6 (.mv (.b false))])
 (.ret))
 (.skip)))
 (.seq (.reg [kM 80 0,kO 81 (.mk 56 (.t 80) (.t 80)),kM 14 81])
 (.seq (.seq (.reg [kO 15 (.mv (kI 0))])
 (.block 2 (.loop (.seq (.seq (.reg [kM 82 15,kM 83 1,kO 84 (.bi .len [47] [.t 83]),kO 85 (.bin .lss 3 (.t 82) (.t 84))])
 (.cond (.t 85) (.skip)
 (.exit 2)))
 (.seq (.block 3 (.seq (.reg [kM 88 1,kM 89 15,kO 90 (.ia 47 (.t 88) (.t 89)),kO 91 (.ld 3 (.t 90)),kO 92 (.bin .and 3 (.t 91) (kI 1023)),kM 93 0,
 kO 94 (.bin .rem 3 (.t 92) (.t 93)),kM 16 94])
 (.seq (.reg [kM 95 12,kM 96 16,kO 97 (.ia 48 (.t 95) (.t 96)),kO 98 (.fa 54 (.t 97) 3),kN (.st 4 (.t 98) (.b true))])
 (.reg [kM 99 14,kM 100 16,kO 101 (.ia 56 (.t 99) (.t 100)),kN (.st 4 (.t 101) (.b true))]))))
 (.reg [kM 86 15,kO 87 (.bin .add 3 (.t 86) (kI 1)),kM 15 87]))))))
 (.seq (.seq (.reg [kO 17 (.mv (kI 0))])
 (.block 4 (.loop (.seq (.seq (.reg [kM 102 17,kM 103 2,kO 104 (.bi .len [47] [.t 103]),kO 105 (.bin .lss 3 (.t 102) (.t 104))])
 (.cond (.t 105) (.skip)
 (.exit 4)))
 (.seq (.block 5 (.seq (.reg [kM 108 2,kM 109 17,kO 110 (.ia 47 (.t 108) (.t 109)),kO 111 (.ld 3 (.t 110)),kO 112 (.bin .and 3 (.t 111) (kI 1023)),kM 113 0,
 kO 114 (.bin .rem 3 (.t 112) (.t 113)),kM 18 114])
 (.seq (.seq (.reg [kM 115 12,kM 116 18,kO 117 (.ia 48 (.t 115) (.t 116)),kO 118 (.fa 54 (.t 117) 2),kO 119 (.ld 22 (.t 118)),kO 120 (.bi .len [22] [.t 119]),
 kO 121 (.bin .neq 3 (.t 120) (kI 3)),kM 122 121,kG 123 122 (.mv (.t 12)),kG 124 122 (.mv (.t 18)),kG 125 122 (.ia 48 (.t 123) (.t 124)),
 kG 126 122 (.fa 54 (.t 125) 2),kG 127 122 (.ld 22 (.t 126)),kG 128 122 (.ia 22 (.t 127) (kI 2)),kG 129 122 (.ld 25 (.t 128)),
 kG 130 122 (.bi .len [25] [.t 129]),kG 131 122 (.bin .neq 3 (.t 130) (kI 79)),kO 132 (.pk (.t 122) (.b true) (.t 131))])
 (.cond (.t 132) (.seq (.reg [kO 6 (.mv (.b false))])
 (.ret))
 (.skip)))
 (.seq (.reg [kM 133 14,kM 134 18,kO 135 (.ia 56 (.t 133) (.t 134)),kO 136 (.ld 4 (.t 135)),kO 137 (.un .not (.t 136))])
 (.cond (.t 137) (.seq (.drw drw10_0 [kM 138 12,kM 139 18,kO 140 (.ia 48 (.t 138) (.t 139)),kO 141 (.fa 54 (.t 140) 2),kO 142 (.ld 22 (.t 141)),kO 143 (.ia 22 (.t 142) (kI 2)),
 kO 144 (.ld 25 (.t 143)),kM 145 12,kM 146 18,kO 147 (.ia 48 (.t 145) (.t 146)),kO 148 (.fa 54 (.t 147) 2),kO 149 (.ld 22 (.t 148)),
 kO 150 (.ia 22 (.t 149) (kI 2)),kO 151 (.ld 25 (.t 150)),kO 152 (.ia 25 (.t 151) (kI 20)),kO 153 (.ld 5 (.t 152)),
 kO 154 (.bin .xor 5 (.t 153) (.i .u8 16)),kO 155 (.ia 25 (.t 144) (kI 20)),kN (.st 5 (.t 155) (.t 154))])
 (.reg [kM 156 14,kM 157 18,kO 158 (.ia 56 (.t 156) (.t 157)),kN (.st 4 (.t 158) (.b true))]))
 (.skip))))))
 (.reg [kM 106 17,kO 107 (.bin .add 3 (.t 106) (kI 1)),kM 17 107]))))))
 (.seq (.reg [kO 19 (.mv (.b false))])
 (.seq (.seq (.reg [kO 20 (.mv (kI 0))])
 (.block 6 (.loop (.seq (.seq (.reg [kM 159 20,kM 160 0,kO 161 (.bin .lss 3 (.t 159) (.t 160))])
 (.cond (.t 161) (.skip)
 (.exit 6)))
 (.seq (.block 7 (.reg [kM 164 19,kM 165 164,kG 166 165 (.mv (.t 14)),kG 167 165 (.mv (.t 20)),kG 168 165 (.ia 56 (.t 166) (.t 167)),kG 169 165 (.ld 4 (.t 168)),
 kG 170 165 (.un .not (.t 169)),kO 171 (.pk (.t 165) (.b true) (.t 170)),kM 19 171]))
 (.reg [kM 162 20,kO 163 (.bin .add 3 (.t 162) (kI 1)),kM 20 163]))))))
 (.seq (.reg [kM 172 12,kO 173 (.call (.fn 40) [.t 172]),kM 21 173])
 (.seq (.reg [kM 174 21,kO 175 (.bi .len [71] [.t 174]),kO 176 (.bin .eql 3 (.t 175) (kI 1)),kM 177 19,kO 178 (.bin .eql 4 (.t 176) (.t 177)),kM 179 178,
 kT 180 179 (.mv (.t 19)),kT 181 179 (.un .not (.t 180)),kT 182 179 (.mv (.t 181)),kG 183 182 (.mv (.t 21)),kG 184 182 (.ia 71 (.t 183) (kI 0)),
 kG 185 182 (.fa 50 (.t 184) 0),kG 186 182 (.ld 3 (.t 185)),kG 187 182 (.bin .eql 3 (.t 186) (kI 4)),kT 188 179 (.pk (.t 182) (.b true) (.t 187)),
 kO 189 (.pk (.t 179) (.t 188) (.b false)),kM 6 189])
 (.ret)))))))))))))))
theorem b10:Body Try.prog 10 190 [6] k10:=⟨Enters.of Try.func10 (by kernel_rfl) (by kernel_rfl),_,_,Try.func10,rfl,by kernel_rfl,rfl,rfl⟩
def k14:KC:=
 .seq (.reg [kO 4 (.mv (.ns)),kO 5 (.mv (kI 0))])
 (.seq (.seq (.reg [kM 8 0,kO 9 (.bi .len [22] [.t 8]),kO 10 (.bin .lss 3 (.t 9) (kI 1)),kM 11 10,kG 12 11 (.mv (.t 0)),kG 13 11 (.bi .len [22] [.t 12]),
 kG 14 11 (.bin .gtr 3 (.t 13) (kI 255)),kO 15 (.pk (.t 11) (.b true) (.t 14)),kM 16 15,kG 17 16 (.mv (.t 1)),
 kG 18 16 (.bin .lss 3 (.t 17) (kI 0)),kO 19 (.pk (.t 16) (.b true) (.t 18)),kM 20 19,kG 21 20 (.mv (.t 1)),kG 22 20 (.mv (.t 0)),
 kG 23 20 (.bi .len [22] [.t 22]),kG 24 20 (.bin .sub 3 (kI 255) (.t 23)),kG 25 20 (.bin .gtr 3 (.t 21) (.t 24)),
 kO 26 (.pk (.t 20) (.b true) (.t 25)),kM 27 26,kG 28 27 (.mv (.t 0)),kG 29 27 (.call (.fn 43) [.t 28]),kG 30 27 (.un .not (.t 29)),
 kO 31 (.pk (.t 27) (.b true) (.t 30))])
 (.cond (.t 31) (.seq (.reg [kO 4 (.mv (.ns)),kO 5 (.mv (kI 1))])
 (.ret))
 (.skip)))
 (.seq (.seq (.reg [kM 32 1,kO 33 (.bin .eql 3 (.t 32) (kI 0))])
 (.cond (.t 33) (.seq (.reg [kO 4 (.mv (.ns)),kO 5 (.mv (kI 0))])
 (.ret))
 (.skip)))
 (.seq (.reg [kM 35 0,kO 36 (.bi .len [22] [.t 35]),kM 37 1,kO 38 (.call (.fn 44) [.t 36,.t 37]),kM 34 38,kO 39 (.ex (.t 34) 0),kO 40 (.ex (.t 34) 1),
 kM 6 39,kM 7 40])
 (.seq (.seq (.reg [kM 41 7,kO 42 (.bin .neq 26 (.t 41) (kI 0))])
 (.cond (.t 42) (.seq (.reg [kM 43 7,kO 4 (.mv (.ns)),kM 5 43])
 (.ret))
 (.skip)))
 (.seq (.reg [kM 44 6,kM 45 0,kO 46 (.call (.fn 45) [.t 44,.t 45]),kM 4 46,kO 5 (.mv (kI 0))])
 (.ret))))))
theorem b14:Body Try.prog 14 47 [4,5] k14:=⟨Enters.of Try.func14 (by kernel_rfl) (by kernel_rfl),_,_,Try.func14,rfl,by kernel_rfl,rfl,rfl⟩
def k36:KC:=
 .seq (.reg [kO 0 (.mv (.b false))])
 (.seq (.reg [kO 6 (.bsl 25 1 [(0,.i .u8 68)]),kO 7 (.cvt 25 25 (.t 6)),kO 8 (.bld 68 [(0,.i .i64 1),(1,.i .i64 1),(3,.t 7)]),
 kO 9 (.call (.fn 37) [.t 8]),kM 5 9,kO 10 (.ex (.t 5) 0),kO 11 (.ex (.t 5) 1),kM 1 10,kM 2 11])
 (.seq (.reg [kM 13 1,kO 14 (.bsl 22 1 [(0,.t 13)]),kO 15 (.bld 54 [(0,.i .i64 1),(1,.i .i64 4),(2,.t 14)]),kO 16 (.bsl 48 1 [(0,.t 15)]),
 kO 17 (.bld 54 [(0,.i .i64 2),(1,.i .i64 4)]),kO 18 (.bsl 48 1 [(0,.t 17)]),kO 19 (.call (.fn 38) [.t 16,.t 18,.i .i64 1]),kM 12 19,
 kO 20 (.ex (.t 12) 0),kO 21 (.ex (.t 12) 1),kM 3 20,kM 4 21])
 (.seq (.reg [kO 22 (.call (.fn 40) [.ns]),kO 23 (.bi .len [71] [.t 22]),kO 24 (.bin .eql 3 (.t 23) (kI 0)),kM 25 24,kT 26 25 (.mv (.t 4)),
 kT 27 25 (.call (.fn 39) [.t 26]),kT 28 25 (.bin .eql 3 (.t 27) (kI 0)),kO 29 (.pk (.t 25) (.t 28) (.b false)),kM 30 29,kT 31 30 (.mv (.t 3)),
 kT 32 30 (.bi .len [48] [.t 31]),kT 33 30 (.bin .eql 3 (.t 32) (kI 1)),kO 34 (.pk (.t 30) (.t 33) (.b false)),kM 35 34,kT 36 35 (.mv (.t 3)),
 kT 37 35 (.ia 48 (.t 36) (kI 0)),kT 38 35 (.fa 54 (.t 37) 2),kT 39 35 (.ld 22 (.t 38)),kT 40 35 (.bi .len [22] [.t 39]),
 kT 41 35 (.bin .eql 3 (.t 40) (kI 3)),kO 42 (.pk (.t 35) (.t 41) (.b false)),kM 43 42,kT 44 43 (.mv (.t 3)),kT 45 43 (.call (.fn 40) [.t 44]),
 kT 46 43 (.bi .len [71] [.t 45]),kT 47 43 (.bin .eql 3 (.t 46) (kI 1)),kO 48 (.pk (.t 43) (.t 47) (.b false)),kM 0 48])
 (.ret))))
theorem b36:Body Try.prog 36 49 [0] k36:=⟨Enters.of Try.func36 (by kernel_rfl) (by kernel_rfl),_,_,Try.func36,rfl,by kernel_rfl,rfl,rfl⟩
noncomputable def drw37_0:Array Oper:=((Try.f37.body.map regs).getD []).getD 0 #[]
noncomputable def drw37_1:Array Oper:=((Try.f37.body.map regs).getD []).getD 1 #[]
noncomputable def drw37_2:Array Oper:=((Try.f37.body.map regs).getD []).getD 2 #[]
noncomputable def k37:KC:=
 .seq (.reg [kO 1 (.box 68 (.t 0)),kO 2 (.mv (.ns)),kO 3 (.mv (kI 0))])
 (.seq (.reg [kO 4 (.mv (kI 64))])
 (.seq (.seq (.reg [kO 6 (.fa 68 (.t 1) 0),kO 7 (.ld 3 (.t 6)),kO 8 (.bin .eql 3 (.t 7) (kI 6))])
 (.cond (.t 8) (.reg [kO 4 (.mv (kI 79))])
 (.skip)))
 (.seq (.block 0 (.seq (.reg [kO 10 (.fa 68 (.t 1) 0),kO 11 (.ld 3 (.t 10)),kO 12 (.bin .lss 3 (.t 11) (kI 1)),kM 13 12,kG 14 13 (.fa 68 (.t 1) 0),kG 15 13 (.ld 3 (.t 14)),
 kG 16 13 (.bin .gtr 3 (.t 15) (kI 6)),kO 17 (.pk (.t 13) (.b true) (.t 16)),kM 18 17,kG 19 18 (.fa 68 (.t 1) 1),kG 20 18 (.ld 3 (.t 19)),
 kG 21 18 (.bin .lss 3 (.t 20) (kI 1)),kO 22 (.pk (.t 18) (.b true) (.t 21)),kM 23 22,kG 24 23 (.fa 68 (.t 1) 1),kG 25 23 (.ld 3 (.t 24)),
 kG 26 23 (.bin .gtr 3 (.t 25) (kI 2147483647)),kO 27 (.pk (.t 23) (.b true) (.t 26)),kM 28 27,kG 29 28 (.fa 68 (.t 1) 2),
 kG 30 28 (.ld 3 (.t 29)),kG 31 28 (.bin .lss 3 (.t 30) (kI 0)),kO 32 (.pk (.t 28) (.b true) (.t 31)),kM 33 32,kG 34 33 (.fa 68 (.t 1) 2),
 kG 35 33 (.ld 3 (.t 34)),kG 36 33 (.bin .gtr 3 (.t 35) (kI 2147483647)),kO 37 (.pk (.t 33) (.b true) (.t 36)),kM 9 37])
 (.cond (.t 9) (.seq (.reg [kO 2 (.mv (.ns)),kO 3 (.mv (kI 1))])
 (.ret))
 (.seq (.reg [kO 39 (.fa 68 (.t 1) 3),kO 40 (.ld 25 (.t 39)),kO 41 (.bi .len [25] [.t 40]),kM 42 4,kO 43 (.bin .gtr 3 (.t 41) (.t 42)),kM 38 43])
 (.cond (.t 38) (.seq (.reg [kO 2 (.mv (.ns)),kO 3 (.mv (kI 4))])
 (.ret))
 (.skip))))))
 (.seq (.reg [kO 44 (.bld 102 []),kO 45 (.box 102 (.t 44)),kM 5 45])
 (.seq (.reg [kM 46 5,kO 47 (.fa 68 (.t 1) 0),kO 48 (.ld 3 (.t 47)),kO 49 (.cvt 3 5 (.t 48)),kO 50 (.call (.fn 62) [.t 46,.t 49])])
 (.seq (.reg [kM 51 5,kO 52 (.fa 68 (.t 1) 1),kO 53 (.ld 3 (.t 52)),kO 54 (.call (.fn 63) [.t 51,.t 53])])
 (.seq (.reg [kM 55 5,kO 56 (.fa 68 (.t 1) 2),kO 57 (.ld 3 (.t 56)),kO 58 (.call (.fn 63) [.t 55,.t 57])])
 (.seq (.drw drw37_0 [kM 59 5,kM 60 5,kO 61 (.nc (.t 60)),kO 62 (.fa 102 (.t 61) 0),kO 63 (.ld 25 (.t 62)),kO 64 (.fa 68 (.t 1) 3),kO 65 (.ld 25 (.t 64)),
 kO 66 (.bi .len [25] [.t 65]),kO 67 (.bin .shr 3 (.t 66) (.i .u64 8)),kO 68 (.cvt 3 5 (.t 67)),kO 69 (.fa 68 (.t 1) 3),kO 70 (.ld 25 (.t 69)),
 kO 71 (.bi .len [25] [.t 70]),kO 72 (.bin .and 3 (.t 71) (kI 255)),kO 73 (.cvt 3 5 (.t 72)),kO 74 (.bsl 25 2 [(0,.t 68),(1,.t 73)]),
 kO 75 (.bi .append [25,25] [.t 63,.t 74]),kO 76 (.nc (.t 59)),kO 77 (.fa 102 (.t 76) 0),kN (.st 25 (.t 77) (.t 75))])
 (.seq (.drw drw37_1 [kM 78 5,kM 79 5,kO 80 (.nc (.t 79)),kO 81 (.fa 102 (.t 80) 0),kO 82 (.ld 25 (.t 81)),kO 83 (.fa 68 (.t 1) 3),kO 84 (.ld 25 (.t 83)),
 kO 85 (.bi .append [25,25] [.t 82,.t 84]),kO 86 (.nc (.t 78)),kO 87 (.fa 102 (.t 86) 0),kN (.st 25 (.t 87) (.t 85))])
 (.seq (.drw drw37_2 [kM 88 5,kM 89 5,kO 90 (.nc (.t 89)),kO 91 (.fa 102 (.t 90) 0),kO 92 (.ld 25 (.t 91)),kM 93 4,kO 94 (.fa 68 (.t 1) 3),kO 95 (.ld 25 (.t 94)),
 kO 96 (.bi .len [25] [.t 95]),kO 97 (.bin .sub 3 (.t 93) (.t 96)),kO 98 (.bi .append [25,3] [.t 92,.t 97]),kO 99 (.nc (.t 88)),
 kO 100 (.fa 102 (.t 99) 0),kN (.st 25 (.t 100) (.t 98))])
 (.seq (.reg [kM 101 5,kM 102 5,kO 103 (.nc (.t 102)),kO 104 (.fa 102 (.t 103) 0),kO 105 (.ld 25 (.t 104)),kO 106 (.call (.fn 64) [.t 105]),
 kO 107 (.cvt 106 3 (.t 106)),kO 108 (.call (.fn 63) [.t 101,.t 107])])
 (.seq (.reg [kM 109 5,kO 110 (.nc (.t 109)),kO 111 (.fa 102 (.t 110) 0),kO 112 (.ld 25 (.t 111)),kM 2 112,kO 3 (.mv (kI 0))])
 (.ret)))))))))))))
theorem b37:Body Try.prog 37 113 [2,3] k37:=⟨Enters.of Try.func37 (by kernel_rfl) (by kernel_rfl),_,_,Try.func37,rfl,by kernel_rfl,rfl,rfl⟩
noncomputable def drw38_0:Array Oper:=((Try.f38.body.map regs).getD []).getD 0 #[]
noncomputable def k38:KC:=
 .seq (.reg [kO 6 (.mv (.ns)),kO 7 (.mv (kI 0))])
 (.seq (.reg [kM 17 2,kM 18 0,kO 19 (.bi .len [48] [.t 18]),kM 20 1,kO 21 (.bi .len [48] [.t 20]),kM 22 0,kM 23 1,
 kO 24 (.bsl 147 2 [(0,.t 22),(1,.t 23)]),kO 25 (.call (.fn 66) [.t 24]),kO 26 (.call (.fn 65) [.t 25]),
 kO 27 (.bld 50 [(0,.t 17),(2,.t 19),(3,.t 21),(4,.t 26)]),kO 8 (.al 50),kN (.st 50 (.t 8) (.t 27))])
 (.seq (.seq (.reg [kM 28 0,kM 29 1,kO 30 (.ld 50 (.t 8)),kO 31 (.call (.fn 67) [.t 28,.t 29,.t 30]),kM 9 31])
 (.seq (.reg [kM 32 9,kO 33 (.bin .neq 26 (.t 32) (kI 0))])
 (.cond (.t 33) (.seq (.reg [kM 34 9,kO 6 (.mv (.ns)),kM 7 34])
 (.ret))
 (.skip))))
 (.seq (.reg [kM 36 0,kM 37 1,kO 38 (.bi .len [48] [.t 37]),kO 39 (.call (.fn 68) [.t 36,.t 38]),kM 35 39,kO 40 (.ex (.t 35) 0),kO 41 (.ex (.t 35) 1),
 kM 10 40,kM 11 41])
 (.seq (.seq (.reg [kM 42 11,kO 43 (.bin .neq 26 (.t 42) (kI 0))])
 (.cond (.t 43) (.seq (.reg [kM 44 11,kO 6 (.mv (.ns)),kM 7 44])
 (.ret))
 (.skip)))
 (.seq (.reg [kO 12 (.mv (.ns))])
 (.seq (.seq (.reg [kM 45 1,kO 46 (.bi .len [48] [.t 45]),kO 47 (.mv (kI 0))])
 (.block 0 (.loop (.seq (.reg [kO 48 (.bin .lss 3 (.t 47) (.t 46))])
 (.seq (.cond (.t 48) (.skip)
 (.exit 0))
 (.seq (.block 1 (.seq (.reg [kM 49 47,kO 50 (.ia 48 (.t 45) (.t 47)),kO 51 (.ld 54 (.t 50)),kO 14 (.al 54),kM 13 49,kN (.st 54 (.t 14) (.t 51))])
 (.seq (.reg [kM 52 0,kO 53 (.bi .len [48] [.t 52]),kM 54 13,kO 55 (.bin .add 3 (.t 53) (.t 54)),kO 56 (.fa 50 (.t 8) 1),kN (.st 3 (.t 56) (.t 55))])
 (.seq (.drw drw38_0 [kO 58 (.ld 54 (.t 14)),kO 59 (.ld 50 (.t 8)),kM 60 10,kM 61 13,kO 62 (.ia 111 (.t 60) (.t 61)),kO 63 (.ld 22 (.t 62)),
 kO 64 (.call (.fn 69) [.t 58,.t 59,.t 63]),kM 57 64,kO 65 (.ex (.t 57) 0),kO 66 (.ex (.t 57) 1),kO 15 (.al 54),kN (.st 54 (.t 15) (.t 65)),
 kM 16 66])
 (.seq (.seq (.reg [kM 67 16,kO 68 (.bin .neq 26 (.t 67) (kI 0))])
 (.cond (.t 68) (.seq (.reg [kM 69 16,kO 6 (.mv (.ns)),kM 7 69])
 (.ret))
 (.skip)))
 (.reg [kM 70 12,kO 71 (.ld 54 (.t 15)),kO 72 (.bsl 48 1 [(0,.t 71)]),kO 73 (.bi .append [48,48] [.t 70,.t 72]),kM 12 73]))))))
 (.reg [kO 74 (.bin .add 3 (.t 47) (kI 1)),kM 47 74])))))))
 (.seq (.reg [kM 75 12,kM 6 75,kO 7 (.mv (kI 0))])
 (.ret))))))))
theorem b38:Body Try.prog 38 76 [6,7] k38:=⟨Enters.of Try.func38 (by kernel_rfl) (by kernel_rfl),_,_,Try.func38,rfl,by kernel_rfl,rfl,rfl⟩
def k39:KC:=
 .seq (.reg [kO 2 (.mv (kI 0))])
 (.seq (.reg [kM 3 0,kM 2 3])
 (.ret))
theorem b39:Body Try.prog 39 4 [2] k39:=⟨Enters.of Try.func39 (by kernel_rfl) (by kernel_rfl),_,_,Try.func39,rfl,by kernel_rfl,rfl,rfl⟩
noncomputable def drw40_0:Array Oper:=((Try.f40.body.map regs).getD []).getD 0 #[]
noncomputable def k40:KC:=
 .seq (.reg [kO 2 (.mv (.ns))])
 (.seq (.reg [kO 3 (.mv (.ns))])
 (.seq (.seq (.reg [kM 8 0,kO 9 (.bi .len [48] [.t 8]),kO 10 (.mv (kI 0))])
 (.block 0 (.loop (.seq (.reg [kO 11 (.bin .lss 3 (.t 10) (.t 9))])
 (.seq (.cond (.t 11) (.skip)
 (.exit 0))
 (.seq (.block 1 (.seq (.reg [kO 12 (.ia 48 (.t 8) (.t 10)),kO 13 (.ld 54 (.t 12)),kO 5 (.al 54),kN (.st 54 (.t 5) (.t 13))])
 (.seq (.reg [kO 15 (.ld 54 (.t 5)),kO 16 (.call (.fn 70) [.t 15]),kM 14 16,kO 17 (.ex (.t 14) 0),kO 18 (.ex (.t 14) 1),kO 6 (.al 50),
 kN (.st 50 (.t 6) (.t 17)),kM 7 18])
 (.seq (.seq (.drw drw40_0 [kM 19 7,kO 20 (.un .not (.t 19)),kM 21 20,kG 22 21 (.fa 50 (.t 6) 4),kG 23 21 (.ld 47 (.t 22)),kG 24 21 (.fa 50 (.t 6) 1),
 kG 25 21 (.ld 3 (.t 24)),kG 26 21 (.ia 47 (.t 23) (.t 25)),kG 27 21 (.ld 3 (.t 26)),kG 28 21 (.fa 54 (.t 5) 0),kG 29 21 (.ld 3 (.t 28)),
 kG 30 21 (.bin .neq 3 (.t 27) (.t 29)),kO 31 (.pk (.t 21) (.b true) (.t 30)),kM 32 31,kG 33 32 (.mv (.t 3)),kG 34 32 (.mf 72 [.t 6]),
 kG 35 32 (.call (.fn 71) [.t 33,.t 34]),kO 36 (.pk (.t 32) (.b true) (.t 35))])
 (.cond (.t 36) (.exit 1)
 (.skip)))
 (.reg [kM 37 3,kO 38 (.ld 50 (.t 6)),kO 39 (.bsl 71 1 [(0,.t 38)]),kO 40 (.bi .append [71,71] [.t 37,.t 39]),kM 3 40])))))
 (.reg [kO 41 (.bin .add 3 (.t 10) (kI 1)),kM 10 41])))))))
 (.seq (.reg [kM 42 3,kO 43 (.call (.fn 73) [.t 42,.fn 74])])
 (.seq (.reg [kM 44 3,kM 2 44])
 (.ret)))))
theorem b40:Body Try.prog 40 45 [2] k40:=⟨Enters.of Try.func40 (by kernel_rfl) (by kernel_rfl),_,_,Try.func40,rfl,by kernel_rfl,rfl,rfl⟩
def k43:KC:=
 .seq (.reg [kO 1 (.box 22 (.t 0)),kO 2 (.mv (.b false))])
 (.seq (.reg [kO 3 (.ld 22 (.t 1)),kO 4 (.mf 81 [.t 1]),kO 5 (.call (.fn 80) [.t 3,.t 4]),kO 6 (.un .not (.t 5)),kM 2 6])
 (.ret))
theorem b43:Body Try.prog 43 7 [2] k43:=⟨Enters.of Try.func43 (by kernel_rfl) (by kernel_rfl),_,_,Try.func43,rfl,by kernel_rfl,rfl,rfl⟩
def k44:KC:=
 .seq (.reg [kO 4 (.mv (.ns)),kO 5 (.mv (kI 0))])
 (.seq (.seq (.reg [kM 10 0,kO 11 (.bin .lss 3 (.t 10) (kI 1)),kM 12 11,kG 13 12 (.mv (.t 1)),kG 14 12 (.bin .lss 3 (.t 13) (kI 1)),
 kO 15 (.pk (.t 12) (.b true) (.t 14)),kM 16 15,kG 17 16 (.mv (.t 0)),kG 18 16 (.bin .gtr 3 (.t 17) (kI 255)),
 kO 19 (.pk (.t 16) (.b true) (.t 18)),kM 20 19,kG 21 20 (.mv (.t 1)),kG 22 20 (.mv (.t 0)),kG 23 20 (.bin .sub 3 (kI 255) (.t 22)),
 kG 24 20 (.bin .gtr 3 (.t 21) (.t 23)),kO 25 (.pk (.t 20) (.b true) (.t 24))])
 (.cond (.t 25) (.seq (.reg [kO 4 (.mv (.ns)),kO 5 (.mv (kI 1))])
 (.ret))
 (.skip)))
 (.seq (.reg [kO 6 (.mv (.ns))])
 (.seq (.seq (.reg [kM 26 1,kO 27 (.mv (kI 0))])
 (.block 0 (.loop (.seq (.reg [kO 28 (.bin .lss 3 (.t 27) (.t 26))])
 (.seq (.cond (.t 28) (.skip)
 (.exit 0))
 (.seq (.block 1 (.seq (.reg [kM 29 27,kM 7 29])
 (.seq (.reg [kO 8 (.mv (.ns))])
 (.seq (.seq (.reg [kM 30 0,kO 31 (.mv (kI 0))])
 (.block 2 (.loop (.seq (.reg [kO 32 (.bin .lss 3 (.t 31) (.t 30))])
 (.seq (.cond (.t 32) (.skip)
 (.exit 2))
 (.seq (.block 3 (.seq (.reg [kM 33 31,kM 9 33])
 (.reg [kM 34 8,kM 35 7,kO 36 (.cvt 3 5 (.t 35)),kM 37 1,kM 38 9,kO 39 (.bin .add 3 (.t 37) (.t 38)),kO 40 (.cvt 3 5 (.t 39)),
 kO 41 (.call (.fn 83) [.t 36,.t 40]),kO 42 (.call (.fn 82) [.t 41]),kO 43 (.bsl 25 1 [(0,.t 42)]),kO 44 (.bi .append [25,25] [.t 34,.t 43]),
 kM 8 44])))
 (.reg [kO 45 (.bin .add 3 (.t 31) (kI 1)),kM 31 45])))))))
 (.reg [kM 46 6,kM 47 8,kO 48 (.bsl 22 1 [(0,.t 47)]),kO 49 (.bi .append [22,22] [.t 46,.t 48]),kM 6 49])))))
 (.reg [kO 50 (.bin .add 3 (.t 27) (kI 1)),kM 27 50])))))))
 (.seq (.reg [kM 51 6,kM 4 51,kO 5 (.mv (kI 0))])
 (.ret)))))
theorem b44:Body Try.prog 44 52 [4,5] k44:=⟨Enters.of Try.func44 (by kernel_rfl) (by kernel_rfl),_,_,Try.func44,rfl,by kernel_rfl,rfl,rfl⟩
def k45:KC:=
 .seq (.reg [kO 4 (.mv (.ns))])
 (.seq (.reg [kM 14 0,kO 15 (.bi .len [22] [.t 14]),kO 16 (.mk 22 (.t 15) (.t 15)),kM 5 16])
 (.seq (.seq (.reg [kM 17 1,kO 18 (.ia 22 (.t 17) (kI 0)),kO 19 (.ld 25 (.t 18)),kO 20 (.bi .len [25] [.t 19]),kO 21 (.mv (kI 0))])
 (.block 0 (.loop (.seq (.reg [kO 22 (.bin .lss 3 (.t 21) (.t 20))])
 (.seq (.cond (.t 22) (.skip)
 (.exit 0))
 (.seq (.block 1 (.seq (.reg [kM 23 21,kM 6 23])
 (.seq (.reg [kO 7 (.mv (.ns))])
 (.seq (.seq (.reg [kM 24 1,kO 25 (.bi .len [22] [.t 24]),kO 26 (.mv (kI 0))])
 (.block 2 (.loop (.seq (.reg [kO 27 (.bin .lss 3 (.t 26) (.t 25))])
 (.seq (.cond (.t 27) (.skip)
 (.exit 2))
 (.seq (.block 3 (.seq (.reg [kO 28 (.ia 22 (.t 24) (.t 26)),kO 29 (.ld 25 (.t 28)),kM 9 29])
 (.reg [kM 30 7,kM 31 9,kM 32 6,kO 33 (.ia 25 (.t 31) (.t 32)),kO 34 (.ld 5 (.t 33)),kO 35 (.bsl 25 1 [(0,.t 34)]),
 kO 36 (.bi .append [25,25] [.t 30,.t 35]),kM 7 36])))
 (.reg [kO 37 (.bin .add 3 (.t 26) (kI 1)),kM 26 37])))))))
 (.seq (.reg [kM 39 0,kM 40 7,kO 41 (.call (.fn 84) [.t 39,.t 40]),kM 38 41,kO 42 (.ex (.t 38) 0),kO 43 (.ex (.t 38) 1),kM 10 42,kM 11 43])
 (.seq (.reg [kM 44 10,kO 45 (.bi .len [25] [.t 44]),kO 46 (.mv (kI 0))])
 (.block 4 (.loop (.seq (.reg [kO 47 (.bin .lss 3 (.t 46) (.t 45))])
 (.seq (.cond (.t 47) (.skip)
 (.exit 4))
 (.seq (.block 5 (.seq (.reg [kM 48 46,kO 49 (.ia 25 (.t 44) (.t 46)),kO 50 (.ld 5 (.t 49)),kM 12 48,kM 13 50])
 (.reg [kM 51 5,kM 52 12,kM 53 5,kM 54 12,kO 55 (.ia 22 (.t 53) (.t 54)),kO 56 (.ld 25 (.t 55)),kM 57 13,kO 58 (.bsl 25 1 [(0,.t 57)]),
 kO 59 (.bi .append [25,25] [.t 56,.t 58]),kO 60 (.ia 22 (.t 51) (.t 52)),kN (.st 25 (.t 60) (.t 59))])))
 (.reg [kO 61 (.bin .add 3 (.t 46) (kI 1)),kM 46 61]))))))))))))
 (.reg [kO 62 (.bin .add 3 (.t 21) (kI 1)),kM 21 62])))))))
 (.seq (.reg [kM 63 5,kM 4 63])
 (.ret))))
theorem b45:Body Try.prog 45 64 [4] k45:=⟨Enters.of Try.func45 (by kernel_rfl) (by kernel_rfl),_,_,Try.func45,rfl,by kernel_rfl,rfl,rfl⟩
def k56:KC:=
 .seq (.reg [kO 4 (.mv (kI 0))])
 (.seq (.seq (.reg [kM 6 0,kO 7 (.bi .len [48] [.t 6]),kO 8 (.mv (kI 0))])
 (.block 0 (.loop (.seq (.reg [kO 9 (.bin .lss 3 (.t 8) (.t 7))])
 (.seq (.cond (.t 9) (.skip)
 (.exit 0))
 (.seq (.block 1 (.seq (.reg [kM 10 8,kM 5 10])
 (.seq (.reg [kM 11 1,kM 12 0,kM 13 5,kO 14 (.ia 48 (.t 12) (.t 13)),kO 15 (.ld 54 (.t 14)),kO 16 (.call (.t 11) [.t 15])])
 (.cond (.t 16) (.seq (.reg [kM 17 5,kM 4 17])
 (.ret))
 (.skip)))))
 (.reg [kO 18 (.bin .add 3 (.t 8) (kI 1)),kM 8 18])))))))
 (.seq (.reg [kO 4 (.mv (kI (-1)))])
 (.ret)))
theorem b56:Body Try.prog 56 19 [4] k56:=⟨Enters.of Try.func56 (by kernel_rfl) (by kernel_rfl),_,_,Try.func56,rfl,by kernel_rfl,rfl,rfl⟩
def k61:KC:=
 .seq (.reg [kO 2 (.mv (.ns))])
 (.seq (.seq (.reg [kM 3 0,kO 4 (.bin .eql 25 (.t 3) (.ns))])
 (.cond (.t 4) (.seq (.reg [kO 2 (.mv (.ns))])
 (.ret))
 (.skip)))
 (.seq (.reg [kO 5 (.bsl 25 0 []),kM 6 0,kO 7 (.bi .append [25,25] [.t 5,.t 6]),kM 2 7])
 (.ret)))
theorem b61:Body Try.prog 61 8 [2] k61:=⟨Enters.of Try.func61 (by kernel_rfl) (by kernel_rfl),_,_,Try.func61,rfl,by kernel_rfl,rfl,rfl⟩
def k62:KC:=
 .reg [kM 4 0,kM 5 0,kO 6 (.nc (.t 5)),kO 7 (.fa 102 (.t 6) 0),kO 8 (.ld 25 (.t 7)),kM 9 1,kO 10 (.bsl 25 1 [(0,.t 9)]),
 kO 11 (.bi .append [25,25] [.t 8,.t 10]),kO 12 (.nc (.t 4)),kO 13 (.fa 102 (.t 12) 0),kN (.st 25 (.t 13) (.t 11))]
theorem b62:Body Try.prog 62 14 [] k62:=⟨Enters.of Try.func62 (by kernel_rfl) (by kernel_rfl),_,_,Try.func62,rfl,by kernel_rfl,rfl,rfl⟩
def k63:KC:=
 .seq (.reg [kM 5 1,kO 6 (.cvt 3 145 (.t 5)),kM 4 6])
 (.reg [kM 7 0,kM 8 0,kO 9 (.nc (.t 8)),kO 10 (.fa 102 (.t 9) 0),kO 11 (.ld 25 (.t 10)),kM 12 4,kO 13 (.bin .shr 145 (.t 12) (.i .u64 24)),
 kO 14 (.bin .and 145 (.t 13) (.i .u64 255)),kO 15 (.cvt 145 5 (.t 14)),kM 16 4,kO 17 (.bin .shr 145 (.t 16) (.i .u64 16)),
 kO 18 (.bin .and 145 (.t 17) (.i .u64 255)),kO 19 (.cvt 145 5 (.t 18)),kM 20 4,kO 21 (.bin .shr 145 (.t 20) (.i .u64 8)),
 kO 22 (.bin .and 145 (.t 21) (.i .u64 255)),kO 23 (.cvt 145 5 (.t 22)),kM 24 4,kO 25 (.bin .and 145 (.t 24) (.i .u64 255)),
 kO 26 (.cvt 145 5 (.t 25)),kO 27 (.bsl 25 4 [(0,.t 15),(1,.t 19),(2,.t 23),(3,.t 26)]),kO 28 (.bi .append [25,25] [.t 11,.t 27]),
 kO 29 (.nc (.t 7)),kO 30 (.fa 102 (.t 29) 0),kN (.st 25 (.t 30) (.t 28))])
theorem b63:Body Try.prog 63 31 [] k63:=⟨Enters.of Try.func63 (by kernel_rfl) (by kernel_rfl),_,_,Try.func63,rfl,by kernel_rfl,rfl,rfl⟩
def k64:KC:=
 .seq (.reg [kO 2 (.mv (.i .u32 0))])
 (.seq (.reg [kM 3 0,kO 4 (.call (.fn 102) [.i .u32 0,.t 3]),kM 2 4])
 (.ret))
theorem b64:Body Try.prog 64 5 [2] k64:=⟨Enters.of Try.func64 (by kernel_rfl) (by kernel_rfl),_,_,Try.func64,rfl,by kernel_rfl,rfl,rfl⟩
def k65:KC:=
 .seq (.reg [kO 2 (.mv (.ns))])
 (.seq (.reg [kO 3 (.mv (.ns))])
 (.seq (.seq (.reg [kM 6 0,kO 7 (.bi .len [48] [.t 6]),kO 8 (.mv (kI 0))])
 (.block 0 (.loop (.seq (.reg [kO 9 (.bin .lss 3 (.t 8) (.t 7))])
 (.seq (.cond (.t 9) (.skip)
 (.exit 0))
 (.seq (.block 1 (.seq (.reg [kO 10 (.ia 48 (.t 6) (.t 8)),kO 11 (.ld 54 (.t 10)),kO 5 (.al 54),kN (.st 54 (.t 5) (.t 11))])
 (.reg [kM 12 3,kO 13 (.fa 54 (.t 5) 0),kO 14 (.ld 3 (.t 13)),kO 15 (.bsl 47 1 [(0,.t 14)]),kO 16 (.bi .append [47,47] [.t 12,.t 15]),kM 3 16])))
 (.reg [kO 17 (.bin .add 3 (.t 8) (kI 1)),kM 8 17])))))))
 (.seq (.reg [kM 18 3,kM 2 18])
 (.ret))))
theorem b65:Body Try.prog 65 19 [2] k65:=⟨Enters.of Try.func65 (by kernel_rfl) (by kernel_rfl),_,_,Try.func65,rfl,by kernel_rfl,rfl,rfl⟩
def k66:KC:=
 .seq (.reg [kO 2 (.mv (.ns))])
 (.seq (.reg [kO 3 (.mv (kI 0))])
 (.seq (.seq (.reg [kM 9 0,kO 10 (.bi .len [147] [.t 9]),kO 11 (.mv (kI 0))])
 (.block 0 (.loop (.seq (.reg [kO 12 (.bin .lss 3 (.t 11) (.t 10))])
 (.seq (.cond (.t 12) (.skip)
 (.exit 0))
 (.seq (.block 1 (.seq (.reg [kO 13 (.ia 147 (.t 9) (.t 11)),kO 14 (.ld 48 (.t 13)),kM 5 14])
 (.seq (.reg [kM 15 3,kM 16 5,kO 17 (.bi .len [48] [.t 16]),kO 18 (.bin .add 3 (.t 15) (.t 17)),kM 3 18])
 (.seq (.reg [kM 19 3,kO 20 (.bin .lss 3 (.t 19) (kI 0))])
 (.cond (.t 20) (.reg [kO 21 (.unk),kN (.unk)])
 (.skip))))))
 (.reg [kO 22 (.bin .add 3 (.t 11) (kI 1)),kM 11 22])))))))
 (.seq (.reg [kM 23 3,kO 24 (.call (.fn 103) [.ns,.t 23]),kM 6 24])
 (.seq (.seq (.reg [kM 25 0,kO 26 (.bi .len [147] [.t 25]),kO 27 (.mv (kI 0))])
 (.block 2 (.loop (.seq (.reg [kO 28 (.bin .lss 3 (.t 27) (.t 26))])
 (.seq (.cond (.t 28) (.skip)
 (.exit 2))
 (.seq (.block 3 (.seq (.reg [kO 29 (.ia 147 (.t 25) (.t 27)),kO 30 (.ld 48 (.t 29)),kM 8 30])
 (.reg [kM 31 6,kM 32 8,kO 33 (.bi .append [48,48] [.t 31,.t 32]),kM 6 33])))
 (.reg [kO 34 (.bin .add 3 (.t 27) (kI 1)),kM 27 34])))))))
 (.seq (.reg [kM 35 6,kM 2 35])
 (.ret))))))
theorem b66:Body Try.prog 66 36 [2] k66:=⟨Enters.of Try.func66 (by kernel_rfl) (by kernel_rfl),_,_,Try.func66,rfl,by kernel_rfl,rfl,rfl⟩
def k67:KC:=
 .seq (.reg [kO 3 (.box 48 (.t 0)),kO 5 (.box 50 (.t 2)),kO 6 (.mv (kI 0))])
 (.seq (.reg [kO 7 (.mv (.fn 104))])
 (.seq (.seq (.reg [kO 8 (.ld 50 (.t 5)),kO 9 (.call (.fn 95) [.t 8]),kO 10 (.un .not (.t 9)),kM 11 10,kG 12 11 (.ld 48 (.t 3)),kG 13 11 (.mv (.t 7)),
 kG 14 11 (.call (.fn 105) [.t 12,.t 13]),kO 15 (.pk (.t 11) (.b true) (.t 14)),kM 16 15,kG 17 16 (.mv (.t 1)),kG 18 16 (.mv (.t 7)),
 kG 19 16 (.call (.fn 105) [.t 17,.t 18]),kO 20 (.pk (.t 16) (.b true) (.t 19)),kM 21 20,kG 22 21 (.ld 48 (.t 3)),
 kG 23 21 (.call (.fn 106) [.t 22]),kG 24 21 (.bin .eql 3 (.t 23) (kI 0)),kO 25 (.pk (.t 21) (.b true) (.t 24)),kM 26 25,kG 27 26 (.ld 48 (.t 3)),
 kG 28 26 (.call (.fn 107) [.t 27,.fn 108]),kG 29 26 (.un .not (.t 28)),kO 30 (.pk (.t 26) (.b true) (.t 29))])
 (.cond (.t 30) (.seq (.reg [kO 6 (.mv (kI 1))])
 (.ret))
 (.skip)))
 (.seq (.seq (.reg [kM 31 1,kO 32 (.call (.fn 105) [.t 31,.fn 109])])
 (.cond (.t 32) (.seq (.reg [kO 6 (.mv (kI 11))])
 (.ret))
 (.skip)))
 (.seq (.seq (.reg [kM 33 1,kO 34 (.mf 110 [.t 3]),kO 35 (.call (.fn 105) [.t 33,.t 34])])
 (.cond (.t 35) (.seq (.reg [kO 6 (.mv (kI 6))])
 (.ret))
 (.skip)))
 (.seq (.reg [kO 6 (.mv (kI 0))])
 (.ret))))))
theorem b67:Body Try.prog 67 36 [6] k67:=⟨Enters.of Try.func67 (by kernel_rfl) (by kernel_rfl),_,_,Try.func67,rfl,by kernel_rfl,rfl,rfl⟩
def k68:KC:=
 .seq (.reg [kO 4 (.mv (.ns)),kO 5 (.mv (kI 0))])
 (.seq (.seq (.reg [kM 16 0,kO 17 (.call (.fn 111) [.t 16,.i .i64 (-1)]),kM 18 1,kO 19 (.call (.fn 14) [.t 17,.t 18]),kM 15 19,kO 20 (.ex (.t 15) 0),
 kO 21 (.ex (.t 15) 1),kM 6 20,kM 7 21])
 (.seq (.reg [kM 22 7,kO 23 (.bin .neq 26 (.t 22) (kI 0))])
 (.cond (.t 23) (.seq (.reg [kM 24 7,kO 4 (.mv (.ns)),kM 5 24])
 (.ret))
 (.skip))))
 (.seq (.reg [kM 25 1,kO 26 (.mk 111 (.t 25) (.t 25)),kM 8 26])
 (.seq (.seq (.reg [kM 27 0,kO 28 (.call (.fn 106) [.t 27]),kO 29 (.mv (kI 0))])
 (.block 0 (.loop (.seq (.reg [kO 30 (.bin .lss 3 (.t 29) (.t 28))])
 (.seq (.cond (.t 30) (.skip)
 (.exit 0))
 (.seq (.block 1 (.seq (.reg [kM 31 29,kM 9 31])
 (.seq (.reg [kM 32 0,kM 33 9,kO 34 (.call (.fn 111) [.t 32,.t 33]),kM 10 34])
 (.seq (.seq (.reg [kM 35 10,kO 36 (.call (.fn 80) [.t 35,.fn 112])])
 (.cond (.t 36) (.seq (.reg [kO 4 (.mv (.ns)),kO 5 (.mv (kI 1))])
 (.ret))
 (.skip)))
 (.seq (.reg [kM 38 10,kM 39 1,kO 40 (.call (.fn 14) [.t 38,.t 39]),kM 37 40,kO 41 (.ex (.t 37) 0),kO 42 (.ex (.t 37) 1),kM 11 41,kM 12 42])
 (.seq (.seq (.reg [kM 43 12,kO 44 (.bin .neq 26 (.t 43) (kI 0))])
 (.cond (.t 44) (.seq (.reg [kM 45 12,kO 4 (.mv (.ns)),kM 5 45])
 (.ret))
 (.skip)))
 (.seq (.reg [kM 46 11,kO 47 (.bi .len [22] [.t 46]),kO 48 (.mv (kI 0))])
 (.block 2 (.loop (.seq (.reg [kO 49 (.bin .lss 3 (.t 48) (.t 47))])
 (.seq (.cond (.t 49) (.skip)
 (.exit 2))
 (.seq (.block 3 (.seq (.reg [kM 50 48,kO 51 (.ia 22 (.t 46) (.t 48)),kO 52 (.ld 25 (.t 51)),kM 13 50,kM 14 52])
 (.reg [kM 53 8,kM 54 13,kM 55 8,kM 56 13,kO 57 (.ia 111 (.t 55) (.t 56)),kO 58 (.ld 22 (.t 57)),kM 59 14,kO 60 (.bsl 22 1 [(0,.t 59)]),
 kO 61 (.bi .append [22,22] [.t 58,.t 60]),kO 62 (.ia 111 (.t 53) (.t 54)),kN (.st 22 (.t 62) (.t 61))])))
 (.reg [kO 63 (.bin .add 3 (.t 48) (kI 1)),kM 48 63])))))))))))))
 (.reg [kO 64 (.bin .add 3 (.t 29) (kI 1)),kM 29 64])))))))
 (.seq (.reg [kM 65 8,kM 4 65,kO 5 (.mv (kI 0))])
 (.ret)))))
theorem b68:Body Try.prog 68 66 [4,5] k68:=⟨Enters.of Try.func68 (by kernel_rfl) (by kernel_rfl),_,_,Try.func68,rfl,by kernel_rfl,rfl,rfl⟩
def k69:KC:=
 .seq (.reg [kO 3 (.box 54 (.t 0)),kO 4 (.box 50 (.t 1)),kO 6 (.al 54),kO 7 (.mv (kI 0))])
 (.seq (.reg [kO 16 (.bsl 25 1 [(0,.i .u8 80)]),kO 17 (.cvt 25 25 (.t 16)),kO 18 (.bld 68 [(0,.i .i64 1),(3,.t 17)]),kO 19 (.bsl 151 1 [(0,.t 18)]),kM 8 19])
 (.seq (.seq (.reg [kM 20 2,kO 21 (.bi .len [22] [.t 20]),kO 22 (.mv (kI 0))])
 (.block 0 (.loop (.seq (.reg [kO 23 (.bin .lss 3 (.t 22) (.t 21))])
 (.seq (.cond (.t 23) (.skip)
 (.exit 0))
 (.seq (.block 1 (.seq (.reg [kO 24 (.ia 22 (.t 20) (.t 22)),kO 25 (.ld 25 (.t 24)),kM 10 25])
 (.reg [kM 26 8,kM 27 10,kO 28 (.bld 68 [(0,.i .i64 6),(3,.t 27)]),kO 29 (.bsl 151 1 [(0,.t 28)]),kO 30 (.bi .append [151,151] [.t 26,.t 29]),
 kM 8 30])))
 (.reg [kO 31 (.bin .add 3 (.t 22) (kI 1)),kM 22 31])))))))
 (.seq (.reg [kM 32 8,kO 33 (.ld 50 (.t 4)),kO 34 (.call (.fn 113) [.t 33]),kO 35 (.bld 68 [(0,.i .i64 5),(3,.t 34)]),kO 36 (.bsl 151 1 [(0,.t 35)]),
 kO 37 (.bi .append [151,151] [.t 32,.t 36]),kM 8 37])
 (.seq (.reg [kO 38 (.fa 54 (.t 3) 0),kO 39 (.ld 3 (.t 38)),kO 40 (.fa 54 (.t 3) 1),kO 41 (.ld 3 (.t 40)),kO 42 (.bld 54 [(0,.t 39),(1,.t 41)]),
 kO 11 (.al 54),kN (.st 54 (.t 11) (.t 42))])
 (.seq (.seq (.reg [kM 43 8,kO 44 (.bi .len [151] [.t 43]),kO 45 (.mv (kI 0))])
 (.block 2 (.loop (.seq (.reg [kO 46 (.bin .lss 3 (.t 45) (.t 44))])
 (.seq (.cond (.t 46) (.skip)
 (.exit 2))
 (.seq (.block 3 (.seq (.reg [kM 47 45,kO 48 (.ia 151 (.t 43) (.t 45)),kO 49 (.ld 68 (.t 48)),kO 13 (.al 68),kM 12 47,kN (.st 68 (.t 13) (.t 49))])
 (.seq (.reg [kO 50 (.fa 54 (.t 3) 0),kO 51 (.ld 3 (.t 50)),kM 52 12,kO 53 (.fa 68 (.t 13) 1),kN (.st 3 (.t 53) (.t 51)),kO 54 (.fa 68 (.t 13) 2),
 kN (.st 3 (.t 54) (.t 52))])
 (.seq (.reg [kO 56 (.ld 68 (.t 13)),kO 57 (.call (.fn 114) [.t 56]),kM 55 57,kO 58 (.ex (.t 55) 0),kO 59 (.ex (.t 55) 1),kM 14 58,kM 15 59])
 (.seq (.seq (.reg [kM 60 15,kO 61 (.bin .neq 26 (.t 60) (kI 0))])
 (.cond (.t 61) (.seq (.reg [kO 62 (.bld 54 []),kM 63 15,kN (.st 54 (.t 6) (.t 62)),kM 7 63])
 (.ret))
 (.skip)))
 (.reg [kO 64 (.fa 54 (.t 11) 2),kO 65 (.ld 22 (.t 64)),kM 66 14,kO 67 (.bsl 22 1 [(0,.t 66)]),kO 68 (.bi .append [22,22] [.t 65,.t 67]),
 kO 69 (.fa 54 (.t 11) 2),kN (.st 22 (.t 69) (.t 68))]))))))
 (.reg [kO 70 (.bin .add 3 (.t 45) (kI 1)),kM 45 70])))))))
 (.seq (.reg [kO 71 (.ld 54 (.t 11)),kN (.st 54 (.t 6) (.t 71)),kO 7 (.mv (kI 0))])
 (.ret)))))))
def k70:KC:=
 .seq (.reg [kO 1 (.box 54 (.t 0)),kO 2 (.al 50),kO 3 (.mv (.b false))])
 (.seq (.reg [kO 9 (.ld 54 (.t 1)),kO 10 (.fa 54 (.t 1) 2),kO 11 (.ld 22 (.t 10)),kO 12 (.bi .len [22] [.t 11]),kO 13 (.bin .sub 3 (.t 12) (kI 1)),
 kO 14 (.call (.fn 115) [.t 9,.t 13]),kM 8 14,kO 15 (.ex (.t 8) 0),kO 16 (.ex (.t 8) 1),kO 4 (.al 68),kN (.st 68 (.t 4) (.t 15)),kM 5 16])
 (.seq (.seq (.reg [kM 17 5,kO 18 (.un .not (.t 17)),kM 19 18,kG 20 19 (.fa 68 (.t 4) 0),kG 21 19 (.ld 3 (.t 20)),kG 22 19 (.bin .neq 3 (.t 21) (kI 5)),
 kO 23 (.pk (.t 19) (.b true) (.t 22))])
 (.cond (.t 23) (.seq (.reg [kO 24 (.bld 50 []),kN (.st 50 (.t 2) (.t 24)),kO 3 (.mv (.b false))])
 (.ret))
 (.skip)))
 (.seq (.reg [kO 26 (.fa 68 (.t 4) 3),kO 27 (.ld 25 (.t 26)),kO 28 (.call (.fn 116) [.t 27]),kM 25 28,kO 29 (.ex (.t 25) 0),kO 30 (.ex (.t 25) 1),
 kO 6 (.al 50),kN (.st 50 (.t 6) (.t 29)),kM 7 30])
 (.seq (.reg [kO 31 (.ld 50 (.t 6)),kM 32 7,kO 33 (.bin .eql 26 (.t 32) (kI 0)),kN (.st 50 (.t 2) (.t 31)),kM 3 33])
 (.ret)))))
def k71:KC:=
 .seq (.reg [kO 4 (.mv (.b false))])
 (.seq (.reg [kM 5 0,kM 6 1,kO 7 (.call (.fn 117) [.t 5,.t 6]),kO 8 (.bin .geq 3 (.t 7) (kI 0)),kM 4 8])
 (.ret))
theorem b71:Body Try.prog 71 9 [4] k71:=⟨Enters.of Try.func71 (by kernel_rfl) (by kernel_rfl),_,_,Try.func71,rfl,by kernel_rfl,rfl,rfl⟩
def k72:KC:=
 .seq (.reg [kO 2 (.box 50 (.t 0)),kO 3 (.mv (.b false))])
 (.seq (.reg [kO 4 (.fa 50 (.t 2) 0),kO 5 (.ld 3 (.t 4)),kO 6 (.fa 50 (.t 1) 0),kO 7 (.ld 3 (.t 6)),kO 8 (.bin .eql 3 (.t 5) (.t 7)),kM 3 8])
 (.ret))
theorem b72:Body Try.prog 72 9 [3] k72:=⟨Enters.of Try.func72 (by kernel_rfl) (by kernel_rfl),_,_,Try.func72,rfl,by kernel_rfl,rfl,rfl⟩
def k73:KC:=
 .seq (.reg [kM 5 0,kO 6 (.bi .len [71] [.t 5]),kM 4 6])
 (.reg [kM 7 0,kM 8 4,kM 9 4,kO 10 (.cvt 3 105 (.t 9)),kO 11 (.call (.fn 86) [.t 10]),kM 12 1,
 kO 13 (.call (.fn 118) [.t 7,.i .i64 0,.t 8,.t 11,.t 12])])
theorem b73:Body Try.prog 73 14 [] k73:=⟨Enters.of Try.func73 (by kernel_rfl) (by kernel_rfl),_,_,Try.func73,rfl,by kernel_rfl,rfl,rfl⟩
def k74:KC:=
 .seq (.reg [kO 2 (.box 50 (.t 0)),kO 3 (.box 50 (.t 1)),kO 4 (.mv (kI 0))])
 (.seq (.reg [kO 5 (.fa 50 (.t 2) 0),kO 6 (.ld 3 (.t 5)),kO 7 (.fa 50 (.t 3) 0),kO 8 (.ld 3 (.t 7)),kO 9 (.call (.fn 75) [.t 6,.t 8]),kM 4 9])
 (.ret))
theorem b74:Body Try.prog 74 10 [4] k74:=⟨Enters.of Try.func74 (by kernel_rfl) (by kernel_rfl),_,_,Try.func74,rfl,by kernel_rfl,rfl,rfl⟩
def k75:KC:=
 .seq (.reg [kO 4 (.mv (kI 0))])
 (.seq (.reg [kM 7 0,kO 8 (.call (.fn 119) [.t 7]),kM 5 8])
 (.seq (.reg [kM 9 1,kO 10 (.call (.fn 119) [.t 9]),kM 6 10])
 (.seq (.seq (.reg [kM 11 5])
 (.cond (.t 11) (.seq (.seq (.reg [kM 12 6])
 (.cond (.t 12) (.seq (.reg [kO 4 (.mv (kI 0))])
 (.ret))
 (.skip)))
 (.seq (.reg [kO 4 (.mv (kI (-1)))])
 (.ret)))
 (.skip)))
 (.seq (.seq (.reg [kM 13 6])
 (.cond (.t 13) (.seq (.reg [kO 4 (.mv (kI 1))])
 (.ret))
 (.skip)))
 (.seq (.seq (.reg [kM 14 0,kM 15 1,kO 16 (.bin .lss 3 (.t 14) (.t 15))])
 (.cond (.t 16) (.seq (.reg [kO 4 (.mv (kI (-1)))])
 (.ret))
 (.skip)))
 (.seq (.seq (.reg [kM 17 0,kM 18 1,kO 19 (.bin .gtr 3 (.t 17) (.t 18))])
 (.cond (.t 19) (.seq (.reg [kO 4 (.mv (kI 1))])
 (.ret))
 (.skip)))
 (.seq (.reg [kO 4 (.mv (kI 0))])
 (.ret))))))))
theorem b75:Body Try.prog 75 20 [4] k75:=⟨Enters.of Try.func75 (by kernel_rfl) (by kernel_rfl),_,_,Try.func75,rfl,by kernel_rfl,rfl,rfl⟩
def k76:KC:=
 .seq (.reg [kO 4 (.mv (.b false))])
 (.seq (.reg [kM 5 0,kM 6 1,kO 7 (.call (.fn 96) [.t 5,.t 6]),kO 8 (.bin .geq 3 (.t 7) (kI 0)),kM 4 8])
 (.ret))
theorem b76:Body Try.prog 76 9 [4] k76:=⟨Enters.of Try.func76 (by kernel_rfl) (by kernel_rfl),_,_,Try.func76,rfl,by kernel_rfl,rfl,rfl⟩
def k80:KC:=
 .seq (.reg [kO 4 (.mv (.b false))])
 (.seq (.reg [kM 5 0,kM 6 1,kO 7 (.call (.fn 122) [.t 5,.t 6]),kO 8 (.bin .geq 3 (.t 7) (kI 0)),kM 4 8])
 (.ret))
theorem b80:Body Try.prog 80 9 [4] k80:=⟨Enters.of Try.func80 (by kernel_rfl) (by kernel_rfl),_,_,Try.func80,rfl,by kernel_rfl,rfl,rfl⟩
def k81:KC:=
 .seq (.reg [kO 3 (.mv (.b false))])
 (.seq (.reg [kM 4 0,kO 5 (.bi .len [25] [.t 4]),kO 6 (.ld 22 (.t 1)),kO 7 (.ia 22 (.t 6) (kI 0)),kO 8 (.ld 25 (.t 7)),kO 9 (.bi .len [25] [.t 8]),
 kO 10 (.bin .neq 3 (.t 5) (.t 9)),kM 3 10])
 (.ret))
theorem b81:Body Try.prog 81 11 [3] k81:=⟨Enters.of Try.func81 (by kernel_rfl) (by kernel_rfl),_,_,Try.func81,rfl,by kernel_rfl,rfl,rfl⟩
def k82:KC:=
 .seq (.reg [kO 2 (.mv (.i .u8 0))])
 (.seq (.reg [kM 3 0,kO 4 (.call (.fn 126) [.t 3,.i .i64 254]),kM 2 4])
 (.ret))
theorem b82:Body Try.prog 82 5 [2] k82:=⟨Enters.of Try.func82 (by kernel_rfl) (by kernel_rfl),_,_,Try.func82,rfl,by kernel_rfl,rfl,rfl⟩
def k83:KC:=
 .seq (.reg [kO 4 (.mv (.i .u8 0))])
 (.seq (.reg [kM 5 0,kM 6 1,kO 7 (.bin .xor 5 (.t 5) (.t 6)),kM 4 7])
 (.ret))
theorem b83:Body Try.prog 83 8 [4] k83:=⟨Enters.of Try.func83 (by kernel_rfl) (by kernel_rfl),_,_,Try.func83,rfl,by kernel_rfl,rfl,rfl⟩
def k84:KC:=
 .seq (.reg [kO 4 (.mv (.ns)),kO 5 (.mv (kI 0))])
 (.seq (.seq (.reg [kM 6 0,kO 7 (.call (.fn 120) [.t 6]),kO 8 (.un .not (.t 7)),kM 9 8,kG 10 9 (.mv (.t 1)),kG 11 9 (.bi .len [25] [.t 10]),kG 12 9 (.mv (.t 0)),
 kG 13 9 (.ia 22 (.t 12) (kI 0)),kG 14 9 (.ld 25 (.t 13)),kG 15 9 (.bi .len [25] [.t 14]),kG 16 9 (.bin .neq 3 (.t 11) (.t 15)),
 kO 17 (.pk (.t 9) (.b true) (.t 16))])
 (.cond (.t 17) (.seq (.reg [kO 4 (.mv (.ns)),kO 5 (.mv (kI 1))])
 (.ret))
 (.skip)))
 (.seq (.reg [kM 18 0,kM 19 1,kO 20 (.call (.fn 127) [.t 18,.t 19]),kM 4 20,kO 5 (.mv (kI 0))])
 (.ret)))
theorem b84:Body Try.prog 84 21 [4,5] k84:=⟨Enters.of Try.func84 (by kernel_rfl) (by kernel_rfl),_,_,Try.func84,rfl,by kernel_rfl,rfl,rfl⟩
def k86:KC:=
 .seq (.reg [kO 2 (.mv (kI 0))])
 (.seq (.cond (.b false) (.seq (.reg [kM 3 0,kO 4 (.cvt 105 106 (.t 3)),kO 5 (.call (.fn 137) [.t 4]),kM 2 5])
 (.ret))
 (.skip))
 (.seq (.reg [kM 6 0,kO 7 (.call (.fn 138) [.t 6]),kM 2 7])
 (.ret)))
theorem b86:Body Try.prog 86 8 [2] k86:=⟨Enters.of Try.func86 (by kernel_rfl) (by kernel_rfl),_,_,Try.func86,rfl,by kernel_rfl,rfl,rfl⟩
def k95:KC:=
 .seq (.reg [kO 1 (.box 50 (.t 0)),kO 2 (.mv (.b false))])
 (.seq (.seq (.reg [kO 6 (.fa 50 (.t 1) 0),kO 7 (.ld 3 (.t 6)),kO 8 (.call (.fn 147) [.t 7,.i .i64 1,.i .i64 1073741824]),kO 9 (.un .not (.t 8)),kM 10 9,
 kG 11 10 (.fa 50 (.t 1) 2),kG 12 10 (.ld 3 (.t 11)),kG 13 10 (.call (.fn 147) [.t 12,.i .i64 1,.i .i64 14]),kG 14 10 (.un .not (.t 13)),
 kO 15 (.pk (.t 10) (.b true) (.t 14)),kM 16 15,kG 17 16 (.fa 50 (.t 1) 3),kG 18 16 (.ld 3 (.t 17)),kG 19 16 (.fa 50 (.t 1) 2),
 kG 20 16 (.ld 3 (.t 19)),kG 21 16 (.bin .sub 3 (kI 14) (.t 20)),kG 22 16 (.call (.fn 147) [.t 18,.i .i64 1,.t 21]),kG 23 16 (.un .not (.t 22)),
 kO 24 (.pk (.t 16) (.b true) (.t 23))])
 (.cond (.t 24) (.seq (.reg [kO 2 (.mv (.b false))])
 (.ret))
 (.skip)))
 (.seq (.reg [kO 25 (.fa 50 (.t 1) 2),kO 26 (.ld 3 (.t 25)),kO 27 (.fa 50 (.t 1) 3),kO 28 (.ld 3 (.t 27)),kO 29 (.bin .add 3 (.t 26) (.t 28)),kM 3 29])
 (.seq (.seq (.reg [kO 30 (.fa 50 (.t 1) 1),kO 31 (.ld 3 (.t 30)),kM 32 3,kO 33 (.bin .sub 3 (.t 32) (kI 1)),kO 34 (.call (.fn 147) [.t 31,.i .i64 0,.t 33]),
 kO 35 (.un .not (.t 34)),kM 36 35,kG 37 36 (.fa 50 (.t 1) 4),kG 38 36 (.ld 47 (.t 37)),kG 39 36 (.bi .len [47] [.t 38]),kG 40 36 (.mv (.t 3)),
 kG 41 36 (.bin .neq 3 (.t 39) (.t 40)),kO 42 (.pk (.t 36) (.b true) (.t 41))])
 (.cond (.t 42) (.seq (.reg [kO 2 (.mv (.b false))])
 (.ret))
 (.skip)))
 (.seq (.seq (.reg [kO 43 (.fa 50 (.t 1) 4),kO 44 (.ld 47 (.t 43)),kO 45 (.bi .len [47] [.t 44]),kO 46 (.mv (kI 0))])
 (.block 0 (.loop (.seq (.reg [kO 47 (.bin .lss 3 (.t 46) (.t 45))])
 (.seq (.cond (.t 47) (.skip)
 (.exit 0))
 (.seq (.block 1 (.seq (.reg [kM 48 46,kO 49 (.ia 47 (.t 44) (.t 46)),kO 50 (.ld 3 (.t 49)),kM 4 48,kM 5 50])
 (.seq (.reg [kM 51 5,kO 52 (.call (.fn 147) [.t 51,.i .i64 1,.i .i64 2147483647]),kO 53 (.un .not (.t 52)),kM 54 53,kG 55 54 (.fa 50 (.t 1) 4),
 kG 56 54 (.ld 47 (.t 55)),kG 57 54 (.mv (.t 4)),kG 58 54 (.sli 47 (.t 56) none (some (.t 57)) none),kG 59 54 (.mv (.t 5)),
 kG 60 54 (.call (.fn 76) [.t 58,.t 59]),kO 61 (.pk (.t 54) (.b true) (.t 60))])
 (.cond (.t 61) (.seq (.reg [kO 2 (.mv (.b false))])
 (.ret))
 (.skip)))))
 (.reg [kO 62 (.bin .add 3 (.t 46) (kI 1)),kM 46 62])))))))
 (.seq (.reg [kO 2 (.mv (.b true))])
 (.ret))))))
theorem b95:Body Try.prog 95 63 [2] k95:=⟨Enters.of Try.func95 (by kernel_rfl) (by kernel_rfl),_,_,Try.func95,rfl,by kernel_rfl,rfl,rfl⟩
def k96:KC:=
 .seq (.reg [kO 4 (.mv (kI 0))])
 (.seq (.seq (.reg [kM 6 0,kO 7 (.bi .len [47] [.t 6]),kO 8 (.mv (kI 0))])
 (.block 0 (.loop (.seq (.reg [kO 9 (.bin .lss 3 (.t 8) (.t 7))])
 (.seq (.cond (.t 9) (.skip)
 (.exit 0))
 (.seq (.block 1 (.seq (.reg [kM 10 8,kM 5 10])
 (.seq (.reg [kM 11 1,kM 12 0,kM 13 5,kO 14 (.ia 47 (.t 12) (.t 13)),kO 15 (.ld 3 (.t 14)),kO 16 (.bin .eql 3 (.t 11) (.t 15))])
 (.cond (.t 16) (.seq (.reg [kM 17 5,kM 4 17])
 (.ret))
 (.skip)))))
 (.reg [kO 18 (.bin .add 3 (.t 8) (kI 1)),kM 8 18])))))))
 (.seq (.reg [kO 4 (.mv (kI (-1)))])
 (.ret)))
theorem b96:Body Try.prog 96 19 [4] k96:=⟨Enters.of Try.func96 (by kernel_rfl) (by kernel_rfl),_,_,Try.func96,rfl,by kernel_rfl,rfl,rfl⟩
def k102:KC:=
 .seq (.reg [kO 4 (.mv (.i .u32 0))])
 (.seq (.reg [kM 8 0,kO 9 (.bin .xor 106 (.t 8) (.i .u32 4294967295)),kM 5 9])
 (.seq (.seq (.reg [kO 6 (.mv (kI 0))])
 (.block 0 (.loop (.seq (.seq (.reg [kM 10 6,kM 11 1,kO 12 (.bi .len [25] [.t 11]),kO 13 (.bin .lss 3 (.t 10) (.t 12))])
 (.cond (.t 13) (.skip)
 (.exit 0)))
 (.seq (.block 1 (.seq (.reg [kM 16 5,kM 17 1,kM 18 6,kO 19 (.ia 25 (.t 17) (.t 18)),kO 20 (.ld 5 (.t 19)),kO 21 (.cvt 5 106 (.t 20)),kO 22 (.bin .xor 106 (.t 16) (.t 21)),
 kM 5 22])
 (.seq (.reg [kO 7 (.mv (kI 0))])
 (.block 2 (.loop (.seq (.seq (.reg [kM 23 7,kO 24 (.bin .lss 3 (.t 23) (kI 8))])
 (.cond (.t 24) (.skip)
 (.exit 2)))
 (.seq (.block 3 (.seq (.reg [kM 27 5,kO 28 (.bin .and 106 (.t 27) (.i .u32 1)),kO 29 (.bin .eql 106 (.t 28) (.i .u32 1))])
 (.cond (.t 29) (.reg [kM 30 5,kO 31 (.bin .shr 106 (.t 30) (.i .u64 1)),kO 32 (.bin .xor 106 (.t 31) (.i .u32 2197175160)),kM 5 32])
 (.reg [kM 33 5,kO 34 (.bin .shr 106 (.t 33) (.i .u64 1)),kM 5 34]))))
 (.reg [kM 25 7,kO 26 (.bin .add 3 (.t 25) (kI 1)),kM 7 26]))))))))
 (.reg [kM 14 6,kO 15 (.bin .add 3 (.t 14) (kI 1)),kM 6 15]))))))
 (.seq (.reg [kM 35 5,kO 36 (.bin .xor 106 (.t 35) (.i .u32 4294967295)),kM 4 36])
 (.ret))))
theorem b102:Body Try.prog 102 37 [4] k102:=⟨Enters.of Try.func102 (by kernel_rfl) (by kernel_rfl),_,_,Try.func102,rfl,by kernel_rfl,rfl,rfl⟩
def k103:KC:=
 .seq (.reg [kO 4 (.mv (.ns))])
 (.seq (.seq (.reg [kM 5 1,kO 6 (.bin .lss 3 (.t 5) (kI 0))])
 (.cond (.t 6) (.reg [kO 7 (.unk),kN (.unk)])
 (.skip)))
 (.seq (.seq (.reg [kM 8 1,kM 9 0,kO 10 (.bi .cap [48] [.t 9]),kM 11 0,kO 12 (.bi .len [48] [.t 11]),kO 13 (.bin .sub 3 (.t 10) (.t 12)),
 kO 14 (.bin .sub 3 (.t 8) (.t 13)),kM 1 14])
 (.seq (.reg [kM 15 1,kO 16 (.bin .gtr 3 (.t 15) (kI 0))])
 (.cond (.t 16) (.reg [kM 17 0,kM 18 0,kO 19 (.bi .cap [48] [.t 18]),kO 20 (.sli 48 (.t 17) none (some (.t 19)) none),kM 21 1,
 kO 22 (.bi .append [48,3] [.t 20,.t 21]),kM 23 0,kO 24 (.bi .len [48] [.t 23]),kO 25 (.sli 48 (.t 22) none (some (.t 24)) none),kM 0 25])
 (.skip))))
 (.seq (.reg [kM 26 0,kM 4 26])
 (.ret))))
theorem b103:Body Try.prog 103 27 [4] k103:=⟨Enters.of Try.func103 (by kernel_rfl) (by kernel_rfl),_,_,Try.func103,rfl,by kernel_rfl,rfl,rfl⟩
def k104:KC:=
 .seq (.reg [kO 1 (.box 54 (.t 0)),kO 2 (.mv (.b false))])
 (.seq (.reg [kO 3 (.fa 54 (.t 1) 3),kO 4 (.ld 4 (.t 3)),kM 2 4])
 (.ret))
theorem b104:Body Try.prog 104 5 [2] k104:=⟨Enters.of Try.func104 (by kernel_rfl) (by kernel_rfl),_,_,Try.func104,rfl,by kernel_rfl,rfl,rfl⟩
def k105:KC:=
 .seq (.reg [kO 4 (.mv (.b false))])
 (.seq (.reg [kM 5 0,kM 6 1,kO 7 (.call (.fn 56) [.t 5,.t 6]),kO 8 (.bin .geq 3 (.t 7) (kI 0)),kM 4 8])
 (.ret))
theorem b105:Body Try.prog 105 9 [4] k105:=⟨Enters.of Try.func105 (by kernel_rfl) (by kernel_rfl),_,_,Try.func105,rfl,by kernel_rfl,rfl,rfl⟩
def k106:KC:=
 .seq (.reg [kO 2 (.mv (kI 0))])
 (.seq (.reg [kO 3 (.mv (kI 0))])
 (.seq (.seq (.reg [kM 6 0,kO 7 (.bi .len [48] [.t 6]),kO 8 (.mv (kI 0))])
 (.block 0 (.loop (.seq (.reg [kO 9 (.bin .lss 3 (.t 8) (.t 7))])
 (.seq (.cond (.t 9) (.skip)
 (.exit 0))
 (.seq (.block 1 (.seq (.reg [kO 10 (.ia 48 (.t 6) (.t 8)),kO 11 (.ld 54 (.t 10)),kO 5 (.al 54),kN (.st 54 (.t 5) (.t 11))])
 (.seq (.reg [kO 12 (.fa 54 (.t 5) 3),kO 13 (.ld 4 (.t 12)),kO 14 (.un .not (.t 13))])
 (.cond (.t 14) (.reg [kM 15 3,kO 16 (.fa 54 (.t 5) 2),kO 17 (.ld 22 (.t 16)),kO 18 (.bi .len [22] [.t 17]),kO 19 (.bi .max [3,3] [.t 15,.t 18]),kM 3 19])
 (.skip)))))
 (.reg [kO 20 (.bin .add 3 (.t 8) (kI 1)),kM 8 20])))))))
 (.seq (.reg [kM 21 3,kM 2 21])
 (.ret))))
theorem b106:Body Try.prog 106 22 [2] k106:=⟨Enters.of Try.func106 (by kernel_rfl) (by kernel_rfl),_,_,Try.func106,rfl,by kernel_rfl,rfl,rfl⟩
def k107:KC:=
 .seq (.reg [kO 4 (.mv (.b false))])
 (.seq (.seq (.reg [kM 7 0,kO 8 (.bi .len [48] [.t 7]),kO 9 (.mv (kI 0))])
 (.block 0 (.loop (.seq (.reg [kO 10 (.bin .lss 3 (.t 9) (.t 8))])
 (.seq (.cond (.t 10) (.skip)
 (.exit 0))
 (.seq (.block 1 (.seq (.reg [kO 11 (.ia 48 (.t 7) (.t 9)),kO 12 (.ld 54 (.t 11)),kO 6 (.al 54),kN (.st 54 (.t 6) (.t 12))])
 (.seq (.reg [kM 13 1,kO 14 (.ld 54 (.t 6)),kO 15 (.call (.t 13) [.t 14]),kO 16 (.un .not (.t 15))])
 (.cond (.t 16) (.seq (.reg [kO 4 (.mv (.b false))])
 (.ret))
 (.skip)))))
 (.reg [kO 17 (.bin .add 3 (.t 9) (kI 1)),kM 9 17])))))))
 (.seq (.reg [kO 4 (.mv (.b true))])
 (.ret)))
theorem b107:Body Try.prog 107 18 [4] k107:=⟨Enters.of Try.func107 (by kernel_rfl) (by kernel_rfl),_,_,Try.func107,rfl,by kernel_rfl,rfl,rfl⟩
def k108:KC:=
 .seq (.reg [kO 1 (.box 54 (.t 0)),kO 2 (.mv (.b false))])
 (.seq (.seq (.reg [kO 6 (.fa 54 (.t 1) 2),kO 7 (.ld 22 (.t 6)),kO 8 (.bi .len [22] [.t 7]),kO 9 (.mv (kI 0))])
 (.block 0 (.loop (.seq (.reg [kO 10 (.bin .lss 3 (.t 9) (.t 8))])
 (.seq (.cond (.t 10) (.skip)
 (.exit 0))
 (.seq (.block 1 (.seq (.reg [kM 11 9,kM 3 11])
 (.seq (.reg [kO 13 (.ld 54 (.t 1)),kM 14 3,kO 15 (.call (.fn 115) [.t 13,.t 14]),kM 12 15,kO 16 (.ex (.t 12) 0),kO 17 (.ex (.t 12) 1),kO 4 (.al 68),
 kN (.st 68 (.t 4) (.t 16)),kM 5 17])
 (.seq (.reg [kM 18 5,kO 19 (.un .not (.t 18))])
 (.cond (.t 19) (.seq (.reg [kO 2 (.mv (.b false))])
 (.ret))
 (.skip))))))
 (.reg [kO 20 (.bin .add 3 (.t 9) (kI 1)),kM 9 20])))))))
 (.seq (.reg [kO 2 (.mv (.b true))])
 (.ret)))
theorem b108:Body Try.prog 108 21 [2] k108:=⟨Enters.of Try.func108 (by kernel_rfl) (by kernel_rfl),_,_,Try.func108,rfl,by kernel_rfl,rfl,rfl⟩
def k109:KC:=
 .seq (.reg [kO 1 (.box 54 (.t 0)),kO 2 (.mv (.b false))])
 (.seq (.reg [kO 3 (.fa 54 (.t 1) 2),kO 4 (.ld 22 (.t 3)),kO 5 (.bi .len [22] [.t 4]),kO 6 (.bin .gtr 3 (.t 5) (kI 0)),kM 2 6])
 (.ret))
theorem b109:Body Try.prog 109 7 [2] k109:=⟨Enters.of Try.func109 (by kernel_rfl) (by kernel_rfl),_,_,Try.func109,rfl,by kernel_rfl,rfl,rfl⟩
noncomputable def drw110_0:Array Oper:=((Try.f110.body.map regs).getD []).getD 0 #[]
noncomputable def k110:KC:=
 .seq (.reg [kO 2 (.box 54 (.t 0)),kO 3 (.mv (.b false))])
 (.seq (.drw drw110_0 [kO 4 (.ld 48 (.t 1)),kO 5 (.call (.fn 106) [.t 4]),kO 6 (.bin .add 3 (.t 5) (kI 2)),kO 7 (.fa 54 (.t 2) 1),kO 8 (.ld 3 (.t 7)),
 kO 9 (.bin .gtr 3 (.t 6) (.t 8)),kM 3 9])
 (.ret))
theorem b110:Body Try.prog 110 10 [3] k110:=⟨Enters.of Try.func110 (by kernel_rfl) (by kernel_rfl),_,_,Try.func110,rfl,by kernel_rfl,rfl,rfl⟩
def k111:KC:=
 .seq (.reg [kO 4 (.mv (.ns))])
 (.seq (.reg [kO 5 (.mv (.ns))])
 (.seq (.seq (.reg [kM 8 0,kO 9 (.bi .len [48] [.t 8]),kO 10 (.mv (kI 0))])
 (.block 0 (.loop (.seq (.reg [kO 11 (.bin .lss 3 (.t 10) (.t 9))])
 (.seq (.cond (.t 11) (.skip)
 (.exit 0))
 (.seq (.block 1 (.seq (.reg [kO 12 (.ia 48 (.t 8) (.t 10)),kO 13 (.ld 54 (.t 12)),kO 7 (.al 54),kN (.st 54 (.t 7) (.t 13))])
 (.reg [kM 14 5,kO 15 (.ld 54 (.t 7)),kM 16 1,kO 17 (.call (.fn 150) [.t 15,.t 16]),kO 18 (.bsl 22 1 [(0,.t 17)]),
 kO 19 (.bi .append [22,22] [.t 14,.t 18]),kM 5 19])))
 (.reg [kO 20 (.bin .add 3 (.t 10) (kI 1)),kM 10 20])))))))
 (.seq (.reg [kM 21 5,kM 4 21])
 (.ret))))
theorem b111:Body Try.prog 111 22 [4] k111:=⟨Enters.of Try.func111 (by kernel_rfl) (by kernel_rfl),_,_,Try.func111,rfl,by kernel_rfl,rfl,rfl⟩
def k112:KC:=
 .seq (.reg [kO 2 (.mv (.b false))])
 (.seq (.reg [kM 3 0,kO 4 (.bi .len [25] [.t 3]),kO 5 (.bin .eql 3 (.t 4) (kI 0)),kM 2 5])
 (.ret))
theorem b112:Body Try.prog 112 6 [2] k112:=⟨Enters.of Try.func112 (by kernel_rfl) (by kernel_rfl),_,_,Try.func112,rfl,by kernel_rfl,rfl,rfl⟩
def k113:KC:=
 .seq (.reg [kO 1 (.box 50 (.t 0)),kO 2 (.mv (.ns))])
 (.seq (.seq (.reg [kO 8 (.ld 50 (.t 1)),kO 9 (.call (.fn 95) [.t 8]),kO 10 (.un .not (.t 9))])
 (.cond (.t 10) (.seq (.reg [kO 2 (.mv (.ns))])
 (.ret))
 (.skip)))
 (.seq (.reg [kO 11 (.bld 186 []),kO 12 (.box 186 (.t 11)),kM 3 12])
 (.seq (.reg [kM 13 3,kO 14 (.fa 50 (.t 1) 0),kO 15 (.ld 3 (.t 14)),kO 16 (.call (.fn 151) [.t 13,.t 15])])
 (.seq (.seq (.reg [kO 17 (.fa 50 (.t 1) 1),kO 18 (.ld 3 (.t 17)),kO 19 (.fa 50 (.t 1) 2),kO 20 (.ld 3 (.t 19)),kO 21 (.fa 50 (.t 1) 3),kO 22 (.ld 3 (.t 21)),
 kO 23 (.bsl 47 3 [(0,.t 18),(1,.t 20),(2,.t 22)]),kO 24 (.bi .len [47] [.t 23]),kO 25 (.mv (kI 0))])
 (.block 0 (.loop (.seq (.reg [kO 26 (.bin .lss 3 (.t 25) (.t 24))])
 (.seq (.cond (.t 26) (.skip)
 (.exit 0))
 (.seq (.block 1 (.seq (.reg [kO 27 (.ia 47 (.t 23) (.t 25)),kO 28 (.ld 3 (.t 27)),kM 5 28])
 (.reg [kM 29 3,kM 30 5,kO 31 (.cvt 3 5 (.t 30)),kO 32 (.call (.fn 152) [.t 29,.t 31])])))
 (.reg [kO 33 (.bin .add 3 (.t 25) (kI 1)),kM 25 33])))))))
 (.seq (.seq (.reg [kO 34 (.fa 50 (.t 1) 4),kO 35 (.ld 47 (.t 34)),kO 36 (.bi .len [47] [.t 35]),kO 37 (.mv (kI 0))])
 (.block 2 (.loop (.seq (.reg [kO 38 (.bin .lss 3 (.t 37) (.t 36))])
 (.seq (.cond (.t 38) (.skip)
 (.exit 2))
 (.seq (.block 3 (.seq (.reg [kO 39 (.ia 47 (.t 35) (.t 37)),kO 40 (.ld 3 (.t 39)),kM 7 40])
 (.reg [kM 41 3,kM 42 7,kO 43 (.call (.fn 151) [.t 41,.t 42])])))
 (.reg [kO 44 (.bin .add 3 (.t 37) (kI 1)),kM 37 44])))))))
 (.seq (.reg [kM 45 3,kO 46 (.call (.fn 153) [.t 45]),kM 2 46])
 (.ret)))))))
theorem b113:Body Try.prog 113 47 [2] k113:=⟨Enters.of Try.func113 (by kernel_rfl) (by kernel_rfl),_,_,Try.func113,rfl,by kernel_rfl,rfl,rfl⟩
def k114:KC:=
 .seq (.reg [kO 1 (.box 68 (.t 0)),kO 2 (.mv (.ns)),kO 3 (.mv (kI 0))])
 (.seq (.seq (.reg [kO 5 (.ld 68 (.t 1)),kO 6 (.call (.fn 154) [.t 5]),kM 4 6])
 (.seq (.reg [kM 7 4,kO 8 (.bin .neq 26 (.t 7) (kI 0))])
 (.cond (.t 8) (.seq (.reg [kM 9 4,kO 2 (.mv (.ns)),kM 3 9])
 (.ret))
 (.skip))))
 (.seq (.reg [kO 10 (.ld 68 (.t 1)),kO 11 (.call (.fn 155) [.t 10]),kM 2 11,kO 3 (.mv (kI 0))])
 (.ret)))
theorem b114:Body Try.prog 114 12 [2,3] k114:=⟨Enters.of Try.func114 (by kernel_rfl) (by kernel_rfl),_,_,Try.func114,rfl,by kernel_rfl,rfl,rfl⟩
def k115:KC:=
 .seq (.reg [kO 2 (.box 54 (.t 0)),kO 4 (.al 68),kO 5 (.mv (.b false))])
 (.seq (.seq (.reg [kO 8 (.fa 54 (.t 2) 3),kO 9 (.ld 4 (.t 8)),kM 10 9,kG 11 10 (.mv (.t 1)),kG 12 10 (.bin .lss 3 (.t 11) (kI 0)),
 kO 13 (.pk (.t 10) (.b true) (.t 12)),kM 14 13,kG 15 14 (.mv (.t 1)),kG 16 14 (.fa 54 (.t 2) 2),kG 17 14 (.ld 22 (.t 16)),
 kG 18 14 (.bi .len [22] [.t 17]),kG 19 14 (.bin .geq 3 (.t 15) (.t 18)),kO 20 (.pk (.t 14) (.b true) (.t 19))])
 (.cond (.t 20) (.seq (.reg [kO 21 (.bld 68 []),kN (.st 68 (.t 4) (.t 21)),kO 5 (.mv (.b false))])
 (.ret))
 (.skip)))
 (.seq (.reg [kO 23 (.fa 54 (.t 2) 2),kO 24 (.ld 22 (.t 23)),kM 25 1,kO 26 (.ia 22 (.t 24) (.t 25)),kO 27 (.ld 25 (.t 26)),kO 28 (.call (.fn 156) [.t 27]),
 kM 22 28,kO 29 (.ex (.t 22) 0),kO 30 (.ex (.t 22) 1),kO 6 (.al 68),kN (.st 68 (.t 6) (.t 29)),kM 7 30])
 (.seq (.seq (.reg [kM 31 7,kO 32 (.bin .neq 26 (.t 31) (kI 0)),kM 33 32,kG 34 33 (.fa 68 (.t 6) 1),kG 35 33 (.ld 3 (.t 34)),kG 36 33 (.fa 54 (.t 2) 0),
 kG 37 33 (.ld 3 (.t 36)),kG 38 33 (.bin .neq 3 (.t 35) (.t 37)),kO 39 (.pk (.t 33) (.b true) (.t 38)),kM 40 39,kG 41 40 (.fa 68 (.t 6) 2),
 kG 42 40 (.ld 3 (.t 41)),kG 43 40 (.mv (.t 1)),kG 44 40 (.bin .neq 3 (.t 42) (.t 43)),kO 45 (.pk (.t 40) (.b true) (.t 44))])
 (.cond (.t 45) (.seq (.reg [kO 46 (.bld 68 []),kN (.st 68 (.t 4) (.t 46)),kO 5 (.mv (.b false))])
 (.ret))
 (.skip)))
 (.seq (.reg [kO 47 (.ld 68 (.t 6)),kN (.st 68 (.t 4) (.t 47)),kO 5 (.mv (.b true))])
 (.ret)))))
noncomputable def drw116_0:Array Oper:=((Try.f116.body.map regs).getD []).getD 0 #[]
noncomputable def k116:KC:=
 .seq (.reg [kO 2 (.al 50),kO 3 (.mv (kI 0))])
 (.seq (.reg [kM 8 0,kO 9 (.call (.fn 157) [.t 8]),kM 4 9])
 (.seq (.reg [kM 10 4,kO 11 (.call (.fn 158) [.t 10]),kO 12 (.bld 50 [(0,.t 11)]),kO 5 (.al 50),kN (.st 50 (.t 5) (.t 12))])
 (.seq (.seq (.reg [kO 13 (.fa 50 (.t 5) 1),kO 14 (.fa 50 (.t 5) 2),kO 15 (.fa 50 (.t 5) 3),kO 16 (.bsl 195 3 [(0,.t 13),(1,.t 14),(2,.t 15)]),
 kO 17 (.bi .len [195] [.t 16]),kO 18 (.mv (kI 0))])
 (.block 0 (.loop (.seq (.reg [kO 19 (.bin .lss 3 (.t 18) (.t 17))])
 (.seq (.cond (.t 19) (.skip)
 (.exit 0))
 (.seq (.block 1 (.seq (.reg [kO 20 (.ia 195 (.t 16) (.t 18)),kO 21 (.ld 194 (.t 20)),kM 7 21])
 (.reg [kM 22 7,kM 23 4,kO 24 (.call (.fn 159) [.t 23]),kO 25 (.cvt 5 3 (.t 24)),kO 26 (.nc (.t 22)),kN (.st 3 (.t 26) (.t 25))])))
 (.reg [kO 27 (.bin .add 3 (.t 18) (kI 1)),kM 18 27])))))))
 (.seq (.block 2 (.loop (.seq (.seq (.reg [kM 28 4,kO 29 (.call (.fn 160) [.t 28]),kO 30 (.bin .gtr 3 (.t 29) (kI 0))])
 (.cond (.t 30) (.skip)
 (.exit 2)))
 (.block 3 (.drw drw116_0 [kO 31 (.fa 50 (.t 5) 4),kO 32 (.ld 47 (.t 31)),kM 33 4,kO 34 (.call (.fn 158) [.t 33]),kO 35 (.bsl 47 1 [(0,.t 34)]),
 kO 36 (.bi .append [47,47] [.t 32,.t 35]),kO 37 (.fa 50 (.t 5) 4),kN (.st 47 (.t 37) (.t 36))])))))
 (.seq (.seq (.reg [kM 38 4,kO 39 (.call (.fn 161) [.t 38]),kM 40 39,kG 41 40 (.ld 50 (.t 5)),kG 42 40 (.call (.fn 95) [.t 41]),kG 43 40 (.un .not (.t 42)),
 kO 44 (.pk (.t 40) (.b true) (.t 43))])
 (.cond (.t 44) (.seq (.reg [kO 45 (.bld 50 []),kN (.st 50 (.t 2) (.t 45)),kO 3 (.mv (kI 2))])
 (.ret))
 (.skip)))
 (.seq (.reg [kO 46 (.ld 50 (.t 5)),kN (.st 50 (.t 2) (.t 46)),kO 3 (.mv (kI 0))])
 (.ret)))))))
def k117:KC:=
 .seq (.reg [kO 4 (.mv (kI 0))])
 (.seq (.seq (.reg [kM 6 0,kO 7 (.bi .len [71] [.t 6]),kO 8 (.mv (kI 0))])
 (.block 0 (.loop (.seq (.reg [kO 9 (.bin .lss 3 (.t 8) (.t 7))])
 (.seq (.cond (.t 9) (.skip)
 (.exit 0))
 (.seq (.block 1 (.seq (.reg [kM 10 8,kM 5 10])
 (.seq (.reg [kM 11 1,kM 12 0,kM 13 5,kO 14 (.ia 71 (.t 12) (.t 13)),kO 15 (.ld 50 (.t 14)),kO 16 (.call (.t 11) [.t 15])])
 (.cond (.t 16) (.seq (.reg [kM 17 5,kM 4 17])
 (.ret))
 (.skip)))))
 (.reg [kO 18 (.bin .add 3 (.t 8) (kI 1)),kM 8 18])))))))
 (.seq (.reg [kO 4 (.mv (kI (-1)))])
 (.ret)))
theorem b117:Body Try.prog 117 19 [4] k117:=⟨Enters.of Try.func117 (by kernel_rfl) (by kernel_rfl),_,_,Try.func117,rfl,by kernel_rfl,rfl,rfl⟩
noncomputable def drw118_0:Array Oper:=((Try.f118.body.map regs).getD []).getD 0 #[]
noncomputable def k118:KC:=
 .seq (.reg [kO 10 (.mv (.b true))])
 (.seq (.reg [kO 11 (.mv (.b true))])
 (.block 0 (.loop (.block 1 (.seq (.reg [kM 21 2,kM 22 1,kO 23 (.bin .sub 3 (.t 21) (.t 22)),kM 12 23])
 (.seq (.seq (.reg [kM 24 12,kO 25 (.bin .leq 3 (.t 24) (kI 12))])
 (.cond (.t 25) (.seq (.reg [kM 26 0,kM 27 1,kM 28 2,kM 29 4,kO 30 (.call (.fn 162) [.t 26,.t 27,.t 28,.t 29])])
 (.ret))
 (.skip)))
 (.seq (.seq (.reg [kM 31 3,kO 32 (.bin .eql 3 (.t 31) (kI 0))])
 (.cond (.t 32) (.seq (.reg [kM 33 0,kM 34 1,kM 35 2,kM 36 4,kO 37 (.call (.fn 163) [.t 33,.t 34,.t 35,.t 36])])
 (.ret))
 (.skip)))
 (.seq (.seq (.reg [kM 38 10,kO 39 (.un .not (.t 38))])
 (.cond (.t 39) (.seq (.reg [kM 40 0,kM 41 1,kM 42 2,kM 43 4,kO 44 (.call (.fn 164) [.t 40,.t 41,.t 42,.t 43])])
 (.reg [kM 45 3,kO 46 (.bin .sub 3 (.t 45) (kI 1)),kM 3 46]))
 (.skip)))
 (.seq (.reg [kM 48 0,kM 49 1,kM 50 2,kM 51 4,kO 52 (.call (.fn 165) [.t 48,.t 49,.t 50,.t 51]),kM 47 52,kO 53 (.ex (.t 47) 0),kO 54 (.ex (.t 47) 1),
 kM 13 53,kM 14 54])
 (.seq (.seq (.reg [kM 55 14,kO 56 (.bin .eql 165 (.t 55) (kI 2))])
 (.cond (.t 56) (.seq (.reg [kM 57 0,kM 58 1,kM 59 2,kM 60 4,kO 61 (.call (.fn 166) [.t 57,.t 58,.t 59,.t 60])])
 (.seq (.reg [kM 62 2,kO 63 (.bin .sub 3 (.t 62) (kI 1)),kM 64 13,kM 65 1,kO 66 (.bin .sub 3 (.t 64) (.t 65)),kO 67 (.bin .sub 3 (.t 63) (.t 66)),kM 13 67])
 (.reg [kO 14 (.mv (kI 1))])))
 (.skip)))
 (.seq (.seq (.reg [kM 68 10,kM 69 68,kT 70 69 (.mv (.t 11)),kO 71 (.pk (.t 69) (.t 70) (.b false)),kM 72 71,kT 73 72 (.mv (.t 14)),
 kT 74 72 (.bin .eql 165 (.t 73) (kI 1)),kO 75 (.pk (.t 72) (.t 74) (.b false))])
 (.cond (.t 75) (.seq (.reg [kM 76 0,kM 77 1,kM 78 2,kM 79 4,kO 80 (.call (.fn 167) [.t 76,.t 77,.t 78,.t 79])])
 (.cond (.t 80) (.ret)
 (.skip)))
 (.skip)))
 (.seq (.seq (.drw drw118_0 [kM 81 1,kO 82 (.bin .gtr 3 (.t 81) (kI 0)),kM 83 82,kT 84 83 (.mv (.t 4)),kT 85 83 (.mv (.t 0)),kT 86 83 (.mv (.t 1)),
 kT 87 83 (.bin .sub 3 (.t 86) (kI 1)),kT 88 83 (.ia 71 (.t 85) (.t 87)),kT 89 83 (.ld 50 (.t 88)),kT 90 83 (.mv (.t 0)),kT 91 83 (.mv (.t 13)),
 kT 92 83 (.ia 71 (.t 90) (.t 91)),kT 93 83 (.ld 50 (.t 92)),kT 94 83 (.call (.t 84) [.t 89,.t 93]),kT 95 83 (.bin .lss 3 (.t 94) (kI 0)),
 kT 96 83 (.un .not (.t 95)),kO 97 (.pk (.t 83) (.t 96) (.b false))])
 (.cond (.t 97) (.seq (.reg [kM 98 0,kM 99 1,kM 100 2,kM 101 13,kM 102 4,kO 103 (.call (.fn 168) [.t 98,.t 99,.t 100,.t 101,.t 102]),kM 15 103])
 (.seq (.reg [kM 104 15,kM 1 104])
 (.exit 1)))
 (.skip)))
 (.seq (.reg [kM 106 0,kM 107 1,kM 108 2,kM 109 13,kM 110 4,kO 111 (.call (.fn 169) [.t 106,.t 107,.t 108,.t 109,.t 110]),kM 105 111,
 kO 112 (.ex (.t 105) 0),kO 113 (.ex (.t 105) 1),kM 16 112,kM 17 113])
 (.seq (.reg [kM 114 17,kM 11 114])
 (.seq (.reg [kM 115 16,kM 116 1,kO 117 (.bin .sub 3 (.t 115) (.t 116)),kM 118 2,kM 119 16,kO 120 (.bin .sub 3 (.t 118) (.t 119)),kM 18 117,kM 19 120])
 (.seq (.reg [kM 121 12,kO 122 (.bin .quo 3 (.t 121) (kI 8)),kM 20 122])
 (.seq (.reg [kM 123 18,kM 124 19,kO 125 (.bin .lss 3 (.t 123) (.t 124))])
 (.cond (.t 125) (.seq (.reg [kM 126 18,kM 127 20,kO 128 (.bin .geq 3 (.t 126) (.t 127)),kM 10 128])
 (.seq (.reg [kM 129 0,kM 130 1,kM 131 16,kM 132 3,kM 133 4,kO 134 (.call (.fn 118) [.t 129,.t 130,.t 131,.t 132,.t 133])])
 (.reg [kM 135 16,kO 136 (.bin .add 3 (.t 135) (kI 1)),kM 1 136])))
 (.seq (.reg [kM 137 19,kM 138 20,kO 139 (.bin .geq 3 (.t 137) (.t 138)),kM 10 139])
 (.seq (.reg [kM 140 0,kM 141 16,kO 142 (.bin .add 3 (.t 141) (kI 1)),kM 143 2,kM 144 3,kM 145 4,
 kO 146 (.call (.fn 118) [.t 140,.t 142,.t 143,.t 144,.t 145])])
 (.reg [kM 147 16,kM 2 147])))))))))))))))))))))
theorem b118:Body Try.prog 118 148 [] k118:=⟨Enters.of Try.func118 (by kernel_rfl) (by kernel_rfl),_,_,Try.func118,rfl,by kernel_rfl,rfl,rfl⟩
def k119:KC:=
 .seq (.reg [kO 2 (.mv (.b false))])
 (.seq (.reg [kM 3 0,kM 4 0,kO 5 (.bin .neq 3 (.t 3) (.t 4)),kM 2 5])
 (.ret))
theorem b119:Body Try.prog 119 6 [2] k119:=⟨Enters.of Try.func119 (by kernel_rfl) (by kernel_rfl),_,_,Try.func119,rfl,by kernel_rfl,rfl,rfl⟩
def k120:KC:=
 .seq (.reg [kO 1 (.box 22 (.t 0)),kO 2 (.mv (.b false))])
 (.seq (.seq (.reg [kO 3 (.ld 22 (.t 1)),kO 4 (.bi .len [22] [.t 3]),kO 5 (.bin .lss 3 (.t 4) (kI 1)),kM 6 5,kG 7 6 (.ld 22 (.t 1)),kG 8 6 (.bi .len [22] [.t 7]),
 kG 9 6 (.bin .gtr 3 (.t 8) (kI 255)),kO 10 (.pk (.t 6) (.b true) (.t 9)),kM 11 10,kG 12 11 (.ld 22 (.t 1)),kG 13 11 (.ia 22 (.t 12) (kI 0)),
 kG 14 11 (.ld 25 (.t 13)),kG 15 11 (.bi .len [25] [.t 14]),kG 16 11 (.bin .lss 3 (.t 15) (kI 1)),kO 17 (.pk (.t 11) (.b true) (.t 16)),kM 18 17,
 kG 19 18 (.ld 22 (.t 1)),kG 20 18 (.ia 22 (.t 19) (kI 0)),kG 21 18 (.ld 25 (.t 20)),kG 22 18 (.bi .len [25] [.t 21]),
 kG 23 18 (.bin .gtr 3 (.t 22) (kI 255)),kO 24 (.pk (.t 18) (.b true) (.t 23))])
 (.cond (.t 24) (.seq (.reg [kO 2 (.mv (.b false))])
 (.ret))
 (.skip)))
 (.seq (.reg [kO 25 (.ld 22 (.t 1)),kO 26 (.mf 170 [.t 1]),kO 27 (.call (.fn 80) [.t 25,.t 26]),kO 28 (.un .not (.t 27)),kM 2 28])
 (.ret)))
theorem b120:Body Try.prog 120 29 [2] k120:=⟨Enters.of Try.func120 (by kernel_rfl) (by kernel_rfl),_,_,Try.func120,rfl,by kernel_rfl,rfl,rfl⟩
def k122:KC:=
 .seq (.reg [kO 4 (.mv (kI 0))])
 (.seq (.seq (.reg [kM 6 0,kO 7 (.bi .len [22] [.t 6]),kO 8 (.mv (kI 0))])
 (.block 0 (.loop (.seq (.reg [kO 9 (.bin .lss 3 (.t 8) (.t 7))])
 (.seq (.cond (.t 9) (.skip)
 (.exit 0))
 (.seq (.block 1 (.seq (.reg [kM 10 8,kM 5 10])
 (.seq (.reg [kM 11 1,kM 12 0,kM 13 5,kO 14 (.ia 22 (.t 12) (.t 13)),kO 15 (.ld 25 (.t 14)),kO 16 (.call (.t 11) [.t 15])])
 (.cond (.t 16) (.seq (.reg [kM 17 5,kM 4 17])
 (.ret))
 (.skip)))))
 (.reg [kO 18 (.bin .add 3 (.t 8) (kI 1)),kM 8 18])))))))
 (.seq (.reg [kO 4 (.mv (kI (-1)))])
 (.ret)))
theorem b122:Body Try.prog 122 19 [4] k122:=⟨Enters.of Try.func122 (by kernel_rfl) (by kernel_rfl),_,_,Try.func122,rfl,by kernel_rfl,rfl,rfl⟩
def k126:KC:=
 .seq (.reg [kO 4 (.mv (.i .u8 0))])
 (.seq (.reg [kO 5 (.mv (.i .u8 1))])
 (.seq (.block 0 (.loop (.seq (.seq (.reg [kM 6 1,kO 7 (.bin .gtr 3 (.t 6) (kI 0))])
 (.cond (.t 7) (.skip)
 (.exit 0)))
 (.seq (.block 1 (.seq (.seq (.reg [kM 10 1,kO 11 (.bin .and 3 (.t 10) (kI 1)),kO 12 (.bin .eql 3 (.t 11) (kI 1))])
 (.cond (.t 12) (.reg [kM 13 5,kM 14 0,kO 15 (.call (.fn 172) [.t 13,.t 14]),kM 5 15])
 (.skip)))
 (.reg [kM 16 0,kM 17 0,kO 18 (.call (.fn 172) [.t 16,.t 17]),kM 0 18])))
 (.reg [kM 8 1,kO 9 (.bin .shr 3 (.t 8) (.i .u64 1)),kM 1 9])))))
 (.seq (.reg [kM 19 5,kM 4 19])
 (.ret))))
theorem b126:Body Try.prog 126 20 [4] k126:=⟨Enters.of Try.func126 (by kernel_rfl) (by kernel_rfl),_,_,Try.func126,rfl,by kernel_rfl,rfl,rfl⟩
noncomputable def drw127_0:Array Oper:=((Try.f127.body.map regs).getD []).getD 0 #[]
noncomputable def k127:KC:=
 .seq (.reg [kO 4 (.mv (.ns))])
 (.seq (.reg [kM 10 0,kO 11 (.bi .len [22] [.t 10]),kO 12 (.mk 25 (.t 11) (.t 11)),kM 5 12])
 (.seq (.seq (.reg [kM 13 0,kO 14 (.bi .len [22] [.t 13]),kO 15 (.mv (kI 0))])
 (.block 0 (.loop (.seq (.reg [kO 16 (.bin .lss 3 (.t 15) (.t 14))])
 (.seq (.cond (.t 16) (.skip)
 (.exit 0))
 (.seq (.block 1 (.seq (.reg [kM 17 15,kO 18 (.ia 22 (.t 13) (.t 15)),kO 19 (.ld 25 (.t 18)),kM 6 17,kM 7 19])
 (.seq (.reg [kM 20 7,kO 21 (.bi .len [25] [.t 20]),kO 22 (.mv (kI 0))])
 (.block 2 (.loop (.seq (.reg [kO 23 (.bin .lss 3 (.t 22) (.t 21))])
 (.seq (.cond (.t 23) (.skip)
 (.exit 2))
 (.seq (.block 3 (.seq (.reg [kM 24 22,kO 25 (.ia 25 (.t 20) (.t 22)),kO 26 (.ld 5 (.t 25)),kM 8 24,kM 9 26])
 (.drw drw127_0 [kM 27 5,kM 28 6,kM 29 5,kM 30 6,kO 31 (.ia 25 (.t 29) (.t 30)),kO 32 (.ld 5 (.t 31)),kM 33 9,kM 34 1,kM 35 8,kO 36 (.ia 25 (.t 34) (.t 35)),
 kO 37 (.ld 5 (.t 36)),kO 38 (.call (.fn 172) [.t 33,.t 37]),kO 39 (.call (.fn 83) [.t 32,.t 38]),kO 40 (.ia 25 (.t 27) (.t 28)),
 kN (.st 5 (.t 40) (.t 39))])))
 (.reg [kO 41 (.bin .add 3 (.t 22) (kI 1)),kM 22 41])))))))))
 (.reg [kO 42 (.bin .add 3 (.t 15) (kI 1)),kM 15 42])))))))
 (.seq (.reg [kM 43 5,kM 4 43])
 (.ret))))
theorem b127:Body Try.prog 127 44 [4] k127:=⟨Enters.of Try.func127 (by kernel_rfl) (by kernel_rfl),_,_,Try.func127,rfl,by kernel_rfl,rfl,rfl⟩
def k138:KC:=
 .seq (.reg [kO 2 (.mv (kI 0))])
 (.seq (.seq (.reg [kM 3 0,kO 4 (.bin .geq 145 (.t 3) (.i .u64 4294967296))])
 (.cond (.t 4) (.seq (.reg [kM 5 0,kO 6 (.bin .shr 145 (.t 5) (.i .u64 32)),kM 0 6])
 (.reg [kO 2 (.mv (kI 32))]))
 (.skip)))
 (.seq (.seq (.reg [kM 7 0,kO 8 (.bin .geq 145 (.t 7) (.i .u64 65536))])
 (.cond (.t 8) (.seq (.reg [kM 9 0,kO 10 (.bin .shr 145 (.t 9) (.i .u64 16)),kM 0 10])
 (.reg [kM 11 2,kO 12 (.bin .add 3 (.t 11) (kI 16)),kM 2 12]))
 (.skip)))
 (.seq (.seq (.reg [kM 13 0,kO 14 (.bin .geq 145 (.t 13) (.i .u64 256))])
 (.cond (.t 14) (.seq (.reg [kM 15 0,kO 16 (.bin .shr 145 (.t 15) (.i .u64 8)),kM 0 16])
 (.reg [kM 17 2,kO 18 (.bin .add 3 (.t 17) (kI 8)),kM 2 18]))
 (.skip)))
 (.seq (.reg [kM 19 2,kM 20 0,kO 21 (.cvt 145 5 (.t 20)),
 kO 22 (.ix 9 (.s ⟨#[0,1,2,2,3,3,3,3,4,4,4,4,4,4,4,4,5,5,5,5,5,5,5,5,5,5,5,5,5,5,5,5,6,6,6,6,6,6,6,6,6,6,6,6,6,6,6,6,6,6,6,6,6,6,6,6,6,6,6,6,6,6,6,6,7,7,7,7,7,7,7,7,7,7,7,7,7,7,7,7,7,7,7,7,7,7,7,7,7,7,7,7,7,7,7,7,7,7,7,7,7,7,7,7,7,7,7,7,7,7,7,7,7,7,7,7,7,7,7,7,7,7,7,7,7,7,7,7,8,8,8,8,8,8,8,8,8,8,8,8,8,8,8,8,8,8,8,8,8,8,8,8,8,8,8,8,8,8,8,8,8,8,8,8,8,8,8,8,8,8,8,8,8,8,8,8,8,8,8,8,8,8,8,8,8,8,8,8,8,8,8,8,8,8,8,8,8,8,8,8,8,8,8,8,8,8,8,8,8,8,8,8,8,8,8,8,8,8,8,8,8,8,8,8,8,8,8,8,8,8,8,8,8,8,8,8,8,8,8,8,8,8,8,8,8,8,8,8,8,8,8,8,8,8,8,8]⟩) (.t 21)),
 kO 23 (.cvt 5 3 (.t 22)),kO 24 (.bin .add 3 (.t 19) (.t 23)),kM 2 24])
 (.ret)))))
theorem b138:Body Try.prog 138 25 [2] k138:=⟨Enters.of Try.func138 (by kernel_rfl) (by kernel_rfl),_,_,Try.func138,rfl,by kernel_rfl,rfl,rfl⟩
def k147:KC:=
 .seq (.reg [kO 6 (.mv (.b false))])
 (.seq (.reg [kM 7 0,kM 8 1,kO 9 (.bin .geq 3 (.t 7) (.t 8)),kM 10 9,kT 11 10 (.mv (.t 0)),kT 12 10 (.mv (.t 2)),kT 13 10 (.bin .leq 3 (.t 11) (.t 12)),
 kO 14 (.pk (.t 10) (.t 13) (.b false)),kM 6 14])
 (.ret))
theorem b147:Body Try.prog 147 15 [6] k147:=⟨Enters.of Try.func147 (by kernel_rfl) (by kernel_rfl),_,_,Try.func147,rfl,by kernel_rfl,rfl,rfl⟩
def k150:KC:=
 .seq (.reg [kO 2 (.box 54 (.t 0)),kO 4 (.mv (.ns))])
 (.seq (.seq (.reg [kO 5 (.fa 54 (.t 2) 3),kO 6 (.ld 4 (.t 5)),kM 7 6,kG 8 7 (.mv (.t 1)),kG 9 7 (.bin .lss 3 (.t 8) (kI 0)),kO 10 (.pk (.t 7) (.b true) (.t 9)),
 kM 11 10,kG 12 11 (.mv (.t 1)),kG 13 11 (.fa 54 (.t 2) 2),kG 14 11 (.ld 22 (.t 13)),kG 15 11 (.bi .len [22] [.t 14]),
 kG 16 11 (.bin .geq 3 (.t 12) (.t 15)),kO 17 (.pk (.t 11) (.b true) (.t 16))])
 (.cond (.t 17) (.seq (.reg [kO 18 (.mk 25 (kI 79) (kI 79)),kM 4 18])
 (.ret))
 (.skip)))
 (.seq (.seq (.reg [kO 19 (.fa 54 (.t 2) 2),kO 20 (.ld 22 (.t 19)),kM 21 1,kO 22 (.ia 22 (.t 20) (.t 21)),kO 23 (.ld 25 (.t 22)),kO 24 (.bi .len [25] [.t 23]),
 kO 25 (.bin .neq 3 (.t 24) (kI 79))])
 (.cond (.t 25) (.seq (.reg [kO 4 (.mv (.ns))])
 (.ret))
 (.skip)))
 (.seq (.reg [kO 26 (.fa 54 (.t 2) 2),kO 27 (.ld 22 (.t 26)),kM 28 1,kO 29 (.ia 22 (.t 27) (.t 28)),kO 30 (.ld 25 (.t 29)),kO 31 (.call (.fn 61) [.t 30]),
 kM 4 31])
 (.ret))))
theorem b150:Body Try.prog 150 32 [4] k150:=⟨Enters.of Try.func150 (by kernel_rfl) (by kernel_rfl),_,_,Try.func150,rfl,by kernel_rfl,rfl,rfl⟩
def k151:KC:=
 .seq (.reg [kM 5 1,kO 6 (.cvt 3 106 (.t 5)),kM 4 6])
 (.reg [kM 7 0,kM 8 0,kO 9 (.nc (.t 8)),kO 10 (.fa 186 (.t 9) 0),kO 11 (.ld 25 (.t 10)),kM 12 4,kO 13 (.bin .shr 106 (.t 12) (.i .u64 24)),
 kO 14 (.cvt 106 5 (.t 13)),kM 15 4,kO 16 (.bin .shr 106 (.t 15) (.i .u64 16)),kO 17 (.cvt 106 5 (.t 16)),kM 18 4,
 kO 19 (.bin .shr 106 (.t 18) (.i .u64 8)),kO 20 (.cvt 106 5 (.t 19)),kM 21 4,kO 22 (.cvt 106 5 (.t 21)),
 kO 23 (.bsl 25 4 [(0,.t 14),(1,.t 17),(2,.t 20),(3,.t 22)]),kO 24 (.bi .append [25,25] [.t 11,.t 23]),kO 25 (.nc (.t 7)),
 kO 26 (.fa 186 (.t 25) 0),kN (.st 25 (.t 26) (.t 24))])
theorem b151:Body Try.prog 151 27 [] k151:=⟨Enters.of Try.func151 (by kernel_rfl) (by kernel_rfl),_,_,Try.func151,rfl,by kernel_rfl,rfl,rfl⟩
def k152:KC:=
 .reg [kM 4 0,kM 5 0,kO 6 (.nc (.t 5)),kO 7 (.fa 186 (.t 6) 0),kO 8 (.ld 25 (.t 7)),kM 9 1,kO 10 (.bsl 25 1 [(0,.t 9)]),
 kO 11 (.bi .append [25,25] [.t 8,.t 10]),kO 12 (.nc (.t 4)),kO 13 (.fa 186 (.t 12) 0),kN (.st 25 (.t 13) (.t 11))]
theorem b152:Body Try.prog 152 14 [] k152:=⟨Enters.of Try.func152 (by kernel_rfl) (by kernel_rfl),_,_,Try.func152,rfl,by kernel_rfl,rfl,rfl⟩
def k153:KC:=
 .seq (.reg [kO 2 (.mv (.ns))])
 (.seq (.reg [kM 3 0,kO 4 (.nc (.t 3)),kO 5 (.fa 186 (.t 4) 0),kO 6 (.ld 25 (.t 5)),kO 7 (.call (.fn 61) [.t 6]),kM 2 7])
 (.ret))
theorem b153:Body Try.prog 153 8 [2] k153:=⟨Enters.of Try.func153 (by kernel_rfl) (by kernel_rfl),_,_,Try.func153,rfl,by kernel_rfl,rfl,rfl⟩
noncomputable def drw154_0:Array Oper:=((Try.f154.body.map regs).getD []).getD 0 #[]
noncomputable def k154:KC:=
 .seq (.reg [kO 1 (.box 68 (.t 0)),kO 2 (.mv (kI 0))])
 (.seq (.seq (.reg [kO 3 (.fa 68 (.t 1) 1),kO 4 (.ld 3 (.t 3)),kO 5 (.bin .lss 3 (.t 4) (kI 1)),kM 6 5,kG 7 6 (.fa 68 (.t 1) 1),kG 8 6 (.ld 3 (.t 7)),
 kG 9 6 (.bin .gtr 3 (.t 8) (kI 2147483647)),kO 10 (.pk (.t 6) (.b true) (.t 9)),kM 11 10,kG 12 11 (.fa 68 (.t 1) 2),kG 13 11 (.ld 3 (.t 12)),
 kG 14 11 (.bin .lss 3 (.t 13) (kI 0)),kO 15 (.pk (.t 11) (.b true) (.t 14)),kM 16 15,kG 17 16 (.fa 68 (.t 1) 2),kG 18 16 (.ld 3 (.t 17)),
 kG 19 16 (.bin .gtr 3 (.t 18) (kI 2147483647)),kO 20 (.pk (.t 16) (.b true) (.t 19))])
 (.cond (.t 20) (.seq (.reg [kO 2 (.mv (kI 1))])
 (.ret))
 (.skip)))
 (.seq (.seq (.reg [kO 21 (.fa 68 (.t 1) 0),kO 22 (.ld 3 (.t 21))])
 (.block 0 (.seq (.block 6 (.block 5 (.block 4 (.block 3 (.block 2 (.block 1 (.seq (.seq (.seq (.reg [kO 24 (.bin .eql 3 (.t 22) (kI 1)),kM 23 24])
 (.cond (.t 23) (.exit 1)
 (.skip)))
 (.seq (.seq (.reg [kO 26 (.bin .eql 3 (.t 22) (kI 2)),kM 25 26])
 (.cond (.t 25) (.exit 2)
 (.skip)))
 (.seq (.seq (.reg [kO 28 (.bin .eql 3 (.t 22) (kI 3)),kM 27 28])
 (.cond (.t 27) (.exit 3)
 (.skip)))
 (.seq (.seq (.reg [kO 30 (.bin .eql 3 (.t 22) (kI 4)),kM 29 30])
 (.cond (.t 29) (.exit 4)
 (.skip)))
 (.seq (.seq (.reg [kO 32 (.bin .eql 3 (.t 22) (kI 5)),kM 31 32])
 (.cond (.t 31) (.exit 5)
 (.skip)))
 (.seq (.reg [kO 34 (.bin .eql 3 (.t 22) (kI 6)),kM 33 34])
 (.cond (.t 33) (.exit 6)
 (.skip))))))))
 (.exit 0))))))))
 (.seq (.seq (.seq (.drw drw154_0 [kO 35 (.fa 68 (.t 1) 3),kO 36 (.ld 25 (.t 35)),kO 37 (.bi .len [25] [.t 36]),kO 38 (.fa 68 (.t 1) 0),kO 39 (.ld 3 (.t 38)),
 kO 40 (.call (.fn 183) [.t 39]),kO 41 (.bin .gtr 3 (.t 37) (.t 40))])
 (.cond (.t 41) (.seq (.reg [kO 2 (.mv (kI 4))])
 (.ret))
 (.skip)))
 (.seq (.reg [kO 2 (.mv (kI 0))])
 (.ret)))
 (.exit 0)))))
 (.seq (.reg [kO 2 (.mv (kI 1))])
 (.ret))))
theorem b154:Body Try.prog 154 42 [2] k154:=⟨Enters.of Try.func154 (by kernel_rfl) (by kernel_rfl),_,_,Try.func154,rfl,by kernel_rfl,rfl,rfl⟩
def k155:KC:=
 .seq (.reg [kO 1 (.box 68 (.t 0)),kO 2 (.mv (.ns))])
 (.seq (.reg [kO 6 (.bld 186 []),kO 7 (.box 186 (.t 6)),kM 3 7])
 (.seq (.reg [kM 8 3,kO 9 (.fa 68 (.t 1) 0),kO 10 (.ld 3 (.t 9)),kO 11 (.cvt 3 5 (.t 10)),kO 12 (.call (.fn 152) [.t 8,.t 11])])
 (.seq (.reg [kM 13 3,kO 14 (.fa 68 (.t 1) 1),kO 15 (.ld 3 (.t 14)),kO 16 (.call (.fn 151) [.t 13,.t 15])])
 (.seq (.reg [kM 17 3,kO 18 (.fa 68 (.t 1) 2),kO 19 (.ld 3 (.t 18)),kO 20 (.call (.fn 151) [.t 17,.t 19])])
 (.seq (.reg [kM 21 3,kO 22 (.fa 68 (.t 1) 3),kO 23 (.ld 25 (.t 22)),kO 24 (.bi .len [25] [.t 23]),kO 25 (.bin .shr 3 (.t 24) (.i .u64 8)),
 kO 26 (.cvt 3 5 (.t 25)),kO 27 (.call (.fn 152) [.t 21,.t 26])])
 (.seq (.reg [kM 28 3,kO 29 (.fa 68 (.t 1) 3),kO 30 (.ld 25 (.t 29)),kO 31 (.bi .len [25] [.t 30]),kO 32 (.cvt 3 5 (.t 31)),
 kO 33 (.call (.fn 152) [.t 28,.t 32])])
 (.seq (.reg [kO 34 (.fa 68 (.t 1) 0),kO 35 (.ld 3 (.t 34)),kO 36 (.call (.fn 183) [.t 35]),kO 37 (.mk 25 (.t 36) (.t 36)),kM 4 37])
 (.seq (.reg [kM 38 4,kO 39 (.fa 68 (.t 1) 3),kO 40 (.ld 25 (.t 39)),kO 41 (.bi .copy [25,25] [.t 38,.t 40])])
 (.seq (.reg [kM 42 3,kO 43 (.call (.fn 153) [.t 42]),kM 44 4,kO 45 (.bi .append [25,25] [.t 43,.t 44]),kM 5 45])
 (.seq (.reg [kO 46 (.bld 186 []),kO 47 (.box 186 (.t 46)),kM 3 47])
 (.seq (.reg [kM 48 3,kM 49 5,kO 50 (.call (.fn 184) [.t 49]),kO 51 (.cvt 106 3 (.t 50)),kO 52 (.call (.fn 151) [.t 48,.t 51])])
 (.seq (.reg [kM 53 5,kM 54 3,kO 55 (.call (.fn 153) [.t 54]),kO 56 (.bi .append [25,25] [.t 53,.t 55]),kM 2 56])
 (.ret)))))))))))))
theorem b155:Body Try.prog 155 57 [2] k155:=⟨Enters.of Try.func155 (by kernel_rfl) (by kernel_rfl),_,_,Try.func155,rfl,by kernel_rfl,rfl,rfl⟩
def k156:KC:=
 .seq (.reg [kO 2 (.al 68),kO 3 (.mv (kI 0))])
 (.seq (.reg [kM 7 0,kO 8 (.call (.fn 157) [.t 7]),kM 4 8])
 (.seq (.reg [kM 9 4,kO 10 (.call (.fn 159) [.t 9]),kO 11 (.cvt 5 3 (.t 10)),kO 12 (.bld 68 [(0,.t 11)]),kO 5 (.al 68),kN (.st 68 (.t 5) (.t 12))])
 (.seq (.reg [kM 13 4,kO 14 (.call (.fn 158) [.t 13]),kO 15 (.fa 68 (.t 5) 1),kN (.st 3 (.t 15) (.t 14))])
 (.seq (.reg [kM 16 4,kO 17 (.call (.fn 158) [.t 16]),kO 18 (.fa 68 (.t 5) 2),kN (.st 3 (.t 18) (.t 17))])
 (.seq (.reg [kM 19 4,kO 20 (.call (.fn 159) [.t 19]),kO 21 (.cvt 5 3 (.t 20)),kO 22 (.bin .shl 3 (.t 21) (.i .u64 8)),kM 23 4,
 kO 24 (.call (.fn 159) [.t 23]),kO 25 (.cvt 5 3 (.t 24)),kO 26 (.bin .or 3 (.t 22) (.t 25)),kM 6 26])
 (.seq (.reg [kM 27 4,kM 28 6,kO 29 (.call (.fn 185) [.t 27,.t 28]),kO 30 (.fa 68 (.t 5) 3),kN (.st 25 (.t 30) (.t 29))])
 (.seq (.seq (.reg [kM 31 4,kO 32 (.call (.fn 161) [.t 31]),kM 33 32,kG 34 33 (.ld 68 (.t 5)),kG 35 33 (.call (.fn 154) [.t 34]),
 kG 36 33 (.bin .neq 26 (.t 35) (kI 0)),kO 37 (.pk (.t 33) (.b true) (.t 36)),kM 38 37,kG 39 38 (.mv (.t 0)),kG 40 38 (.ld 68 (.t 5)),
 kG 41 38 (.call (.fn 155) [.t 40]),kG 42 38 (.call (.fn 186) [.t 39,.t 41]),kG 43 38 (.un .not (.t 42)),kO 44 (.pk (.t 38) (.b true) (.t 43))])
 (.cond (.t 44) (.seq (.reg [kO 45 (.bld 68 []),kN (.st 68 (.t 2) (.t 45)),kO 3 (.mv (kI 2))])
 (.ret))
 (.skip)))
 (.seq (.reg [kO 46 (.ld 68 (.t 5)),kN (.st 68 (.t 2) (.t 46)),kO 3 (.mv (kI 0))])
 (.ret)))))))))
def k157:KC:=
 .seq (.reg [kO 2 (.mv (.np))])
 (.seq (.reg [kM 3 0,kO 4 (.call (.fn 61) [.t 3]),kO 5 (.bld 215 [(0,.t 4)]),kO 6 (.box 215 (.t 5)),kM 2 6])
 (.ret))
theorem b157:Body Try.prog 157 7 [2] k157:=⟨Enters.of Try.func157 (by kernel_rfl) (by kernel_rfl),_,_,Try.func157,rfl,by kernel_rfl,rfl,rfl⟩
def k158:KC:=
 .seq (.reg [kO 2 (.mv (kI 0))])
 (.seq (.reg [kO 3 (.mv (.i .u32 0))])
 (.seq (.seq (.reg [kM 6 0,kO 7 (.call (.fn 187) [.t 6,.i .i64 4]),kO 8 (.bi .len [25] [.t 7]),kO 9 (.mv (kI 0))])
 (.block 0 (.loop (.seq (.reg [kO 10 (.bin .lss 3 (.t 9) (.t 8))])
 (.seq (.cond (.t 10) (.skip)
 (.exit 0))
 (.seq (.block 1 (.seq (.reg [kO 11 (.ia 25 (.t 7) (.t 9)),kO 12 (.ld 5 (.t 11)),kM 5 12])
 (.reg [kM 13 3,kO 14 (.bin .shl 106 (.t 13) (.i .u64 8)),kM 15 5,kO 16 (.cvt 5 106 (.t 15)),kO 17 (.bin .or 106 (.t 14) (.t 16)),kM 3 17])))
 (.reg [kO 18 (.bin .add 3 (.t 9) (kI 1)),kM 9 18])))))))
 (.seq (.reg [kM 19 3,kO 20 (.cvt 106 3 (.t 19)),kM 2 20])
 (.ret))))
theorem b158:Body Try.prog 158 21 [2] k158:=⟨Enters.of Try.func158 (by kernel_rfl) (by kernel_rfl),_,_,Try.func158,rfl,by kernel_rfl,rfl,rfl⟩
def k159:KC:=
 .seq (.reg [kO 2 (.mv (.i .u8 0))])
 (.seq (.reg [kM 4 0,kO 5 (.call (.fn 187) [.t 4,.i .i64 1]),kM 3 5])
 (.seq (.seq (.reg [kM 6 3,kO 7 (.bi .len [25] [.t 6]),kO 8 (.bin .eql 3 (.t 7) (kI 0))])
 (.cond (.t 8) (.seq (.reg [kO 2 (.mv (.i .u8 0))])
 (.ret))
 (.skip)))
 (.seq (.reg [kM 9 3,kO 10 (.ia 25 (.t 9) (kI 0)),kO 11 (.ld 5 (.t 10)),kM 2 11])
 (.ret))))
theorem b159:Body Try.prog 159 12 [2] k159:=⟨Enters.of Try.func159 (by kernel_rfl) (by kernel_rfl),_,_,Try.func159,rfl,by kernel_rfl,rfl,rfl⟩
def k160:KC:=
 .seq (.reg [kO 2 (.mv (kI 0))])
 (.seq (.seq (.reg [kM 3 0,kO 4 (.bin .eql 192 (.t 3) (.np))])
 (.cond (.t 4) (.seq (.reg [kO 2 (.mv (kI 0))])
 (.ret))
 (.skip)))
 (.seq (.reg [kM 5 0,kO 6 (.nc (.t 5)),kO 7 (.fa 215 (.t 6) 0),kO 8 (.ld 25 (.t 7)),kO 9 (.bi .len [25] [.t 8]),kM 2 9])
 (.ret)))
theorem b160:Body Try.prog 160 10 [2] k160:=⟨Enters.of Try.func160 (by kernel_rfl) (by kernel_rfl),_,_,Try.func160,rfl,by kernel_rfl,rfl,rfl⟩
def k161:KC:=
 .seq (.reg [kO 2 (.mv (.b false))])
 (.seq (.reg [kM 3 0,kO 4 (.bin .neq 192 (.t 3) (.np)),kM 5 4,kT 6 5 (.mv (.t 0)),kT 7 5 (.nc (.t 6)),kT 8 5 (.fa 215 (.t 7) 1),kT 9 5 (.ld 4 (.t 8)),
 kO 10 (.pk (.t 5) (.t 9) (.b false)),kM 2 10])
 (.ret))
theorem b161:Body Try.prog 161 11 [2] k161:=⟨Enters.of Try.func161 (by kernel_rfl) (by kernel_rfl),_,_,Try.func161,rfl,by kernel_rfl,rfl,rfl⟩
noncomputable def drw162_0:Array Oper:=((Try.f162.body.map regs).getD []).getD 0 #[]
noncomputable def drw162_1:Array Oper:=((Try.f162.body.map regs).getD []).getD 1 #[]
noncomputable def k162:KC:=
 .seq (.reg [kM 10 1,kO 11 (.bin .add 3 (.t 10) (kI 1)),kM 8 11])
 (.block 0 (.loop (.seq (.seq (.reg [kM 12 8,kM 13 2,kO 14 (.bin .lss 3 (.t 12) (.t 13))])
 (.cond (.t 14) (.skip)
 (.exit 0)))
 (.seq (.block 1 (.seq (.reg [kM 17 8,kM 9 17])
 (.block 2 (.loop (.seq (.seq (.drw drw162_0 [kM 18 9,kM 19 1,kO 20 (.bin .gtr 3 (.t 18) (.t 19)),kM 21 20,kT 22 21 (.mv (.t 3)),kT 23 21 (.mv (.t 0)),kT 24 21 (.mv (.t 9)),
 kT 25 21 (.ia 71 (.t 23) (.t 24)),kT 26 21 (.ld 50 (.t 25)),kT 27 21 (.mv (.t 0)),kT 28 21 (.mv (.t 9)),kT 29 21 (.bin .sub 3 (.t 28) (kI 1)),
 kT 30 21 (.ia 71 (.t 27) (.t 29)),kT 31 21 (.ld 50 (.t 30)),kT 32 21 (.call (.t 22) [.t 26,.t 31]),kT 33 21 (.bin .lss 3 (.t 32) (kI 0)),
 kO 34 (.pk (.t 21) (.t 33) (.b false))])
 (.cond (.t 34) (.skip)
 (.exit 2)))
 (.seq (.block 3 (.drw drw162_1 [kM 37 0,kM 38 9,kM 39 0,kM 40 9,kO 41 (.bin .sub 3 (.t 40) (kI 1)),kM 42 0,kM 43 9,kO 44 (.bin .sub 3 (.t 43) (kI 1)),
 kO 45 (.ia 71 (.t 42) (.t 44)),kO 46 (.ld 50 (.t 45)),kM 47 0,kM 48 9,kO 49 (.ia 71 (.t 47) (.t 48)),kO 50 (.ld 50 (.t 49)),
 kO 51 (.ia 71 (.t 37) (.t 38)),kN (.st 50 (.t 51) (.t 46)),kO 52 (.ia 71 (.t 39) (.t 41)),kN (.st 50 (.t 52) (.t 50))]))
 (.reg [kM 35 9,kO 36 (.bin .sub 3 (.t 35) (kI 1)),kM 9 36])))))))
 (.reg [kM 15 8,kO 16 (.bin .add 3 (.t 15) (kI 1)),kM 8 16])))))
theorem b162:Body Try.prog 162 53 [] k162:=⟨Enters.of Try.func162 (by kernel_rfl) (by kernel_rfl),_,_,Try.func162,rfl,by kernel_rfl,rfl,rfl⟩
def k170:KC:=
 .seq (.reg [kO 3 (.mv (.b false))])
 (.seq (.reg [kM 4 0,kO 5 (.bi .len [25] [.t 4]),kO 6 (.ld 22 (.t 1)),kO 7 (.ia 22 (.t 6) (kI 0)),kO 8 (.ld 25 (.t 7)),kO 9 (.bi .len [25] [.t 8]),
 kO 10 (.bin .neq 3 (.t 5) (.t 9)),kM 3 10])
 (.ret))
theorem b170:Body Try.prog 170 11 [3] k170:=⟨Enters.of Try.func170 (by kernel_rfl) (by kernel_rfl),_,_,Try.func170,rfl,by kernel_rfl,rfl,rfl⟩
def k172:KC:=
 .seq (.reg [kO 4 (.mv (.i .u8 0))])
 (.seq (.reg [kO 5 (.mv (.i .u8 0))])
 (.seq (.block 0 (.loop (.seq (.seq (.reg [kM 7 1,kO 8 (.bin .neq 5 (.t 7) (.i .u8 0))])
 (.cond (.t 8) (.skip)
 (.exit 0)))
 (.seq (.block 1 (.seq (.seq (.reg [kM 11 1,kO 12 (.bin .and 5 (.t 11) (.i .u8 1)),kO 13 (.bin .eql 5 (.t 12) (.i .u8 1))])
 (.cond (.t 13) (.reg [kM 14 5,kM 15 0,kO 16 (.bin .xor 5 (.t 14) (.t 15)),kM 5 16])
 (.skip)))
 (.seq (.reg [kM 17 0,kO 18 (.bin .and 5 (.t 17) (.i .u8 128)),kO 19 (.bin .neq 5 (.t 18) (.i .u8 0)),kM 6 19])
 (.seq (.reg [kM 20 0,kO 21 (.bin .shl 5 (.t 20) (.i .u64 1)),kM 0 21])
 (.seq (.reg [kM 22 6])
 (.cond (.t 22) (.reg [kM 23 0,kO 24 (.bin .xor 5 (.t 23) (.i .u8 29)),kM 0 24])
 (.skip)))))))
 (.reg [kM 9 1,kO 10 (.bin .shr 5 (.t 9) (.i .u64 1)),kM 1 10])))))
 (.seq (.reg [kM 25 5,kM 4 25])
 (.ret))))
theorem b172:Body Try.prog 172 26 [4] k172:=⟨Enters.of Try.func172 (by kernel_rfl) (by kernel_rfl),_,_,Try.func172,rfl,by kernel_rfl,rfl,rfl⟩
def k183:KC:=
 .seq (.reg [kO 2 (.mv (kI 0))])
 (.seq (.seq (.reg [kM 3 0,kO 4 (.bin .eql 3 (.t 3) (kI 6))])
 (.cond (.t 4) (.seq (.reg [kO 2 (.mv (kI 79))])
 (.ret))
 (.skip)))
 (.seq (.reg [kO 2 (.mv (kI 64))])
 (.ret)))
theorem b183:Body Try.prog 183 5 [2] k183:=⟨Enters.of Try.func183 (by kernel_rfl) (by kernel_rfl),_,_,Try.func183,rfl,by kernel_rfl,rfl,rfl⟩
def k184:KC:=
 .seq (.reg [kO 2 (.mv (.i .u32 0))])
 (.seq (.reg [kM 3 0,kO 4 (.call (.fn 194) [.i .u32 0,.t 3]),kM 2 4])
 (.ret))
theorem b184:Body Try.prog 184 5 [2] k184:=⟨Enters.of Try.func184 (by kernel_rfl) (by kernel_rfl),_,_,Try.func184,rfl,by kernel_rfl,rfl,rfl⟩
def k185:KC:=
 .seq (.reg [kO 4 (.mv (.ns))])
 (.seq (.reg [kM 5 0,kM 6 1,kO 7 (.bi .max [3,3] [.i .i64 0,.t 6]),kO 8 (.call (.fn 187) [.t 5,.t 7]),kO 9 (.call (.fn 61) [.t 8]),kM 4 9])
 (.ret))
theorem b185:Body Try.prog 185 10 [4] k185:=⟨Enters.of Try.func185 (by kernel_rfl) (by kernel_rfl),_,_,Try.func185,rfl,by kernel_rfl,rfl,rfl⟩
noncomputable def drw186_0:Array Oper:=((Try.f186.body.map regs).getD []).getD 0 #[]
noncomputable def k186:KC:=
 .seq (.reg [kO 4 (.mv (.b false))])
 (.seq (.seq (.reg [kM 6 0,kO 7 (.bi .len [25] [.t 6]),kM 8 1,kO 9 (.bi .len [25] [.t 8]),kO 10 (.bin .neq 3 (.t 7) (.t 9))])
 (.cond (.t 10) (.seq (.reg [kO 4 (.mv (.b false))])
 (.ret))
 (.skip)))
 (.seq (.seq (.reg [kM 11 0,kO 12 (.bi .len [25] [.t 11]),kO 13 (.mv (kI 0))])
 (.block 0 (.loop (.seq (.reg [kO 14 (.bin .lss 3 (.t 13) (.t 12))])
 (.seq (.cond (.t 14) (.skip)
 (.exit 0))
 (.seq (.block 1 (.seq (.reg [kM 15 13,kM 5 15])
 (.seq (.drw drw186_0 [kM 16 0,kM 17 5,kO 18 (.ia 25 (.t 16) (.t 17)),kO 19 (.ld 5 (.t 18)),kM 20 1,kM 21 5,kO 22 (.ia 25 (.t 20) (.t 21)),kO 23 (.ld 5 (.t 22)),
 kO 24 (.bin .neq 5 (.t 19) (.t 23))])
 (.cond (.t 24) (.seq (.reg [kO 4 (.mv (.b false))])
 (.ret))
 (.skip)))))
 (.reg [kO 25 (.bin .add 3 (.t 13) (kI 1)),kM 13 25])))))))
 (.seq (.reg [kO 4 (.mv (.b true))])
 (.ret))))
theorem b186:Body Try.prog 186 26 [4] k186:=⟨Enters.of Try.func186 (by kernel_rfl) (by kernel_rfl),_,_,Try.func186,rfl,by kernel_rfl,rfl,rfl⟩
def k187:KC:=
 .seq (.reg [kO 4 (.mv (.ns))])
 (.seq (.seq (.reg [kM 6 0,kO 7 (.bin .eql 192 (.t 6) (.np)),kM 8 7,kG 9 8 (.mv (.t 0)),kG 10 8 (.nc (.t 9)),kG 11 8 (.fa 215 (.t 10) 1),kG 12 8 (.ld 4 (.t 11)),
 kO 13 (.pk (.t 8) (.b true) (.t 12))])
 (.cond (.t 13) (.seq (.reg [kO 4 (.mv (.ns))])
 (.ret))
 (.skip)))
 (.seq (.seq (.reg [kM 14 1,kM 15 0,kO 16 (.nc (.t 15)),kO 17 (.fa 215 (.t 16) 0),kO 18 (.ld 25 (.t 17)),kO 19 (.bi .len [25] [.t 18]),
 kO 20 (.bin .gtr 3 (.t 14) (.t 19))])
 (.cond (.t 20) (.seq (.reg [kM 21 0,kM 22 0,kO 23 (.nc (.t 21)),kO 24 (.fa 215 (.t 23) 0),kN (.st 25 (.t 24) (.ns)),kO 25 (.nc (.t 22)),kO 26 (.fa 215 (.t 25) 1),
 kN (.st 4 (.t 26) (.b true))])
 (.seq (.reg [kO 4 (.mv (.ns))])
 (.ret)))
 (.skip)))
 (.seq (.reg [kM 27 0,kO 28 (.nc (.t 27)),kO 29 (.fa 215 (.t 28) 0),kO 30 (.ld 25 (.t 29)),kM 31 1,kO 32 (.sli 25 (.t 30) none (some (.t 31)) none),kM 5 32])
 (.seq (.reg [kM 33 0,kM 34 0,kO 35 (.nc (.t 34)),kO 36 (.fa 215 (.t 35) 0),kO 37 (.ld 25 (.t 36)),kM 38 1,kO 39 (.sli 25 (.t 37) (some (.t 38)) none none),
 kO 40 (.nc (.t 33)),kO 41 (.fa 215 (.t 40) 0),kN (.st 25 (.t 41) (.t 39))])
 (.seq (.reg [kM 42 5,kM 4 42])
 (.ret))))))
theorem b187:Body Try.prog 187 43 [4] k187:=⟨Enters.of Try.func187 (by kernel_rfl) (by kernel_rfl),_,_,Try.func187,rfl,by kernel_rfl,rfl,rfl⟩
def k194:KC:=
 .seq (.reg [kO 4 (.mv (.i .u32 0))])
 (.seq (.reg [kM 8 0,kO 9 (.bin .xor 106 (.t 8) (.i .u32 4294967295)),kM 5 9])
 (.seq (.seq (.reg [kM 10 1,kO 11 (.bi .len [25] [.t 10]),kO 12 (.mv (kI 0))])
 (.block 0 (.loop (.seq (.reg [kO 13 (.bin .lss 3 (.t 12) (.t 11))])
 (.seq (.cond (.t 13) (.skip)
 (.exit 0))
 (.seq (.block 1 (.seq (.reg [kO 14 (.ia 25 (.t 10) (.t 12)),kO 15 (.ld 5 (.t 14)),kM 7 15])
 (.seq (.reg [kM 16 5,kM 17 7,kO 18 (.cvt 5 106 (.t 17)),kO 19 (.bin .xor 106 (.t 16) (.t 18)),kM 5 19])
 (.seq (.reg [kO 20 (.mv (kI 0))])
 (.block 2 (.loop (.seq (.reg [kO 21 (.bin .lss 3 (.t 20) (kI 8))])
 (.seq (.cond (.t 21) (.skip)
 (.exit 2))
 (.seq (.block 3 (.seq (.reg [kM 22 5,kO 23 (.bin .and 106 (.t 22) (.i .u32 1)),kO 24 (.bin .eql 106 (.t 23) (.i .u32 1))])
 (.cond (.t 24) (.reg [kM 25 5,kO 26 (.bin .shr 106 (.t 25) (.i .u64 1)),kO 27 (.bin .xor 106 (.t 26) (.i .u32 2197175160)),kM 5 27])
 (.reg [kM 28 5,kO 29 (.bin .shr 106 (.t 28) (.i .u64 1)),kM 5 29]))))
 (.reg [kO 30 (.bin .add 3 (.t 20) (kI 1)),kM 20 30]))))))))))
 (.reg [kO 31 (.bin .add 3 (.t 12) (kI 1)),kM 12 31])))))))
 (.seq (.reg [kM 32 5,kO 33 (.bin .xor 106 (.t 32) (.i .u32 4294967295)),kM 4 33])
 (.ret))))
theorem b194:Body Try.prog 194 34 [4] k194:=⟨Enters.of Try.func194 (by kernel_rfl) (by kernel_rfl),_,_,Try.func194,rfl,by kernel_rfl,rfl,rfl⟩
end Go.Proofs.Ytndjbcnpgggddaa
