import Derived.Test.YtndjbcnpgggddaaAmT
namespace Go.Proofs.Ytndjbcnpgggddaa
open Go.AM
def k194:KC:=
 .seq (.reg [kO 4 (.mv (.i .u32 0))])
 (.seq (.reg [kM 8 0,kO 9 (.bin .xor 106 (.t 8) (.i .u32 4294967295)),kM 5 9])
 (.seq (.seq (.reg [kM 10 1,kO 11 (.bi .len [25] [.t 10]),kO 12 (.mv (kI 0))])
 (.block 0 (.loop (.seq (.reg [kO 13 (.bin .lss 3 (.t 12) (.t 11))])
 (.seq (.cond (.t 13) (.skip)
 (.exit 0))
 (.seq (.block 1 (.seq (.reg [kO 14 (.ia 25 (.t 10) (.t 12)),kO 15 (.ld 5 (.t 14)),kM 7 15])
 (.seq (.reg [kM 16 5,kM 17 7,kO 18 (.cvt 5 106 (.t 17)),kO 19 (.bin .xor 106 (.t 16) (.t 18)),kM 5 19])
 (.seq (.reg [kO 20 (.mv (kI 0))])
 (.block 2 (.loop (.seq (.reg [kO 21 (.bin .lss 3 (.t 20) (kI 8))])
 (.seq (.cond (.t 21) (.skip)
 (.exit 2))
 (.seq (.block 3 (.seq (.reg [kM 22 5,kO 23 (.bin .and 106 (.t 22) (.i .u32 1)),kO 24 (.bin .eql 106 (.t 23) (.i .u32 1))])
 (.cond (.t 24) (.reg [kM 25 5,kO 26 (.bin .shr 106 (.t 25) (.i .u64 1)),kO 27 (.bin .xor 106 (.t 26) (.i .u32 2197175160)),kM 5 27])
 (.reg [kM 28 5,kO 29 (.bin .shr 106 (.t 28) (.i .u64 1)),kM 5 29]))))
 (.reg [kO 30 (.bin .add 3 (.t 20) (kI 1)),kM 20 30]))))))))))
 (.reg [kO 31 (.bin .add 3 (.t 12) (kI 1)),kM 12 31])))))))
 (.seq (.reg [kM 32 5,kO 33 (.bin .xor 106 (.t 32) (.i .u32 4294967295)),kM 4 33])
 (.ret))))
theorem b194:Body Try.prog 194 34 [4] k194:=⟨Enters.of Try.func194 (by kernel_rfl) (by kernel_rfl),_,_,Try.func194,rfl,by kernel_rfl,rfl,rfl⟩
end Go.Proofs.Ytndjbcnpgggddaa
