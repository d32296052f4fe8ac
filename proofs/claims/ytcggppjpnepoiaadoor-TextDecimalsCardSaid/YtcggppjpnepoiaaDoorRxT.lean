/- Facts of the types of the program. -/
import Derived.Test.YtcggppjpnepoiaaDoorProg
import Derived.Test.YtcggppjpnepoiaaDoorRxAll
import Derived.KernelRfl
namespace Go.Rx
open Go
theorem mixed : Go.Proofs.Tryd.prog.follows .mixedOrders = true := by kernel_rfl
theorem sl.sl_api_Tag : slcOf Go.Proofs.Tryd.prog 22 30 2 = true := by kernel_rfl
theorem ag.api_Tag : isAg Go.Proofs.Tryd.prog 30 2 = true := by kernel_rfl
theorem z.api_Tag : zeroOf Go.Proofs.Tryd.prog 30 = some (.agg #[.int .i64 0, .string ⟨#[]⟩]) := by kernel_rfl
theorem sz.api_Tag : szOf Go.Proofs.Tryd.prog 30 2 = true := by kernel_rfl
theorem fd.api_Tag_0 : fldOf Go.Proofs.Tryd.prog 30 0 0 3 1 = true := by kernel_rfl
theorem sc.int : isSc Go.Proofs.Tryd.prog 3 = true := by kernel_rfl
theorem fd.api_Tag_1 : fldOf Go.Proofs.Tryd.prog 30 1 1 9 1 = true := by kernel_rfl
theorem sc.string : isSc Go.Proofs.Tryd.prog 9 = true := by kernel_rfl
theorem so.api_Tag : sorts Go.Proofs.Tryd.prog 20 30 = some [.int .i64, .str] := by kernel_rfl
theorem gd.api_Tag : Go.Proofs.Tryd.prog.eqGuardType Go.Proofs.Tryd.prog.depth 30 = false := by kernel_rfl
theorem st.string : isStr Go.Proofs.Tryd.prog 9 = true := by kernel_rfl
theorem it.uint8 : intOfT Go.Proofs.Tryd.prog 5 .u8 = true := by kernel_rfl
theorem it.uint64 : intOfT Go.Proofs.Tryd.prog 25 .u64 = true := by kernel_rfl
theorem el.api_Tag : elOf Go.Proofs.Tryd.prog 30 2 24 = true := by kernel_rfl
theorem pl.api_Tag : fieldPlaces Go.Proofs.Tryd.prog 30 = some [(0, 1), (1, 1)] := by kernel_rfl
theorem bl.bool : isBoolT Go.Proofs.Tryd.prog 4 = true := by kernel_rfl
theorem byt.api_Tag : Go.Proofs.Tryd.prog.bytesOf 30 = 24 := by kernel_rfl
end Go.Rx
