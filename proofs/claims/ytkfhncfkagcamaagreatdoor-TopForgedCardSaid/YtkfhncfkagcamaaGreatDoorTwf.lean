/- A whole number as an argument. -/
import Derived.Test.YtkfhncfkagcamaaGreatDoorTpb
namespace Go.Proofs.YtkfhncfkagcamaaGreatDoor
open Go Go.V
theorem Zbo {n:Int} (h:(Lit.int .i64 n).wf=true):i64 n:=by
 have h:(decide (IntKind.i64.min≤n)&&decide (n≤IntKind.i64.max))=true:=h
 rw[Bool.and_eq_true,decide_eq_true_eq,decide_eq_true_eq,show IntKind.i64.min = -9223372036854775808 from rfl,show IntKind.i64.max=9223372036854775807 from rfl]at h
 exact⟨h.1,by omega⟩
end Go.Proofs.YtkfhncfkagcamaaGreatDoor
