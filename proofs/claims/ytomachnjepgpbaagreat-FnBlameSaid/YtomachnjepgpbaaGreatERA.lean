/- FnBlame: the row's closed facts. -/
import Derived.Test.YtomachnjepgpbaaGreatEL
import Derived.Test.YtomachnjepgpbaaGreatRows
import Derived.Stop.Joined
set_option autoImplicit false
set_option linter.unusedVariables false
set_option linter.unusedSimpArgs false
namespace Go.Proofs.YtomachnjepgpbaaGreat
open Go Go.Abs
theorem rowA : ownKnob Tryz.checked.prog.godebug = none := by kernel_rfl
theorem rowB : Tryz.checked.prog.inits.idxOf? 4 = none := by kernel_rfl
theorem rowC : laidOutB Tryz.checked.prog = true := by kernel_rfl
theorem rowD : ([22, 22].all fun t => Tryz.checked.prog.readableRec t && decide (t < Tryz.checked.prog.types.size)) = true := by kernel_rfl
theorem rowE : Tryz.checked.prog.underlying 4 = some .bool := by kernel_rfl
theorem andI {a b : Bool} (h : a = true) (k : b = true) : (a && b) = true := by rw [h, k]; rfl
set_option maxHeartbeats 100000000 in
theorem rowF : joinedFacts Tryz.checked.prog 4 Tryz.f4 Rows.fnBlameSpec Rows.fnBlameRow = true := by
 unfold joinedFacts
 iterate 31 refine andI ?_ (by as_aux_lemma => kernel_rfl)
 as_aux_lemma => kernel_rfl
end Go.Proofs.YtomachnjepgpbaaGreat
