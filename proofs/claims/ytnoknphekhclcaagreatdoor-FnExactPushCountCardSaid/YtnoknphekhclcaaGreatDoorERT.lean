/- FnExactPushCount: the card, but for the row. -/
import Derived.Test.YtnoknphekhclcaaGreatDoorERA
import Derived.Test.YtnoknphekhclcaaGreatDoorCards
import Derived.Test.YtnoknphekhclcaaGreatDoorTie
import Derived.SevenTiedAt
set_option autoImplicit false
set_option linter.unusedVariables false
set_option linter.unusedSimpArgs false
namespace Go.Proofs.YtnoknphekhclcaaGreatDoor
open Go Go.Abs
theorem rowT (h : Rows.FnExactPushCountSaid) : Rows.FnExactPushCountCardSaid :=
 Claim7.holds_tied_plain_at .later [] [.data, .data, .data] true (true, "2c3f2310051c3a3ba87363a41a0a00950abd281beb8288ba1e27b1f540fb5d88") false
  h (fun _ h => by cases h) (by as_aux_lemma => kernel_rfl) (fun _ h => by cases h) fnExactPushCount_row_tie rfl ⟨rfl, rfl⟩ (by as_aux_lemma => kernel_rfl) rfl
  (fun f fn hf hfn => by
   obtain rfl : f = 6 := Wj ((show Tryz.prog.funcNamed "loop.example/g00683/laws.FnExactPushCount" = some 6 by as_aux_lemma => kernel_rfl).symm.trans hf) |>.symm
   obtain rfl : fn = Tryz.f6 := (Wj (Tryz.func6.symm.trans hfn)).symm
   exact ⟨by as_aux_lemma => kernel_rfl, fun j t ht => by
    have ht' : (#[25, 46, 57, 2, 2] : Array Nat)[j]? = some t := ht
    have hm : t ∈ [25, 46, 57, 2, 2] := by simpa using Array.mem_of_getElem? ht'
    have hall : ([25, 46, 57, 2, 2].all fun u => !Tryz.prog.wantsStandIn u) = true := by as_aux_lemma => kernel_rfl
    exact (show Tryz.prog.wantsStandIn t = false by simpa using List.all_eq_true.1 hall t hm)⟩)
  (by as_aux_lemma => kernel_rfl)
end Go.Proofs.YtnoknphekhclcaaGreatDoor
