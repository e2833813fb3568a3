/- Plain laws: rounds over a list's places; slices and indices of lists. -/
import Derived.Test.YtnndihmamfomcaaGreatCL
set_option autoImplicit false
set_option linter.unusedVariables false
set_option linter.unusedSimpArgs false
namespace Go.Abs
open Go

section
variable {α σ τ ω : Type}

theorem sliceI_all {xs : List α} {l h : Nat} (h1 : l ≤ h) (h2 : h ≤ xs.length) : sliceI xs (l : Int) (h : Int) = some ((xs.drop l).take (h - l)) := by
 unfold sliceI
 rw [if_pos (by omega)]
 simp
theorem sliceI_to {xs : List α} {h : Nat} (h2 : h ≤ xs.length) : sliceI xs 0 (h : Int) = some (xs.take h) := by
 have := sliceI_all (xs := xs) (l := 0) (h := h) (by omega) h2
 simpa using this
theorem sliceI_from {xs : List α} {l : Nat} (h2 : l ≤ xs.length) : sliceI xs (l : Int) (xs.length : Int) = some (xs.drop l) := by
 rw [sliceI_all h2 (Nat.le_refl _), List.take_of_length_le (by simp)]

theorem shr1 {n : Nat} (h : n < 18446744073709551616) : shrI .u64 (IntKind.u64.wrap (n : Int)) 1 = ((n / 2 : Nat) : Int) := by
 have e : IntKind.u64.wrap (n : Int) = n := IntWalk.u64_in _ ⟨by omega, by omega⟩
 rw [e]
 show Int.fdiv (n : Int) (2 ^ (min 1 64)) = _
 rw [show (2 ^ (min 1 64) : Int) = 2 from rfl, Int.fdiv_eq_ediv_of_nonneg _ (by decide)]
 omega
end
end Go.Abs
