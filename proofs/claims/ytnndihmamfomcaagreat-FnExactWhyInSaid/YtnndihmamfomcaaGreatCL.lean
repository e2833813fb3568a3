/- Plain laws about rounds, lists and integers. -/
import Derived.Test.YtnndihmamfomcaaGreatCK
import Derived.IntWalk
set_option autoImplicit false
set_option linter.unusedVariables false
set_option linter.unusedSimpArgs false
namespace Go.Abs
open Go

theorem wrap_id {n : Int} (h0 : -9223372036854775808 ≤ n) (h1 : n ≤ 9223372036854775807) : IntKind.i64.wrap n = n := IntWalk.i64_in n ⟨h0, h1⟩

theorem chk_t {b : Bool} (h : b = true) : chk b = some () := by rw [h]; rfl

section
variable {α τ ω τ' ω' : Type}

theorem getI_nat {xs : List α} {i : Nat} {x : α} (h : xs[i]? = some x) : getI xs (i : Int) = some x := by
 rw [getI, if_pos (by omega)]; simpa using h

theorem iter_total {step : τ → Option (τ ⊕ ω)} {p : ω → Prop} (R : Nat → τ → Prop)
  (h : ∀ m x, R m x → (∃ o, step x = some (.inr o) ∧ p o) ∨ ∃ x' m', step x = some (.inl x') ∧ m' < m ∧ R m' x') : ∀ k m x, R m x → m < k → ∃ o, iter step k x = some o ∧ p o
 | 0, _, _, _, hk => by omega
 | k + 1, m, x, hr, hk => by
  rcases h m x hr with ⟨o, ho, hp⟩ | ⟨x', m', hx, hm, hr'⟩
  ·
   exact ⟨o, by rw [iter, ho]; rfl, hp⟩
  ·
   obtain ⟨o, ho, hp⟩ := iter_total R h k m' x' hr' (by omega)
   exact ⟨o, by rw [iter, hx]; exact ho, hp⟩

theorem iter_is {step : τ → Option (τ ⊕ ω)} {o : ω} (R : Nat → τ → Prop)
  (h : ∀ m x, R m x → step x = some (.inr o) ∨ ∃ x' m', step x = some (.inl x') ∧ m' < m ∧ R m' x') {k m : Nat} {x : τ} (hr : R m x) (hk : m < k) : iter step k x = some o := by
 obtain ⟨o', ho, rfl⟩ := iter_total (p := fun o' => o' = o) R (fun m x hr => (h m x hr).imp (fun h => ⟨o, h, rfl⟩) id) k m x hr hk
 exact ho

end

theorem lt_big {n : Nat} (h : n < 18446744073709551616) : n < big := h
end Go.Abs
