/- Plain laws: rounds over a list's places; slices and indices of lists. -/
import Derived.Test.YtnndihmamfomcaaGreatCL
set_option autoImplicit false
set_option linter.unusedVariables false
set_option linter.unusedSimpArgs false
namespace Go.Abs
open Go

/-- A list gone through, with a way out. -/
def forL {α σ ω : Type} (f : Nat → σ → α → Option (σ ⊕ ω)) : Nat → List α → σ → Option (σ ⊕ ω)
 | _, [], s => some (.inl s)
 | i, x :: xs, s => (f i s x).bind fun
  | .inl s' => forL f (i + 1) xs s'
  | .inr o => some (.inr o)

section
variable {α σ τ ω : Type}

theorem iter_forL' {step : τ → Option (τ ⊕ ω)} {xs : List α} {f : Nat → σ → α → Option (σ ⊕ ω)} (emb : Nat → σ → τ) (fin : σ → ω) (I : Nat → σ → Prop)
  (h1 : ∀ i s x, I i s → xs[i]? = some x → step (emb i s) = (f i s x).map (fun | .inl s' => .inl (emb (i + 1) s') | .inr o => .inr o))
  (hI : ∀ i s x s', I i s → xs[i]? = some x → f i s x = some (.inl s') → I (i + 1) s')
  (h2 : ∀ s, I xs.length s → step (emb xs.length s) = some (.inr (fin s))) :
  ∀ (m i : Nat) (k : Nat) (s : σ), i + m = xs.length → m < k → I i s → iter step k (emb i s) = (forL f i (xs.drop i) s).map (fun | .inl s' => fin s' | .inr o => o)
 | 0, i, k, s, hm, hk, hi => by
  obtain ⟨k, rfl⟩ : ∃ k', k = k' + 1 := ⟨k - 1, by omega⟩
  obtain rfl : i = xs.length := by omega
  rw [iter, h2 s hi, List.drop_of_length_le (Nat.le_refl _)]
  rfl
 | m + 1, i, k, s, hm, hk, hi => by
  obtain ⟨k, rfl⟩ : ∃ k', k = k' + 1 := ⟨k - 1, by omega⟩
  have hx : xs[i]? = some xs[i] := List.getElem?_eq_getElem (by omega)
  rw [iter, h1 i s _ hi hx, List.drop_eq_getElem_cons (by omega), forL]
  cases hf : f i s xs[i] with
  | none => rfl
  | some y =>
   cases y with
   | inl s' => exact iter_forL' emb fin I h1 hI h2 m (i + 1) k s' (by omega) (by omega) (hI i s _ s' hi hx hf)
   | inr o => rfl

/-- Rounds over a list's places. -/
theorem iter_forL {step : τ → Option (τ ⊕ ω)} {xs : List α} {f : Nat → σ → α → Option (σ ⊕ ω)} {k : Nat} {s : σ} (emb : Nat → σ → τ) (fin : σ → ω) (I : Nat → σ → Prop)
  (h1 : ∀ i s x, I i s → xs[i]? = some x → step (emb i s) = (f i s x).map (fun | .inl s' => .inl (emb (i + 1) s') | .inr o => .inr o))
  (hI : ∀ i s x s', I i s → xs[i]? = some x → f i s x = some (.inl s') → I (i + 1) s')
  (h2 : ∀ s, I xs.length s → step (emb xs.length s) = some (.inr (fin s))) (h0 : I 0 s) (hk : xs.length < k) :
  iter step k (emb 0 s) = (forL f 0 xs s).map (fun | .inl s' => fin s' | .inr o => o) := by
 have := iter_forL' emb fin I h1 hI h2 xs.length 0 k s (by omega) hk h0
 simpa using this

/-- No way out: a fold. -/
theorem forL_fold {g : σ → α → σ} {f : Nat → σ → α → Option (σ ⊕ ω)} (I : Nat → σ → Prop) : ∀ (xs : List α) (i : Nat) (s : σ), I i s → (∀ j s x, I (i + j) s → xs[j]? = some x → f (i + j) s x = some (.inl (g s x)) ∧ I (i + j + 1) (g s x)) → forL f i xs s = some (.inl (xs.foldl g s))
 | [], _, _, _, _ => rfl
 | x :: xs, i, s, hi, h => by
  obtain ⟨h1, h2⟩ := h 0 s x hi rfl
  simp only [Nat.add_zero] at h1 h2
  rw [forL, h1]
  refine forL_fold I xs (i + 1) (g s x) h2 fun j s' y hj hy => ?_
  have := h (j + 1) s' y (by rwa [show i + (j + 1) = i + 1 + j from by omega]) (by simpa using hy)
  rwa [show i + (j + 1) = i + 1 + j from by omega] at this

theorem sliceI_all {xs : List α} {l h : Nat} (h1 : l ≤ h) (h2 : h ≤ xs.length) : sliceI xs (l : Int) (h : Int) = some ((xs.drop l).take (h - l)) := by
 unfold sliceI
 rw [if_pos (by omega)]
 simp
theorem sliceI_to {xs : List α} {h : Nat} (h2 : h ≤ xs.length) : sliceI xs 0 (h : Int) = some (xs.take h) := by
 have := sliceI_all (xs := xs) (l := 0) (h := h) (by omega) h2
 simpa using this
theorem sliceI_from {xs : List α} {l : Nat} (h2 : l ≤ xs.length) : sliceI xs (l : Int) (xs.length : Int) = some (xs.drop l) := by
 rw [sliceI_all h2 (Nat.le_refl _), List.take_of_length_le (by simp)]

theorem getI_ge {xs : List α} {i : Nat} (h : xs.length ≤ i) : getI xs (i : Int) = none := by
 unfold getI
 rw [if_pos (by omega)]
 simpa using h

theorem shr1 {n : Nat} (h : n < 18446744073709551616) : shrI .u64 (IntKind.u64.wrap (n : Int)) 1 = ((n / 2 : Nat) : Int) := by
 have e : IntKind.u64.wrap (n : Int) = n := IntWalk.u64_in _ ⟨by omega, by omega⟩
 rw [e]
 show Int.fdiv (n : Int) (2 ^ (min 1 64)) = _
 rw [show (2 ^ (min 1 64) : Int) = 2 from rfl, Int.fdiv_eq_ediv_of_nonneg _ (by decide)]
 omega
end
end Go.Abs
