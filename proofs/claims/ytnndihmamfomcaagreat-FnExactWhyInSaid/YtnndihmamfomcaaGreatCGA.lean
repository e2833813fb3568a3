/- Plain laws for the graphs: rounds, numbers, events. -/
import Derived.Test.YtnndihmamfomcaaGreatCQ
import Derived.Test.YtnndihmamfomcaaGreatCO
set_option autoImplicit false
set_option linter.unusedVariables false
set_option linter.unusedSimpArgs false
namespace Go.Proofs.YtnndihmamfomcaaGreat
open Go Go.Abs


theorem big_gt {n : Nat} (h : n < 9223372036854775808) : n < big := lt_big (by omega)

theorem loop_first {ω : Type} {step : Int → Option (Int ⊕ ω)} {n : Nat} (out : Nat → Option ω) (fin : ω) (hn : n < 9223372036854775807)
  (h1 : ∀ i : Nat, i < n → step (i : Int) = some (match out i with | some o => .inr o | none => .inl ((i + 1 : Nat) : Int))) (h2 : step (n : Int) = some (.inr fin)) :
  (∃ i o, i < n ∧ out i = some o ∧ (∀ j, j < i → out j = none) ∧ iter step big 0 = some o) ∨ ((∀ i, i < n → out i = none) ∧ iter step big 0 = some fin) := by
 have key : ∀ m i k : Nat, i + m = n → m < k → (∀ j, j < i → out j = none) →
   (∃ i' o, i' < n ∧ out i' = some o ∧ (∀ j, j < i' → out j = none) ∧ iter step k (i : Int) = some o) ∨ ((∀ i, i < n → out i = none) ∧ iter step k (i : Int) = some fin) := by
  intro m
  induction m with
  | zero =>
   intro i k hm hk hj
   obtain ⟨k, rfl⟩ : ∃ k', k = k' + 1 := ⟨k - 1, by omega⟩
   obtain rfl : i = n := by omega
   exact .inr ⟨hj, by rw [iter, h2]; rfl⟩
  | succ m ih =>
   intro i k hm hk hj
   obtain ⟨k, rfl⟩ : ∃ k', k = k' + 1 := ⟨k - 1, by omega⟩
   have hs := h1 i (by omega)
   cases ho : out i with
   | some o =>
    rw [ho] at hs
    exact .inl ⟨i, o, by omega, ho, hj, by rw [iter, hs]; rfl⟩
   | none =>
    rw [ho] at hs
    have hj' : ∀ j, j < i + 1 → out j = none := fun j hji => by
     by_cases h : j < i
     ·
      exact hj j h
     ·
      obtain rfl : j = i := by omega
      exact ho
    have hit : iter step (k + 1) (i : Int) = iter step k ((i + 1 : Nat) : Int) := by rw [iter, hs]; rfl
    rw [hit]
    exact ih (i + 1) k (by omega) (by omega) hj'
 exact key n 0 big (by omega) (big_gt (by omega)) fun j hj => by omega

theorem loop_all {ω : Type} {step : Int → Option (Int ⊕ ω)} {n : Nat} (ok : Nat → Bool) (bad fin : ω) (hn : n < 9223372036854775807)
  (h1 : ∀ i : Nat, i < n → step (i : Int) = some (cond (ok i) (.inl ((i + 1 : Nat) : Int)) (.inr bad))) (h2 : step (n : Int) = some (.inr fin)) :
  iter step big 0 = some (if ∀ i, i < n → ok i = true then fin else bad) := by
 rcases loop_first (fun i => cond (ok i) none (some bad)) fin hn (fun i hi => by rw [h1 i hi]; cases ok i <;> rfl) h2 with ⟨i, o, hi, ho, _, hx⟩ | ⟨h, hx⟩
 ·
  rw [hx, if_neg]
  ·
   cases hk : ok i with
   | true => simp [hk] at ho
   | false => simp [hk] at ho; rw [ho]
  ·
   intro h
   simp [h i hi] at ho
 ·
  rw [hx, if_pos]
  intro i hi
  have := h i hi
  cases hk : ok i with
  | true => rfl
  | false => simp [hk] at this

theorem loop_state {τ ω σ : Type} {step : τ → Option (τ ⊕ ω)} {n : Nat} (emb : σ → Int → τ) (I : Nat → σ → Prop) (Q : ω → Prop) (hn : n < 9223372036854775807)
  (h1 : ∀ (i : Nat) (s : σ), i < n → I i s → ∃ s', step (emb s i) = some (.inl (emb s' ((i + 1 : Nat) : Int))) ∧ I (i + 1) s') (h2 : ∀ s, I n s → ∃ o, step (emb s n) = some (.inr o) ∧ Q o)
  {s : σ} (h0 : I 0 s) : ∃ o, iter step big (emb s 0) = some o ∧ Q o := by
 refine iter_total (fun m (x : τ) => ∃ (i : Nat) (s : σ), x = emb s i ∧ i + m = n ∧ I i s) ?_ big n _ ⟨0, s, rfl, by omega, h0⟩ (big_gt (by omega))
 rintro m x ⟨i, s, rfl, hm, hi⟩
 by_cases hin : i < n
 ·
  obtain ⟨s', h3, h4⟩ := h1 i s hin hi
  exact .inr ⟨_, m - 1, h3, by omega, i + 1, s', rfl, by omega, h4⟩
 ·
  obtain rfl : i = n := by omega
  exact .inl (h2 s hi)

theorem loop_state_out {τ ω σ : Type} {step : τ → Option (τ ⊕ ω)} {n : Nat} (emb : σ → Int → τ) (I : Nat → σ → Prop) (Q : ω → Prop) (hn : n < 9223372036854775807)
  (h1 : ∀ (i : Nat) (s : σ), i < n → I i s → (∃ s', step (emb s i) = some (.inl (emb s' ((i + 1 : Nat) : Int))) ∧ I (i + 1) s') ∨ ∃ o, step (emb s i) = some (.inr o) ∧ Q o) (h2 : ∀ s, I n s → ∃ o, step (emb s n) = some (.inr o) ∧ Q o)
  {s : σ} (h0 : I 0 s) : ∃ o, iter step big (emb s 0) = some o ∧ Q o := by
 refine iter_total (fun m (x : τ) => ∃ (i : Nat) (s : σ), x = emb s i ∧ i + m = n ∧ I i s) ?_ big n _ ⟨0, s, rfl, by omega, h0⟩ (big_gt (by omega))
 rintro m x ⟨i, s, rfl, hm, hi⟩
 by_cases hin : i < n
 ·
  rcases h1 i s hin hi with ⟨s', h3, h4⟩ | h
  ·
   exact .inr ⟨_, m - 1, h3, by omega, i + 1, s', rfl, by omega, h4⟩
  ·
   exact .inl h
 ·
  obtain rfl : i = n := by omega
  exact .inl (h2 s hi)

theorem beqd (x y : Int) : (x == y) = decide (x = y) := by by_cases h : x = y <;> simp [h]
theorem bned (x y : Int) : (x != y) = !decide (x = y) := by by_cases h : x = y <;> simp [h]
theorem get_of_lt {α : Type} {l : List α} {i : Nat} (h : i < l.length) : getI l (i : Int) = some l[i] := getI_nat (List.getElem?_eq_getElem h)
theorem dlt {i n : Nat} (h : i < n) : decide ((i : Int) < (n : Int)) = true := decide_eq_true (by omega)
theorem dnlt (n : Nat) : decide ((n : Int) < (n : Int)) = false := decide_eq_false (by omega)
theorem wrap1 {i n : Nat} (h : i < n) (hn : n < 9223372036854775807) : IntKind.i64.wrap ((i : Int) + 1) = ((i + 1 : Nat) : Int) := by rw [wrap_id (by omega) (by omega)]; omega
theorem wrapm1 {i : Nat} (h : 0 < i) (hn : i < 9223372036854775807) : IntKind.i64.wrap ((i : Int) - 1) = ((i - 1 : Nat) : Int) := by rw [wrap_id (by omega) (by omega)]; omega

def Up (l : List Int) : Prop := ∀ (i j : Nat) (hi : i < l.length) (hj : j < l.length), i < j → l[i] < l[j]
theorem Up.of_next {l : List Int} (h : ∀ (i : Nat) (h : i + 1 < l.length), l[i] < l[i + 1]) : Up l := by
 intro i j hi hj hij
 induction j with
 | zero => omega
 | succ j ih =>
  by_cases hji : i = j
  ·
   subst hji; exact h i hj
  ·
   have := ih (by omega) (by omega)
   have := h j hj
   omega
theorem up_iff {l : List Int} : Up l ↔ l.Pairwise (· < ·) := by
 rw [List.pairwise_iff_getElem]
 exact ⟨fun h i j hi hj hij => h i j hi hj hij, fun h i j hi hj hij => h i j hi hj hij⟩


theorem c_l02Is (a b c : Int) : Z8 a b c = some (decide (b ≤ a ∧ a ≤ c)) := by
 unfold Z8 Z69
 by_cases h : a ≥ b
 ·
  simp [h]
 ·
  simp [h]
theorem c_l02Id (a : Int) : Z48 a = some (decide (1 ≤ a ∧ a ≤ 1000000)) := by unfold Z48; rw [c_l02Is]; rfl
theorem c_l02User (a : Int) : Z2b a = some (decide (1 ≤ a ∧ a ≤ 6)) := by unfold Z2b; rw [c_l02Is]; rfl
theorem c_l02Time (a : Int) : Z8s a = some (decide (0 ≤ a ∧ a ≤ 1000000)) := by unfold Z8s; rw [c_l02Is]; rfl
theorem c_in (a b c : Int) : Z7 a b c = some (decide (b ≤ a ∧ a ≤ c)) := by
 unfold Z7
 by_cases h : b ≤ a
 ·
  simp [h, Z3e]
 ·
  simp [h, Z3e]
theorem c_isRoom (a : Int) : Z5k a = some (decide (1 ≤ a ∧ a ≤ 3)) := by unfold Z5k; rw [c_in]; rfl
theorem c_isId (a : Int) : Z5j a = some (decide (1 ≤ a ∧ a ≤ 1000000)) := by unfold Z5j; rw [c_in]; rfl
theorem c_isUser (a : Int) : Z1t a = some (decide (1 ≤ a ∧ a ≤ 6)) := by unfold Z1t; rw [c_in]; rfl
theorem c_isTime (a : Int) : Z7p a = some (decide (0 ≤ a ∧ a ≤ 1000000)) := by unfold Z7p; rw [c_in]; rfl


def PrevOk (l : List Int) (id : Int) : Prop := l.length ≤ 4 ∧ (∀ x ∈ l, 1 ≤ x ∧ x ≤ 1000000 ∧ x ≠ id) ∧ l.Pairwise (· < ·)
instance (l : List Int) (id : Int) : Decidable (PrevOk l id) := by unfold PrevOk; infer_instance

theorem c_l02Prev (l : List Int) (id : Int) : Z8r l id = some (decide (PrevOk l id)) := by
 unfold Z8r
 by_cases h4 : (l.length : Int) > 4
 ·
  rw [decide_eq_true h4, cond_true, decide_eq_false (fun h => by have := h.1; omega)]
 rw [decide_eq_false h4, cond_false]
 let ok : Nat → Bool := fun i => if h : i < l.length then decide ((1 ≤ l[i] ∧ l[i] ≤ 1000000) ∧ l[i] ≠ id ∧ (0 < i → ∀ h : i - 1 < l.length, l[i - 1] < l[i])) else true
 rw [loop_all ok (.inl false) (.inr ()) (n := l.length) (by omega) ?_ (by unfold Z49; rw [dnlt, cond_false])]
 ·
  have : (∀ i, i < l.length → ok i = true) ↔ PrevOk l id := by
   constructor
   ·
    intro h
    have hx : ∀ (i : Nat) (hi : i < l.length), (1 ≤ l[i] ∧ l[i] ≤ 1000000) ∧ l[i] ≠ id ∧ (0 < i → ∀ h : i - 1 < l.length, l[i - 1] < l[i]) := fun i hi => by
     have := h i hi
     simp only [ok, hi, dif_pos, decide_eq_true_eq] at this
     exact this
    refine ⟨by omega, fun x hx' => ?_, up_iff.1 (Up.of_next fun i hi => ?_)⟩
    ·
     obtain ⟨i, hi, rfl⟩ := List.mem_iff_getElem.1 hx'
     exact ⟨(hx i hi).1.1, (hx i hi).1.2, (hx i hi).2.1⟩
    ·
     exact (hx (i + 1) hi).2.2 (by omega) (by simp; omega)
   ·
    rintro ⟨_, h1, h2⟩ i hi
    simp only [ok, hi, dif_pos, decide_eq_true_eq]
    have := h1 _ (List.getElem_mem hi)
    exact ⟨⟨this.1, this.2.1⟩, this.2.2, fun h0 h => up_iff.2 h2 _ _ _ _ (by omega)⟩
  by_cases hP : PrevOk l id
  ·
   rw [if_pos (this.2 hP), decide_eq_true hP]; rfl
  ·
   rw [if_neg (fun h => hP (this.1 h)), decide_eq_false hP]; rfl
 ·
  intro i hi
  unfold Z49
  rw [dlt hi, cond_true, get_of_lt hi, Option.bind_some, c_l02Id, Option.bind_some]
  simp only [Z2a, wrap1 hi (by omega : l.length < _)]
  rw [beqd]
  by_cases h1 : 1 ≤ l[i] ∧ l[i] ≤ 1000000
  ·
   by_cases h2 : l[i] = id
   ·
    simp [ok, hi, h1, h2]
   ·
    by_cases h3 : i = 0
    ·
     subst h3
     simp [ok, hi, h1, h2]
    ·
     have h0 : 0 < i := by omega
     have hm : i - 1 < l.length := by omega
     rw [show decide ((i : Int) > 0) = true from decide_eq_true (by omega), wrapm1 h0 (by omega), get_of_lt hm]
     by_cases h5 : l[i - 1] < l[i]
     ·
      simp [ok, hi, h1, h2, h0, hm, h5, show ¬ l[i] ≤ l[i - 1] from by omega]
     ·
      simp [ok, hi, h1, h2, h0, hm, h5, show l[i] ≤ l[i - 1] from by omega]
  ·
   have : ok i = false := by simp only [ok, hi, dif_pos, h1, false_and, decide_false]
   simp [this, h1]
end Go.Proofs.YtnndihmamfomcaaGreat
