/- Plain laws for the graphs: rounds, numbers, events. -/
import Derived.Test.YtomachnjepgpbaaGreatEQ
import Derived.Test.YtomachnjepgpbaaGreatEX
set_option autoImplicit false
set_option linter.unusedVariables false
set_option linter.unusedSimpArgs false
namespace Go.Proofs.YtomachnjepgpbaaGreat
open Go Go.Abs


theorem Ycr {n : Nat} (h : n < 9223372036854775808) : n < big := Y53 (by omega)

theorem Ycs {ω : Type} {step : Int → Option (Int ⊕ ω)} {n : Nat} (out : Nat → Option ω) (fin : ω) (hn : n < 9223372036854775807)
  (h1 : ∀ i : Nat, i < n → step (i : Int) = some (match out i with | some o => .inr o | none => .inl ((i + 1 : Nat) : Int))) (h2 : step (n : Int) = some (.inr fin)) :
  (∃ i o, i < n ∧ out i = some o ∧ (∀ j, j < i → out j = none) ∧ iter step big 0 = some o) ∨ ((∀ i, i < n → out i = none) ∧ iter step big 0 = some fin) := by
 have key : ∀ m i k : Nat, i + m = n → m < k → (∀ j, j < i → out j = none) →
   (∃ i' o, i' < n ∧ out i' = some o ∧ (∀ j, j < i' → out j = none) ∧ iter step k (i : Int) = some o) ∨ ((∀ i, i < n → out i = none) ∧ iter step k (i : Int) = some fin) := by
  intro m
  induction m with
  | zero =>
   intro i k hm hk hj
   obtain ⟨k, rfl⟩ : ∃ k', k = k' + 1 := ⟨k - 1, by omega⟩
   obtain rfl : i = n := by omega
   exact .inr ⟨hj, by rw [iter, h2]; rfl⟩
  | succ m ih =>
   intro i k hm hk hj
   obtain ⟨k, rfl⟩ : ∃ k', k = k' + 1 := ⟨k - 1, by omega⟩
   have hs := h1 i (by omega)
   cases ho : out i with
   | some o =>
    rw [ho] at hs
    exact .inl ⟨i, o, by omega, ho, hj, by rw [iter, hs]; rfl⟩
   | none =>
    rw [ho] at hs
    have hj' : ∀ j, j < i + 1 → out j = none := fun j hji => by
     by_cases h : j < i
     ·
      exact hj j h
     ·
      obtain rfl : j = i := by omega
      exact ho
    have hit : iter step (k + 1) (i : Int) = iter step k ((i + 1 : Nat) : Int) := by rw [iter, hs]; rfl
    rw [hit]
    exact ih (i + 1) k (by omega) (by omega) hj'
 exact key n 0 big (by omega) (Ycr (by omega)) fun j hj => by omega

theorem Yct {ω : Type} {step : Int → Option (Int ⊕ ω)} {n : Nat} (ok : Nat → Bool) (bad fin : ω) (hn : n < 9223372036854775807)
  (h1 : ∀ i : Nat, i < n → step (i : Int) = some (cond (ok i) (.inl ((i + 1 : Nat) : Int)) (.inr bad))) (h2 : step (n : Int) = some (.inr fin)) :
  iter step big 0 = some (if ∀ i, i < n → ok i = true then fin else bad) := by
 rcases Ycs (fun i => cond (ok i) none (some bad)) fin hn (fun i hi => by rw [h1 i hi]; cases ok i <;> rfl) h2 with ⟨i, o, hi, ho, _, hx⟩ | ⟨h, hx⟩
 ·
  rw [hx, if_neg]
  ·
   cases hk : ok i with
   | true => simp [hk] at ho
   | false => simp [hk] at ho; rw [ho]
  ·
   intro h
   simp [h i hi] at ho
 ·
  rw [hx, if_pos]
  intro i hi
  have := h i hi
  cases hk : ok i with
  | true => rfl
  | false => simp [hk] at this

theorem Ycu {τ ω σ : Type} {step : τ → Option (τ ⊕ ω)} {n : Nat} (emb : σ → Int → τ) (I : Nat → σ → Prop) (Q : ω → Prop) (hn : n < 9223372036854775807)
  (h1 : ∀ (i : Nat) (s : σ), i < n → I i s → ∃ s', step (emb s i) = some (.inl (emb s' ((i + 1 : Nat) : Int))) ∧ I (i + 1) s') (h2 : ∀ s, I n s → ∃ o, step (emb s n) = some (.inr o) ∧ Q o)
  {s : σ} (h0 : I 0 s) : ∃ o, iter step big (emb s 0) = some o ∧ Q o := by
 refine Y51 (fun m (x : τ) => ∃ (i : Nat) (s : σ), x = emb s i ∧ i + m = n ∧ I i s) ?_ big n _ ⟨0, s, rfl, by omega, h0⟩ (Ycr (by omega))
 rintro m x ⟨i, s, rfl, hm, hi⟩
 by_cases hin : i < n
 ·
  obtain ⟨s', h3, h4⟩ := h1 i s hin hi
  exact .inr ⟨_, m - 1, h3, by omega, i + 1, s', rfl, by omega, h4⟩
 ·
  obtain rfl : i = n := by omega
  exact .inl (h2 s hi)

theorem Ycv {τ ω σ : Type} {step : τ → Option (τ ⊕ ω)} {n : Nat} (emb : σ → Int → τ) (I : Nat → σ → Prop) (Q : ω → Prop) (hn : n < 9223372036854775807)
  (h1 : ∀ (i : Nat) (s : σ), i < n → I i s → (∃ s', step (emb s i) = some (.inl (emb s' ((i + 1 : Nat) : Int))) ∧ I (i + 1) s') ∨ ∃ o, step (emb s i) = some (.inr o) ∧ Q o) (h2 : ∀ s, I n s → ∃ o, step (emb s n) = some (.inr o) ∧ Q o)
  {s : σ} (h0 : I 0 s) : ∃ o, iter step big (emb s 0) = some o ∧ Q o := by
 refine Y51 (fun m (x : τ) => ∃ (i : Nat) (s : σ), x = emb s i ∧ i + m = n ∧ I i s) ?_ big n _ ⟨0, s, rfl, by omega, h0⟩ (Ycr (by omega))
 rintro m x ⟨i, s, rfl, hm, hi⟩
 by_cases hin : i < n
 ·
  rcases h1 i s hin hi with ⟨s', h3, h4⟩ | h
  ·
   exact .inr ⟨_, m - 1, h3, by omega, i + 1, s', rfl, by omega, h4⟩
  ·
   exact .inl h
 ·
  obtain rfl : i = n := by omega
  exact .inl (h2 s hi)

theorem beqd (x y : Int) : (x == y) = decide (x = y) := by by_cases h : x = y <;> simp [h]
theorem bned (x y : Int) : (x != y) = !decide (x = y) := by by_cases h : x = y <;> simp [h]
theorem Ycw {α : Type} {l : List α} {i : Nat} (h : i < l.length) : getI l (i : Int) = some l[i] := Y50 (We h)
theorem dlt {i n : Nat} (h : i < n) : decide ((i : Int) < (n : Int)) = true := Wt (by omega)
theorem dnlt (n : Nat) : decide ((n : Int) < (n : Int)) = false := Wf (by omega)
theorem Ycx {i n : Nat} (h : i < n) (hn : n < 9223372036854775807) : IntKind.i64.wrap ((i : Int) + 1) = ((i + 1 : Nat) : Int) := by rw [Y4y (by omega) (by omega)]; omega
theorem Ycy {i : Nat} (h : 0 < i) (hn : i < 9223372036854775807) : IntKind.i64.wrap ((i : Int) - 1) = ((i - 1 : Nat) : Int) := by rw [Y4y (by omega) (by omega)]; omega

def Up (l : List Int) : Prop := ∀ (i j : Nat) (hi : i < l.length) (hj : j < l.length), i < j → l[i] < l[j]
theorem Up.of_next {l : List Int} (h : ∀ (i : Nat) (h : i + 1 < l.length), l[i] < l[i + 1]) : Up l := by
 intro i j hi hj hij
 induction j with
 | zero => omega
 | succ j ih =>
  by_cases hji : i = j
  ·
   subst hji; exact h i hj
  ·
   have := ih (by omega) (by omega)
   have := h j hj
   omega
theorem Ycz {l : List Int} : Up l ↔ l.Pairwise (· < ·) := by
 rw [List.pairwise_iff_getElem]
 exact ⟨fun h i j hi hj hij => h i j hi hj hij, fun h i j hi hj hij => h i j hi hj hij⟩


theorem Yd0 (a b c : Int) : Z1n a b c = some (decide (b ≤ a ∧ a ≤ c)) := by
 unfold Z1n Z1m
 by_cases h : a ≥ b
 ·
  simp [h]
 ·
  simp [h]
theorem Yd1 (a : Int) : Z1p a = some (decide (1 ≤ a ∧ a ≤ 1000000)) := by unfold Z1p; rw [Yd0]; rfl
theorem Yd2 (a : Int) : Z1r a = some (decide (1 ≤ a ∧ a ≤ 6)) := by unfold Z1r; rw [Yd0]; rfl
theorem Yd3 (a : Int) : Z1t a = some (decide (0 ≤ a ∧ a ≤ 1000000)) := by unfold Z1t; rw [Yd0]; rfl
theorem c_in (a b c : Int) : Z5g a b c = some (decide (b ≤ a ∧ a ≤ c)) := by
 unfold Z5g
 by_cases h : b ≤ a
 ·
  simp [h, Z5f]
 ·
  simp [h, Z5f]
theorem Yd4 (a : Int) : Z5i a = some (decide (1 ≤ a ∧ a ≤ 3)) := by unfold Z5i; rw [c_in]; rfl
theorem Yd5 (a : Int) : Z5k a = some (decide (1 ≤ a ∧ a ≤ 1000000)) := by unfold Z5k; rw [c_in]; rfl
theorem Yd6 (a : Int) : Z5m a = some (decide (1 ≤ a ∧ a ≤ 6)) := by unfold Z5m; rw [c_in]; rfl
theorem Yd7 (a : Int) : Z5o a = some (decide (0 ≤ a ∧ a ≤ 1000000)) := by unfold Z5o; rw [c_in]; rfl


def Yd8 (l : List Int) (id : Int) : Prop := l.length ≤ 4 ∧ (∀ x ∈ l, 1 ≤ x ∧ x ≤ 1000000 ∧ x ≠ id) ∧ l.Pairwise (· < ·)
instance (l : List Int) (id : Int) : Decidable (Yd8 l id) := by unfold Yd8; infer_instance

theorem Yd9 (l : List Int) (id : Int) : Z1y l id = some (decide (Yd8 l id)) := by
 unfold Z1y
 by_cases h4 : (l.length : Int) > 4
 ·
  rw [Wt h4, Wu, Wf (fun h => by have := h.1; omega)]
 rw [Wf h4, Wv]
 let ok : Nat → Bool := fun i => if h : i < l.length then decide ((1 ≤ l[i] ∧ l[i] ≤ 1000000) ∧ l[i] ≠ id ∧ (0 < i → ∀ h : i - 1 < l.length, l[i - 1] < l[i])) else true
 rw [Yct ok (.inl false) (.inr ()) (n := l.length) (by omega) ?_ (by unfold Z1x; rw [dnlt, Wv])]
 ·
  have : (∀ i, i < l.length → ok i = true) ↔ Yd8 l id := by
   constructor
   ·
    intro h
    have hx : ∀ (i : Nat) (hi : i < l.length), (1 ≤ l[i] ∧ l[i] ≤ 1000000) ∧ l[i] ≠ id ∧ (0 < i → ∀ h : i - 1 < l.length, l[i - 1] < l[i]) := fun i hi => by
     have := h i hi
     simp only [ok, hi, dif_pos, decide_eq_true_eq] at this
     exact this
    refine ⟨by omega, fun x hx' => ?_, Ycz.1 (Up.of_next fun i hi => ?_)⟩
    ·
     obtain ⟨i, hi, rfl⟩ := List.mem_iff_getElem.1 hx'
     exact ⟨(hx i hi).1.1, (hx i hi).1.2, (hx i hi).2.1⟩
    ·
     exact (hx (i + 1) hi).2.2 (by omega) (by simp; omega)
   ·
    rintro ⟨_, h1, h2⟩ i hi
    simp only [ok, hi, dif_pos, decide_eq_true_eq]
    have := h1 _ (Wm hi)
    exact ⟨⟨this.1, this.2.1⟩, this.2.2, fun h0 h => Ycz.2 h2 _ _ _ _ (by omega)⟩
  by_cases hP : Yd8 l id
  ·
   rw [if_pos (this.2 hP), Wt hP]; rfl
  ·
   rw [if_neg (fun h => hP (this.1 h)), Wf hP]; rfl
 ·
  intro i hi
  unfold Z1x
  rw [dlt hi, Wu, Ycw hi, Wb, Yd1, Wb]
  simp only [Z1w, Ycx hi (by omega : l.length < _)]
  rw [beqd]
  by_cases h1 : 1 ≤ l[i] ∧ l[i] ≤ 1000000
  ·
   by_cases h2 : l[i] = id
   ·
    simp [ok, hi, h1, h2]
   ·
    by_cases h3 : i = 0
    ·
     subst h3
     simp [ok, hi, h1, h2]
    ·
     have h0 : 0 < i := by omega
     have hm : i - 1 < l.length := by omega
     rw [show decide ((i : Int) > 0) = true from Wt (by omega), Ycy h0 (by omega), Ycw hm]
     by_cases h5 : l[i - 1] < l[i]
     ·
      simp [ok, hi, h1, h2, h0, hm, h5, show ¬ l[i] ≤ l[i - 1] from by omega]
     ·
      simp [ok, hi, h1, h2, h0, hm, h5, show l[i] ≤ l[i - 1] from by omega]
  ·
   have : ok i = false := by simp only [ok, hi, dif_pos, h1, false_and, decide_false]
   simp [this, h1]
end Go.Proofs.YtomachnjepgpbaaGreat
namespace Go.Proofs.YtomachnjepgpbaaGreat
open Go Go.Abs


section
variable {α ω τ σ : Type}

theorem Yda {l : List α} {step : Int → Option (Int ⊕ (Int ⊕ Unit))} (p : α → Bool) (hl : l.length < 9223372036854775807)
  (h1 : ∀ (i : Nat) (hi : i < l.length), step (i : Int) = some (cond (p l[i]) (.inr (.inl (i : Int))) (.inl ((i + 1 : Nat) : Int)))) (h2 : step (l.length : Int) = some (.inr (.inr ()))) :
  iter step big 0 = some (match l.findIdx? p with | some k => .inl (k : Int) | none => .inr ()) := by
 rcases Ycs (step := step) (n := l.length) (fun i => if h : i < l.length then cond (p l[i]) (some (.inl (i : Int))) none else none) (.inr ()) hl (fun i hi => by
  rw [h1 i hi]; simp only [hi, dif_pos]; cases p l[i] <;> rfl) h2 with ⟨i, o, hi, ho, hb, hx⟩ | ⟨h, hx⟩
 ·
  rw [hx]
  simp only [hi, dif_pos] at ho
  cases hp : p l[i] with
  | false => simp [hp] at ho
  | true =>
   simp [hp] at ho
   have : l.findIdx? p = some i := List.findIdx?_eq_some_iff_getElem.2 ⟨hi, hp, fun j hj => by
    have hjl : j < l.length := by omega
    have := hb j hj
    simp only [hjl, dif_pos] at this
    cases hq : p l[j] with
    | false => simp
    | true => simp [hq] at this⟩
   rw [this, ← ho]
 ·
  rw [hx]
  have : l.findIdx? p = none := by
   rw [List.findIdx?_eq_none_iff]
   intro x hxm
   obtain ⟨i, hi, rfl⟩ := List.mem_iff_getElem.1 hxm
   have := h i hi
   simp only [hi, dif_pos] at this
   cases hq : p l[i] with
   | false => rfl
   | true => simp [hq] at this
  rw [this]

theorem Ydb {l : List α} {p : α → Bool} : (∀ i, i < l.length → (if h : i < l.length then p l[i] else true) = true) ↔ l.all p = true := by
 rw [List.all_eq_true]
 constructor
 ·
  intro h x hx
  obtain ⟨i, hi, rfl⟩ := List.mem_iff_getElem.1 hx
  have := h i hi
  simpa [hi] using this
 ·
  intro h i hi
  simp only [hi, dif_pos]
  exact h _ (Wm hi)

theorem Ydc {l : List α} {step : Int → Option (Int ⊕ ω)} (p : α → Bool) (bad fin : ω) (hl : l.length < 9223372036854775807)
  (h1 : ∀ (i : Nat) (hi : i < l.length), step (i : Int) = some (cond (p l[i]) (.inl ((i + 1 : Nat) : Int)) (.inr bad))) (h2 : step (l.length : Int) = some (.inr fin)) :
  iter step big 0 = some (cond (l.all p) fin bad) := by
 rw [Yct (fun i => if h : i < l.length then p l[i] else true) bad fin hl (fun i hi => by simp only [hi, dif_pos]; exact h1 i hi) h2]
 cases hp : l.all p with
 | true => rw [if_pos (Ydb.2 hp)]; rfl
 | false => rw [if_neg (fun h => by rw [Ydb.1 h] at hp; cases hp)]; rfl

theorem Ydd {l : List α} {step : τ → Option (τ ⊕ ω)} (emb : σ → Int → τ) (fin : σ → ω) (g : σ → α → σ) (I : Nat → σ → Prop) (hl : l.length < 9223372036854775807)
  (h1 : ∀ (i : Nat) (s : σ) (hi : i < l.length), I i s → step (emb s i) = some (.inl (emb (g s l[i]) ((i + 1 : Nat) : Int))) ∧ I (i + 1) (g s l[i]))
  (h2 : ∀ s, I l.length s → step (emb s l.length) = some (.inr (fin s))) {s : σ} (h0 : I 0 s) :
  iter step big (emb s 0) = some (fin (l.foldl g s)) ∧ I l.length (l.foldl g s) := by
 have key : ∀ m i k : Nat, ∀ s, i + m = l.length → m < k → I i s → iter step k (emb s i) = some (fin ((l.drop i).foldl g s)) ∧ I l.length ((l.drop i).foldl g s) := by
  intro m
  induction m with
  | zero =>
   intro i k s hm hk hi
   obtain ⟨k, rfl⟩ : ∃ k', k = k' + 1 := ⟨k - 1, by omega⟩
   obtain rfl : i = l.length := by omega
   rw [iter, h2 s hi, List.drop_length]
   exact ⟨rfl, hi⟩
  | succ m ih =>
   intro i k s hm hk hi
   obtain ⟨k, rfl⟩ : ∃ k', k = k' + 1 := ⟨k - 1, by omega⟩
   have hil : i < l.length := by omega
   obtain ⟨e1, e2⟩ := h1 i s hil hi
   rw [iter, e1, List.drop_eq_getElem_cons hil, List.foldl_cons]
   exact ih (i + 1) k _ (by omega) (by omega) e2
 have := key l.length 0 big s (by omega) (Ycr (by omega)) h0
 simpa using this

def idxP (p : α → Bool) (l : List α) : Int := match l.findIdx? p with | some k => (k : Int) | none => -1

theorem Yde (p : α → Bool) (l : List α) : decide (idxP p l ≥ 0) = l.any p := by
 unfold idxP
 cases h : l.findIdx? p with
 | none =>
  rw [List.findIdx?_eq_none_iff] at h
  have : l.any p = false := by rw [List.any_eq_false]; intro x hx; simp [h x hx]
  rw [this]; rfl
 | some k =>
  obtain ⟨hk, hp, _⟩ := List.findIdx?_eq_some_iff_getElem.1 h
  have : l.any p = true := List.any_eq_true.2 ⟨_, Wm hk, hp⟩
  rw [this]; simp

theorem Ydf {x : Option (Int ⊕ Unit)} {f : Int ⊕ Unit → Option Int} {p : α → Bool} {l : List α} (h : x = some (match l.findIdx? p with | some k => .inl (k : Int) | none => .inr ())) (f1 : ∀ y, f (.inl y) = some y) (f2 : f (.inr ()) = some (-1)) :
  x.bind f = some (idxP p l) := by
 rw [h]; unfold idxP
 cases l.findIdx? p with
 | none => exact f2
 | some k => exact f1 _
end


theorem Ydg (l : List Int) : (∀ (i : Nat) (hi : i < l.length), 0 < i → l[i - 1] < l[i]) ↔ l.Pairwise (· < ·) := by
 rw [← Ycz]
 constructor
 ·
  exact fun h => Up.of_next fun i hi => by simpa using h (i + 1) hi (by omega)
 ·
  exact fun h i hi h0 => h _ _ _ _ (by omega)

theorem Ydh (l : List Int) (lo hi : Int) (hl : l.length < 9223372036854775807) : Z5t l lo hi = some (decide ((∀ x ∈ l, lo ≤ x ∧ x ≤ hi) ∧ l.Pairwise (· < ·))) := by
 unfold Z5t
 let ok : Nat → Bool := fun i => if h : i < l.length then decide ((lo ≤ l[i] ∧ l[i] ≤ hi) ∧ (0 < i → l[i - 1] < l[i])) else true
 rw [Yct ok (.inl false) (.inr ()) hl ?_ (by unfold Z5s; rw [dnlt, Wv])]
 ·
  have : (∀ i, i < l.length → ok i = true) ↔ ((∀ x ∈ l, lo ≤ x ∧ x ≤ hi) ∧ l.Pairwise (· < ·)) := by
   rw [← Ydg]
   constructor
   ·
    intro h
    have hx : ∀ (i : Nat) (hi' : i < l.length), (lo ≤ l[i] ∧ l[i] ≤ hi) ∧ (0 < i → l[i - 1] < l[i]) := fun i hi' => by
     have := h i hi'
     simp only [ok, hi', dif_pos, decide_eq_true_eq] at this
     exact this
    refine ⟨fun x hx' => ?_, fun i hi' => (hx i hi').2⟩
    obtain ⟨i, hi', rfl⟩ := List.mem_iff_getElem.1 hx'
    exact (hx i hi').1
   ·
    rintro ⟨h1, h2⟩ i hi'
    simp only [ok, hi', dif_pos, decide_eq_true_eq]
    exact ⟨h1 _ (Wm hi'), h2 i hi'⟩
  by_cases hP : (∀ x ∈ l, lo ≤ x ∧ x ≤ hi) ∧ l.Pairwise (· < ·)
  ·
   rw [if_pos (this.2 hP), Wt hP]; rfl
  ·
   rw [if_neg (fun h => hP (this.1 h)), Wf hP]; rfl
 ·
  intro i hi'
  unfold Z5s
  rw [dlt hi', Wu, Ycw hi', Wb, c_in, Wb]
  simp only [Z5r, Ycx hi' hl]
  by_cases h1 : lo ≤ l[i] ∧ l[i] ≤ hi
  ·
   by_cases h3 : i = 0
   ·
    subst h3
    simp [ok, hi', h1]
   ·
    have h0 : 0 < i := by omega
    have hm : i - 1 < l.length := by omega
    rw [show decide ((i : Int) > 0) = true from Wt (by omega), Ycy h0 (by omega), Ycw hm]
    by_cases h5 : l[i - 1] < l[i]
    ·
     simp [ok, hi', h1, h0, h5, show ¬ l[i] ≤ l[i - 1] from by omega]
    ·
     simp [ok, hi', h1, h0, h5, show l[i] ≤ l[i - 1] from by omega]
  ·
   have : ok i = false := by simp only [ok, hi', dif_pos, h1, false_and, decide_false]
   simp [this, h1]

theorem Ydi (l : List Int) (x : Int) (hl : l.length < 9223372036854775807) : Z5z l x = some (decide (x ∈ l)) := by
 unfold Z5z Z5x
 have := Yda (l := l) (step := Z5w l x) (fun y => x == y) hl (fun i hi => by
  unfold Z5w
  rw [dlt hi, Wu, Ycw hi, Wb, Ycx hi hl]
  cases x == l[i] <;> rfl) (by unfold Z5w; rw [dnlt, Wv])
 rw [Ydf this (fun _ => rfl) rfl, Wb, Yde]
 congr 1
 by_cases h : x ∈ l
 ·
  rw [Wt h]; exact List.any_eq_true.2 ⟨x, h, by simp⟩
 ·
  rw [Wf h]; rw [List.any_eq_false]; intro y hy; simp; rintro rfl; exact h hy

theorem Ydj (t : ByteArray) : (t.toList == ByteArray.empty.toList) = ((t.size : Int) == 0) := by
 have h : t.toList = t.data.toList := ByteArray.toList_eq t
 have h2 : ByteArray.empty.toList = [] := by rw [ByteArray.toList_eq]; rfl
 rw [h, h2, beqd]
 have h3 : t.size = t.data.toList.length := (Array.length_toList (xs := t.data)).symm
 rw [h3]
 cases t.data.toList with
 | nil => rfl
 | cons a r => simp; omega

def Ydk (e : Y9j) : Bool := (Z28 e).getD false

theorem Ydl (e : Y9j) : Z28 e = some (Ydk e) := by
 unfold Ydk
 unfold Z28 Z20 Z21 Z22 Z23 Z24 Z25 Z26 Z27
 simp only [Yd2, Yd0, Yd1, Wb, Bool.cond_eq_ite]
 repeat' split
 all_goals rfl

theorem Ydm (e : Y9j) : Z69 e = some (Ydk e) := by
 rw [← Ydl]
 unfold Z28 Z20 Z21 Z22 Z23 Z24 Z25 Z26 Z27
 unfold Z69 Z61 Z62 Z63 Z64 Z65 Z66 Z67 Z68
 simp only [Yd2, Yd0, Yd1, Yd6, c_in, Yd5, Wb, Ydj]
 have : (cond (decide ((e.text.size : Int) ≥ 1)) (some (decide ((e.text.size : Int) ≤ 30))) (some false)) = some (decide (1 ≤ (e.text.size : Int) ∧ (e.text.size : Int) ≤ 30)) := by
  by_cases h1 : (e.text.size : Int) ≥ 1
  ·
   simp [h1]
  ·
   simp [h1]
 rw [this]

def evOk (e : Y9j) : Bool := (Z2b e).getD false
structure EvOk (e : Y9j) : Prop where
 id : 1 ≤ e.id ∧ e.id ≤ 1000000
 room : 1 ≤ e.room ∧ e.room ≤ 3
 author : 1 ≤ e.author ∧ e.author ≤ 6
 time : 0 ≤ e.time ∧ e.time ≤ 1000000
 prev : Yd8 e.prev e.id
 kind : (e.kind = 1 ↔ e.prev = [])
 body : Ydk e = true

theorem len0 {α : Type} (l : List α) : decide (((l.length : Nat) : Int) = 0) = decide (l = []) := by
 cases l with
 | nil => rfl
 | cons a r => simp; omega

theorem Ydn (e : Y9j) : Z2b e = some (evOk e) ∧ (evOk e = true ↔ EvOk e) := by
 have : ∃ b, Z2b e = some b ∧ (b = true ↔ EvOk e) := by
  unfold Z2b Z2a
  simp only [Yd1, Yd0, Yd2, Yd3, Yd9, Ydl, Wb, len0, beqd]
  by_cases h1 : 1 ≤ e.id ∧ e.id ≤ 1000000
  ·
   by_cases h2 : 1 ≤ e.room ∧ e.room ≤ 3
   ·
    by_cases h3 : 1 ≤ e.author ∧ e.author ≤ 6
    ·
     by_cases h4 : 0 ≤ e.time ∧ e.time ≤ 1000000
     ·
      by_cases h5 : Yd8 e.prev e.id
      ·
       by_cases h6 : e.kind = 1 ↔ e.prev = []
       ·
        refine ⟨Ydk e, ?_, ⟨fun h => ⟨h1, h2, h3, h4, h5, h6, h⟩, fun h => h.body⟩⟩
        have : (decide (e.kind = 1) == decide (e.prev = [])) = true := by
         by_cases hk : e.kind = 1
         ·
          rw [Wt hk, Wt (h6.1 hk)]; rfl
         ·
          rw [Wf hk, Wf (fun h => hk (h6.2 h))]; rfl
        rw [Wt h1, Wt h2, Wt h3, Wt h4, Wt h5, this]
        rfl
       ·
        refine ⟨false, ?_, ⟨(fun h => nomatch h), fun h => absurd h.kind h6⟩⟩
        have : (decide (e.kind = 1) == decide (e.prev = [])) = false := by
         by_cases hk : e.kind = 1
         ·
          rw [Wt hk, Wf (fun h => h6 ⟨fun _ => h, fun _ => hk⟩)]; rfl
         ·
          by_cases hp : e.prev = []
          ·
           rw [Wf hk, Wt hp]; rfl
          ·
           exact absurd ⟨fun h => absurd h hk, fun h => absurd h hp⟩ h6
        rw [Wt h1, Wt h2, Wt h3, Wt h4, Wt h5, this]
        rfl
      ·
       exact ⟨false, by rw [Wt h1, Wt h2, Wt h3, Wt h4, Wf h5]; rfl, ⟨(fun h => nomatch h), fun h => absurd h.prev h5⟩⟩
     ·
      exact ⟨false, by rw [Wt h1, Wt h2, Wt h3, Wf h4]; rfl, ⟨(fun h => nomatch h), fun h => absurd h.time h4⟩⟩
    ·
     exact ⟨false, by rw [Wt h1, Wt h2, Wf h3]; rfl, ⟨(fun h => nomatch h), fun h => absurd h.author h3⟩⟩
   ·
    exact ⟨false, by rw [Wt h1, Wf h2]; rfl, ⟨(fun h => nomatch h), fun h => absurd h.room h2⟩⟩
  ·
   exact ⟨false, by rw [Wf h1]; rfl, ⟨(fun h => nomatch h), fun h => absurd h.id h1⟩⟩
 obtain ⟨b, h1, h2⟩ := this
 have : evOk e = b := by unfold evOk; rw [h1]; rfl
 rw [this]
 exact ⟨h1, h2⟩

theorem Ydo (e : Y9j) (hl : e.prev.length < 9223372036854775807) : Z6f e = some (evOk e) := by
 have : ∃ b, Z6f e = some b ∧ (b = true ↔ EvOk e) := by
  unfold Z6f Z6c Z6e Z6b
  simp only [Yd5, Yd4, Yd6, Yd7, Ydh _ _ _ hl, Ydi _ _ hl, Ydm, Wb, len0, beqd]
  by_cases h1 : 1 ≤ e.id ∧ e.id ≤ 1000000
  ·
   by_cases h2 : 1 ≤ e.room ∧ e.room ≤ 3
   ·
    by_cases h3 : 1 ≤ e.author ∧ e.author ≤ 6
    ·
     by_cases h4 : 0 ≤ e.time ∧ e.time ≤ 1000000
     ·
      rw [Wt h1, Wt h2, Wt h3, Wt h4]
      simp only [Wu]
      by_cases h5 : e.prev.length ≤ 4
      ·
       rw [Wt (by omega : (e.prev.length : Int) ≤ 4), Wu]
       by_cases h6 : (∀ x ∈ e.prev, 1 ≤ x ∧ x ≤ 1000000) ∧ e.prev.Pairwise (· < ·)
       ·
        rw [Wt h6, Wu]
        by_cases h7 : e.id ∈ e.prev
        ·
         rw [Wt h7]
         exact ⟨false, rfl, ⟨(fun h => nomatch h), fun h => absurd rfl (h.prev.2.1 _ h7).2.2⟩⟩
        ·
         rw [Wf h7, Wv, Wb]
         have hp : Yd8 e.prev e.id := ⟨h5, fun x hx => ⟨(h6.1 x hx).1, (h6.1 x hx).2, fun h => h7 (h ▸ hx)⟩, h6.2⟩
         cases hb : Ydk e with
         | false => exact ⟨false, rfl, ⟨(fun h => nomatch h), fun h => by rw [h.body] at hb; cases hb⟩⟩
         | true =>
          simp only [Wu]
          refine ⟨_, rfl, ?_⟩
          constructor
          ·
           intro h
           refine ⟨h1, h2, h3, h4, hp, ?_, hb⟩
           have := beq_iff_eq.1 h
           rw [decide_eq_decide] at this
           exact this
          ·
           intro h
           rw [beq_iff_eq, decide_eq_decide]
           exact h.kind
       ·
        rw [Wf h6]
        exact ⟨false, rfl, ⟨(fun h => nomatch h), fun h => absurd ⟨fun x hx => ⟨(h.prev.2.1 x hx).1, (h.prev.2.1 x hx).2.1⟩, h.prev.2.2⟩ h6⟩⟩
      ·
       rw [Wf (by omega : ¬ (e.prev.length : Int) ≤ 4)]
       exact ⟨false, rfl, ⟨(fun h => nomatch h), fun h => absurd h.prev.1 h5⟩⟩
     ·
      exact ⟨false, by rw [Wt h1, Wt h2, Wt h3, Wf h4]; rfl, ⟨(fun h => nomatch h), fun h => absurd h.time h4⟩⟩
    ·
     exact ⟨false, by rw [Wt h1, Wt h2, Wf h3]; rfl, ⟨(fun h => nomatch h), fun h => absurd h.author h3⟩⟩
   ·
    exact ⟨false, by rw [Wt h1, Wf h2]; rfl, ⟨(fun h => nomatch h), fun h => absurd h.room h2⟩⟩
  ·
   exact ⟨false, by rw [Wf h1]; rfl, ⟨(fun h => nomatch h), fun h => absurd h.id h1⟩⟩
 obtain ⟨b, h1, h2⟩ := this
 rw [h1]
 have h3 := (Ydn e).2
 congr 1
 cases b with
 | true => exact (h3.2 (h2.1 rfl)).symm
 | false =>
  cases hx : evOk e with
  | false => rfl
  | true => exact absurd (h2.2 (h3.1 hx)) (by simp)
end Go.Proofs.YtomachnjepgpbaaGreat
namespace Go.Proofs.YtomachnjepgpbaaGreat
open Go Go.Abs

abbrev Up2 (l : List Y9j) : Prop := l.Pairwise fun a b => a.id < b.id
def Row (l : List Y9j) (room : Int) : Prop := (∀ e ∈ l, evOk e = true ∧ e.room = room) ∧ Up2 l
instance (l : List Y9j) (room : Int) : Decidable (Row l room) := by unfold Row; infer_instance

theorem Ydp {l : List Y9j} : (∀ (i : Nat) (hi : i < l.length), 0 < i → l[i - 1].id < l[i].id) ↔ Up2 l := by
 have h1 := Ydg (l.map (·.id))
 have h2 : Up2 l ↔ (l.map (·.id)).Pairwise (· < ·) := by rw [List.pairwise_map]
 rw [h2, ← h1]
 simp only [List.length_map, List.getElem_map]

theorem Ydq {l : List Y9j} {room : Int} {step : Int → Option (Int ⊕ (Bool ⊕ Unit))} (hl : l.length < 9223372036854775807)
  (h1 : ∀ (i : Nat) (hi : i < l.length), step (i : Int) = some (cond (evOk l[i] && (decide (l[i].room = room) && (decide (i = 0) || decide (l[i - 1].id < l[i].id)))) (.inl ((i + 1 : Nat) : Int)) (.inr (.inl false)))) (h2 : step (l.length : Int) = some (.inr (.inr ()))) :
  iter step big 0 = some (cond (decide (Row l room)) (.inr ()) (.inl false)) := by
 rw [Yct (fun i => if h : i < l.length then (evOk l[i] && (decide (l[i].room = room) && (decide (i = 0) || decide (l[i - 1].id < l[i].id)))) else true) (.inl false) (.inr ()) hl (fun i hi => by simp only [hi, dif_pos]; exact h1 i hi) h2]
 have : (∀ i, i < l.length → (if h : i < l.length then (evOk l[i] && (decide (l[i].room = room) && (decide (i = 0) || decide (l[i - 1].id < l[i].id)))) else true) = true) ↔ Row l room := by
  unfold Row
  rw [← Ydp]
  constructor
  ·
   intro h
   have hx : ∀ (i : Nat) (hi : i < l.length), evOk l[i] = true ∧ l[i].room = room ∧ (i = 0 ∨ l[i - 1].id < l[i].id) := fun i hi => by
    have := h i hi
    simpa [hi] using this
   refine ⟨fun x hx' => ?_, fun i hi h0 => ((hx i hi).2.2).resolve_left (by omega)⟩
   obtain ⟨i, hi, rfl⟩ := List.mem_iff_getElem.1 hx'
   exact ⟨(hx i hi).1, (hx i hi).2.1⟩
  ·
   rintro ⟨h3, h4⟩ i hi
   have := h3 _ (Wm hi)
   have h5 := h4 i hi
   simp only [hi, dif_pos, this.1, this.2, decide_true, Bool.true_and, Bool.or_eq_true, decide_eq_true_eq]
   omega
 by_cases hP : Row l room
 ·
  rw [if_pos (this.2 hP), Wt hP]; rfl
 ·
  rw [if_neg (fun h => hP (this.1 h)), Wf hP]; rfl

theorem Ydr (l : List Y9j) (room most : Int) (hl : l.length < 9223372036854775807) : Z2g l room most = some (decide ((l.length : Int) ≤ most) && decide (Row l room)) := by
 unfold Z2g
 by_cases hm : (l.length : Int) ≤ most
 ·
  rw [Wf (by omega : ¬ (l.length : Int) > most), Wv, Wt hm, Bool.true_and]
  rw [Ydq (room := room) hl ?_ (by unfold Z2f; rw [dnlt, Wv])]
  ·
   cases decide (Row l room) <;> rfl
  ·
   intro i hi
   unfold Z2f
   rw [dlt hi, Wu, Ycw hi, Wb, (Ydn _).1, Wb, bned]
   simp only [Z2e, Ycx hi hl]
   cases evOk l[i] with
   | false => rfl
   | true =>
    by_cases h2 : l[i].room = room
    ·
     by_cases h3 : i = 0
     ·
      subst h3; simp [h2]
     ·
      have hm : i - 1 < l.length := by omega
      rw [show decide ((i : Int) > 0) = true from Wt (by omega), Ycy (by omega) (by omega), Ycw hm]
      by_cases h5 : l[i - 1].id < l[i].id
      ·
       simp [h2, h3, h5, show ¬ l[i].id ≤ l[i - 1].id from by omega]
      ·
       simp [h2, h3, h5, show l[i].id ≤ l[i - 1].id from by omega]
    ·
     simp [h2]
 ·
  rw [Wt (by omega : (l.length : Int) > most), Wu, Wf hm]; rfl

theorem Yds (g : Y9k) (l : List Y9j) (hl : l.length < 9223372036854775807) (hp : ∀ e ∈ l, e.prev.length < 9223372036854775807) : Z6k g l = some (decide (Row l g.room)) := by
 unfold Z6k
 rw [Ydq (room := g.room) hl ?_ (by unfold Z6j; rw [dnlt, Wv])]
 ·
  cases decide (Row l g.room) <;> rfl
 ·
  intro i hi
  unfold Z6j
  rw [dlt hi, Wu, Ycw hi, Wb, Ydo _ (hp _ (Wm hi)), Wb, bned]
  simp only [Z6i, Ycx hi hl]
  cases evOk l[i] with
  | false => rfl
  | true =>
   by_cases h2 : l[i].room = g.room
   ·
    by_cases h3 : i = 0
    ·
     subst h3; simp [h2]
    ·
     have hm : i - 1 < l.length := by omega
     rw [show decide ((i : Int) > 0) = true from Wt (by omega), Ycy (by omega) (by omega), Ycw hm]
     by_cases h5 : l[i - 1].id < l[i].id
     ·
      simp [h2, h3, h5, show ¬ l[i].id ≤ l[i - 1].id from by omega]
     ·
      simp [h2, h3, h5, show l[i].id ≤ l[i - 1].id from by omega]
   ·
    simp [h2]


def evAt (l : List Y9j) (id : Int) : Option Y9j := l.find? fun e => e.id == id
def hasE (l : List Y9j) (id : Int) : Bool := l.any fun e => e.id == id
def plc (l : List Y9j) (id : Int) : Int := idxP (fun e : Y9j => e.id == id) l
def cutE (l : List Y9j) (id : Int) : Nat := l.countP fun e => decide (e.id < id)

theorem Ydt (l : List Y9j) (id : Int) (hl : l.length < 9223372036854775807) : Zr l id = some (plc l id) := by
 unfold Zr
 exact Ydf (Yda (step := Zq l id) (fun e => e.id == id) hl (fun i hi => by
  unfold Zq
  rw [dlt hi, Wu, Ycw hi, Wb, Ycx hi hl]
  cases l[i].id == id <;> rfl) (by unfold Zq; rw [dnlt, Wv])) (fun _ => rfl) rfl

theorem Ydu (l : List Y9j) (id : Int) : decide (plc l id ≥ 0) = hasE l id := Yde _ _
theorem Ydv (l : List Y9j) (id : Int) : decide (plc l id < 0) = !hasE l id := by
 rw [← Ydu]
 by_cases h : plc l id < 0
 ·
  rw [Wt h, Wf (by omega)]; rfl
 ·
  rw [Wf h, Wt (by omega)]; rfl

theorem Ydw {l : List Y9j} {id : Int} (h : hasE l id = true) : ∃ (k : Nat) (hk : k < l.length), plc l id = k ∧ l[k].id = id ∧ evAt l id = some l[k] := by
 unfold plc idxP
 cases hf : l.findIdx? (fun e => e.id == id) with
 | none =>
  rw [List.findIdx?_eq_none_iff] at hf
  obtain ⟨e, he, h1⟩ := List.any_eq_true.1 h
  rw [hf e he] at h1; cases h1
 | some k =>
  obtain ⟨hk, hp, hn⟩ := List.findIdx?_eq_some_iff_getElem.1 hf
  refine ⟨k, hk, rfl, by simpa using hp, ?_⟩
  unfold evAt
  rw [List.find?_eq_some_iff_getElem]
  exact ⟨hp, k, hk, rfl, fun j hj => by have := hn j hj; simpa using this⟩
theorem Ydx {l : List Y9j} {id : Int} (h : hasE l id = false) : evAt l id = none := by
 unfold evAt
 rw [List.find?_eq_none]
 intro e he h1
 have := List.any_eq_false.1 h e he
 exact this h1
theorem Ydy {l : List Y9j} {e : Y9j} (h : e ∈ l) : hasE l e.id = true := List.any_eq_true.2 ⟨e, h, by simp⟩
theorem Ydz {l : List Y9j} {id : Int} : hasE l id = true ↔ ∃ e ∈ l, e.id = id := by
 unfold hasE; simp
theorem Ye0 {l : List Y9j} {id : Int} {e : Y9j} (h : evAt l id = some e) : e ∈ l ∧ e.id = id := by
 unfold evAt at h
 exact ⟨List.mem_of_find?_eq_some h, by have := List.find?_some h; simpa using this⟩
theorem Up2.inj {l : List Y9j} (h : Up2 l) {i j : Nat} (hi : i < l.length) (hj : j < l.length) (e : l[i].id = l[j].id) : i = j := by
 have := List.pairwise_iff_getElem.1 h
 rcases Nat.lt_trichotomy i j with h1 | h1 | h1
 ·
  have := this i j hi hj h1; omega
 ·
  exact h1
 ·
  have := this j i hj hi h1; omega
theorem Up2.plc {l : List Y9j} (h : Up2 l) {i : Nat} (hi : i < l.length) : plc l l[i].id = i ∧ evAt l l[i].id = some l[i] := by
 obtain ⟨k, hk, h1, h2, h3⟩ := Ydw (Ydy (Wm hi))
 obtain rfl := h.inj hk hi h2
 exact ⟨h1, h3⟩
theorem Up2.evAt_mem {l : List Y9j} (h : Up2 l) {e : Y9j} (he : e ∈ l) : evAt l e.id = some e := by
 obtain ⟨i, hi, rfl⟩ := List.mem_iff_getElem.1 he
 exact (h.plc hi).2

theorem Ye1 (l : List Y9j) (e : Y9j) (hl : l.length < 9223372036854775807) (he : e.prev.length < 9223372036854775807) : Z2k l e = some (e.prev.all fun p => hasE l p) := by
 unfold Z2k
 rw [Ydc (l := e.prev) (fun p => hasE l p) (.inl false) (.inr ()) he (fun i hi => by
  unfold Z2j
  rw [dlt hi, Wu, Ycw hi, Wb, Ydt _ _ hl, Wb, Ydv, Ycx hi he]
  cases hasE l e.prev[i] <;> rfl) (by unfold Z2j; rw [dnlt, Wv])]
 cases e.prev.all fun p => hasE l p <;> rfl


theorem Ye2 {α : Type} {p : α → Bool} : ∀ {l : List α}, l.Pairwise (fun a b => p b = true → p a = true) → ∀ (i : Nat) (hi : i < l.length), p l[i] = true ↔ i < l.countP p
 | [], _, i, hi => by simp at hi
 | a :: r, h, i, hi => by
  obtain ⟨h1, h2⟩ := List.pairwise_cons.1 h
  have ih := Ye2 h2
  by_cases ha : p a = true
  ·
   rw [List.countP_cons_of_pos ha]
   cases i with
   | zero => simp [ha]
   | succ i => simpa using ih i (by simpa using hi)
  ·
   rw [List.countP_cons_of_neg ha]
   have : r.countP p = 0 := List.countP_eq_zero.2 fun b hb hpb => ha (h1 b hb hpb)
   rw [this]
   cases i with
   | zero => simp [ha]
   | succ i =>
    have := ih i (by simpa using hi)
    simp only [List.getElem_cons_succ]
    rw [List.countP_eq_zero.2 fun b hb hpb => ha (h1 b hb hpb)] at this
    exact ⟨fun h => absurd (this.1 h) (by omega), fun h => absurd h (by omega)⟩

theorem Ye3 {i j : Nat} (h : i + j < 9223372036854775808) : IntKind.i64.wrap (shrI .u64 (IntKind.u64.wrap (IntKind.i64.wrap ((i : Int) + j))) 1) = (((i + j) / 2 : Nat) : Int) := by
 rw [Y4y (n := (i : Int) + j) (by omega) (by omega), show (i : Int) + j = ((i + j : Nat) : Int) from by omega, shr1 (by omega), Y4y (by omega) (by omega)]

theorem Ye4 {step : Int × Int → Option ((Int × Int) ⊕ Int)} {n k : Nat} (hn : n < 4611686018427387904) (hk : k ≤ n)
  (h1 : ∀ i j : Nat, i < j → j ≤ n → step ((i : Int), (j : Int)) = some (if (i + j) / 2 < k then .inl ((((i + j) / 2 + 1 : Nat) : Int), (j : Int)) else .inl ((i : Int), (((i + j) / 2 : Nat) : Int))))
  (h2 : ∀ i : Nat, i ≤ n → step ((i : Int), (i : Int)) = some (.inr (i : Int))) : iter step big (0, (n : Int)) = some (k : Int) := by
 refine Y52 (fun m (x : Int × Int) => ∃ i j : Nat, x = ((i : Int), (j : Int)) ∧ i ≤ k ∧ k ≤ j ∧ j ≤ n ∧ j - i ≤ m) ?_ (m := n) ⟨0, n, rfl, by omega, hk, by omega, by omega⟩ (Ycr (by omega))
 rintro m x ⟨i, j, rfl, hi, hj, hjn, hm⟩
 by_cases hij : i < j
 ·
  right
  rw [h1 i j hij hjn]
  by_cases hc : (i + j) / 2 < k
  ·
   rw [if_pos hc]
   exact ⟨_, j - ((i + j) / 2 + 1), rfl, by omega, _, _, rfl, by omega, hj, hjn, by omega⟩
  ·
   rw [if_neg hc]
   exact ⟨_, (i + j) / 2 - i, rfl, by omega, _, _, rfl, hi, by omega, by omega, by omega⟩
 ·
  left
  obtain rfl : i = j := by omega
  obtain rfl : i = k := by omega
  exact h2 i hjn

def cmpI (a b : Int) : Int := if a < b then -1 else if a > b then 1 else 0
theorem Ye5 (a b : Int) : Z6o a b = some (cmpI a b) := by
 unfold Z6o Z6m cmpI
 by_cases h1 : a < b
 ·
  simp [h1]
 ·
  by_cases h2 : a > b
  ·
   simp [h1, h2]
  ·
   simp [h1, h2]
theorem Ye6 (a b : Int) : decide (cmpI a b < 0) = decide (a < b) := by
 unfold cmpI; split
 ·
  simp [*]
 ·
  split <;> simp [*]
theorem Ye7 (a b : Int) : (cmpI a b == 0) = decide (a = b) := by
 rw [beqd]
 unfold cmpI
 by_cases h1 : a < b
 ·
  rw [if_pos h1, Wf (by omega), Wf (by omega)]
 ·
  rw [if_neg h1]
  by_cases h2 : a > b
  ·
   rw [if_pos h2, Wf (by omega), Wf (by omega)]
  ·
   rw [if_neg h2, Wt rfl, Wt (by omega)]

theorem Up2.cut {l : List Y9j} (h : Up2 l) (id : Int) {i : Nat} (hi : i < l.length) : l[i].id < id ↔ i < cutE l id := by
 have := Ye2 (p := fun e : Y9j => decide (e.id < id)) (l := l) (h.imp fun {a b} hab hb => by simp at hb ⊢; omega) i hi
 rw [decide_eq_true_eq] at this
 exact this
theorem Ye8 (l : List Y9j) (id : Int) : cutE l id ≤ l.length := List.countP_le_length

theorem Up2.has_cut {l : List Y9j} (h : Up2 l) (id : Int) : hasE l id = true ↔ ∃ hc : cutE l id < l.length, l[cutE l id].id = id := by
 constructor
 ·
  intro hh
  obtain ⟨k, hk, _, h2, _⟩ := Ydw hh
  have h3 := h.cut id hk
  have hc : cutE l id < l.length := by omega
  refine ⟨hc, ?_⟩
  have h4 := h.cut id hc
  rcases Nat.lt_or_ge (cutE l id) k with h5 | h5
  ·
   have := List.pairwise_iff_getElem.1 h _ _ hc hk h5
   omega
  ·
   obtain rfl : k = cutE l id := by omega
   exact h2
 ·
  rintro ⟨hc, h1⟩
  exact Ydz.2 ⟨_, Wm hc, h1⟩
theorem Up2.plc_cut {l : List Y9j} (h : Up2 l) {id : Int} (hh : hasE l id = true) : Go.Proofs.YtomachnjepgpbaaGreat.plc l id = cutE l id := by
 obtain ⟨hc, h1⟩ := (h.has_cut id).1 hh
 have := (h.plc hc).1
 rwa [h1] at this

theorem Ye9 (l : List Y9j) (id : Int) (h : Up2 l) (hl : l.length < 4611686018427387904) : Z6x l id = some ((cutE l id : Int), hasE l id) := by
 unfold Z6x Z6v
 have hc : ∀ e : Y9j, Z6q e id = some (cmpI e.id id) := fun e => by unfold Z6q; rw [Ye5]; rfl
 rw [Ye4 (n := l.length) (k := cutE l id) hl (Ye8 _ _) ?_ ?_]
 ·
  rw [Wb]
  unfold Z6t Z6s
  by_cases hk : cutE l id < l.length
  ·
   rw [dlt hk, Wu, Ycw hk, Wb, hc, Wb, Ye7, Wb]
   simp only [Option.some.injEq, Prod.mk.injEq, true_and]
   by_cases hh : hasE l id = true
   ·
    rw [hh, Wt ((h.has_cut id).1 hh).2]
   ·
    rw [Bool.eq_false_iff.2 hh, Wf (fun h1 => hh ((h.has_cut id).2 ⟨hk, h1⟩))]
  ·
   have : hasE l id = false := Bool.eq_false_iff.2 fun hh => hk ((h.has_cut id).1 hh).1
   rw [Wf (by omega), Wv, this]; rfl
 ·
  intro i j hij hj
  simp only [Z6u]
  have hm : (i + j) / 2 < l.length := by omega
  rw [dlt hij, Wu, Ye3 (by omega), Ycw hm, Wb, hc, Wb, Ye6, Ycx hm (by omega)]
  have := h.cut id hm
  by_cases hlt : l[(i + j) / 2].id < id
  ·
   rw [Wt hlt, if_pos (this.1 hlt)]; rfl
  ·
   rw [Wf hlt, if_neg (fun h1 => hlt (this.2 h1))]; rfl
 ·
  intro i hi
  simp only [Z6u]
  rw [dnlt, Wv]

def zEv : Y9j := Y9j.mk 0 0 0 0 0 0 ByteArray.empty [] 0

theorem Yea (g : Y9k) (id : Int) (h : Up2 g.events) (hl : g.events.length < 4611686018427387904) : Z6z g id = some (hasE g.events id) := by
 unfold Z6z; rw [Ye9 _ _ h hl]; rfl
theorem c_at (g : Y9k) (id : Int) (h : Up2 g.events) (hl : g.events.length < 4611686018427387904) : Z9l g id = some ((evAt g.events id).getD zEv, hasE g.events id) := by
 unfold Z9l; rw [Ye9 _ _ h hl, Wb]
 simp only
 cases hh : hasE g.events id with
 | false => rw [Ydx hh]; rfl
 | true =>
  obtain ⟨hc, h1⟩ := (h.has_cut id).1 hh
  have := (h.plc hc).2
  rw [h1] at this
  rw [this, Wu, Ycw hc]; rfl

theorem Yeb (g : Y9k) (e : Y9j) (h : Up2 g.events) (hl : g.events.length < 4611686018427387904) (he : e.prev.length < 9223372036854775807) : Z79 g e = some (e.prev.all fun p => hasE g.events p) := by
 unfold Z79 Z77 Z75
 rw [Ydf (Yda (step := Z74 e.prev g) (fun p => !hasE g.events p) he (fun i hi => by
  unfold Z74 Z71
  rw [dlt hi, Wu, Ycw hi, Wb, Yea _ _ h hl, Wb, Wb, Ycx hi he]
  cases hasE g.events e.prev[i] <;> rfl) (by unfold Z74; rw [dnlt, Wv])) (fun _ => rfl) rfl]
 simp only [Wb, Yde, Option.some.injEq]
 rw [Bool.eq_iff_iff]
 simp
end Go.Proofs.YtomachnjepgpbaaGreat
namespace Go.Proofs.YtomachnjepgpbaaGreat
open Go Go.Abs

def Whole (l : List Y9j) : Prop := ∀ e ∈ l, ∀ p ∈ e.prev, hasE l p = true
structure Fits (l : List Y9j) : Prop where
 up : Up2 l
 whole : Whole l
 len : l.length ≤ 60
 plen : ∀ e ∈ l, e.prev.length < 9223372036854775807

def dOf (l : List Y9j) (d : List Int) (p : Int) : Int := (getI d (plc l p)).getD 0
def mx2 (a b : Int) : Int := if b > a then b else a
def own (l : List Y9j) (d : List Int) (e : Y9j) : Int := if e.prev.all (fun p => decide (dOf l d p > 0)) = true then e.prev.foldl (fun m p => mx2 m (dOf l d p)) 0 + 1 else 0
def updD (l : List Y9j) (d : List Int) (i : Nat) : List Int := if d.getD i 0 > 0 then d else if own l d (l.getD i zEv) > 0 then d.set i (own l d (l.getD i zEv)) else d
def sweep (l : List Y9j) (d : List Int) : List Int := (List.range l.length).foldl (updD l) d
def Yec (l : List Y9j) : Nat → List Int → List Int
 | 0, d => d
 | k + 1, d => sweep l (Yec l k d)
def Yed (l : List Y9j) : List Int := Yec l l.length (List.replicate l.length 0)

structure Bd (l : List Y9j) (c : Nat) (d : List Int) : Prop where
 len : d.length = l.length
 in_ : ∀ x ∈ d, 0 ≤ x ∧ x ≤ c

theorem Yee {l : List Y9j} {d : List Int} (hd : d.length = l.length) {p : Int} (hp : hasE l p = true) : getI d (plc l p) = some (dOf l d p) ∧ dOf l d p ∈ d := by
 obtain ⟨k, hk, h1, _, _⟩ := Ydw hp
 unfold dOf
 rw [h1, Ycw (by omega : k < d.length)]
 exact ⟨rfl, Wm _⟩

theorem Yef (f : Int → Int) (c : Int) : ∀ (ps : List Int) (m : Int), m ≤ c → (∀ p ∈ ps, f p ≤ c) → m ≤ ps.foldl (fun m p => mx2 m (f p)) m ∧ ps.foldl (fun m p => mx2 m (f p)) m ≤ c
 | [], m, hm, _ => ⟨Int.le_refl _, hm⟩
 | p :: ps, m, hm, h => by
  have h1 := h p (by simp)
  have h2 : mx2 m (f p) ≤ c ∧ m ≤ mx2 m (f p) := by unfold mx2; split <;> omega
  have := Yef f c ps (mx2 m (f p)) h2.1 fun q hq => h q (by simp [hq])
  rw [List.foldl_cons]
  omega

theorem Yeg {l : List Y9j} {d : List Int} {c : Nat} (hb : Bd l c d) {e : Y9j} (he : ∀ p ∈ e.prev, hasE l p = true) : 0 ≤ own l d e ∧ own l d e ≤ c + 1 := by
 unfold own
 split
 ·
  have := Yef (dOf l d) c e.prev 0 (by omega) fun p hp => (hb.in_ _ (Yee hb.len (he p hp)).2).2
  omega
 ·
  omega

theorem Yeh {l : List Y9j} {d : List Int} {c i : Nat} (hw : Whole l) (hb : Bd l c d) (hi : i < l.length) : Bd l (c + 1) (updD l d i) := by
 have hge : l.getD i zEv = l[i] := by simp [hi]
 have ho := Yeg hb (hw _ (Wm hi))
 unfold updD
 rw [hge]
 split
 ·
  exact ⟨hb.len, fun x hx => by have := hb.in_ x hx; omega⟩
 ·
  split
  ·
   refine ⟨by simp [hb.len], fun x hx => ?_⟩
   rcases List.mem_or_eq_of_mem_set hx with h | h
   ·
    have := hb.in_ x h; omega
   ·
    subst h; omega
  ·
   exact ⟨hb.len, fun x hx => by have := hb.in_ x hx; omega⟩


theorem Zjq {l : List Y9j} {d : List Int} {c i : Nat} (hf : Fits l) (hb : Bd l c d) (hc : c < 1000000) (hi : i < l.length) :
  iter (fun z : Int × Bool × Int => Z2s l d i z.1 z.2.1 z.2.2) big (0, true, 0) = some (l[i].prev.foldl (fun m p => mx2 m (dOf l d p)) 0, l[i].prev.all fun p => decide (dOf l d p > 0)) := by
 have hw := hf.whole _ (Wm hi)
 have hp := hf.plen _ (Wm hi)
 have := (Ydd (l := l[i].prev) (step := fun z : Int × Bool × Int => Z2s l d i z.1 z.2.1 z.2.2) (fun (s : Int × Bool) (j : Int) => (s.1, s.2, j)) (fun s => s)
  (fun s p => (mx2 s.1 (dOf l d p), s.2 && decide (dOf l d p > 0))) (fun _ _ => True) hp (fun j s hj _ => by
   refine ⟨?_, trivial⟩
   simp only [Z2s]
   rw [Ycw hi, Wb, dlt hj, Wu, Ycw hj, Wb, Ydt _ _ (by have := hf.len; omega), Wb, (Yee hb.len (hw _ (Wm hj))).1, Wb]
   obtain ⟨m, ok⟩ := s
   simp only [Z2r, Z2q, Ycx hj hp, mx2]
   cases ok with
   | true => by_cases h1 : dOf l d l[i].prev[j] > m <;> simp [h1]
   | false => by_cases h1 : dOf l d l[i].prev[j] > m <;> simp [h1])
  (fun s _ => by
   simp only [Z2s]
   rw [Ycw hi, Wb, dnlt, Wv]) (s := (0, true)) trivial).1
 simp only at this
 rw [this]
 congr 1
 generalize l[i].prev = ps
 suffices h : ∀ (ps : List Int) (m : Int) (b : Bool), ps.foldl (fun (s : Int × Bool) p => (mx2 s.1 (dOf l d p), s.2 && decide (dOf l d p > 0))) (m, b) = (ps.foldl (fun m p => mx2 m (dOf l d p)) m, b && ps.all fun p => decide (dOf l d p > 0)) by simpa using h ps 0 true
 intro ps
 induction ps with
 | nil => intro m b; simp
 | cons p ps ih => intro m b; simp only [List.foldl_cons, List.all_cons, ih, Bool.and_assoc]

theorem Zjr {l : List Y9j} {d : List Int} {c : Nat} (hf : Fits l) (hb : Bd l c d) (hc : c < 900000) : iter (fun z : List Int × Int => Z2t l z.1 z.2) big (d, 0) = some (sweep l d) ∧ Bd l (c + l.length) (sweep l d) := by
 have hl := hf.len
 have := Ydd (l := List.range l.length) (step := fun z : List Int × Int => Z2t l z.1 z.2) (fun s j => (s, j)) (fun s => s) (updD l) (fun i d => Bd l (c + i) d) (by simp; omega) (fun i s hi hI => by
  simp only [List.length_range] at hi
  simp only [List.getElem_range]
  refine ⟨?_, by have := Yeh hf.whole hI hi; exact this⟩
  simp only [Z2t]
  have his : i < s.length := by rw [hI.len]; exact hi
  rw [dlt hi, Wu, Ycw his, Wb]
  simp only [Z2o, Ycx hi (by omega)]
  unfold updD
  have e1 : s.getD i 0 = s[i] := by simp [his]
  have e2 : l.getD i zEv = l[i] := by simp [hi]
  rw [e1, e2]
  by_cases h1 : s[i] > 0
  ·
   rw [Wt h1, if_pos h1]; rfl
  ·
   rw [Wf h1, if_neg h1, Wv, Zjq hf hI (by omega) hi, Wb]
   have ho := Yeg hI (hf.whole _ (Wm hi))
   simp only [Z2p, Z2o, Ycx hi (by omega : l.length < 9223372036854775807)]
   have hm := Yef (dOf l s) (c + i : Nat) l[i].prev 0 (by omega) fun p hp => (hI.in_ _ (Yee hI.len (hf.whole _ (Wm hi) p hp)).2).2
   by_cases h2 : (l[i].prev.all fun p => decide (dOf l s p > 0)) = true
   ·
    have e3 : own l s l[i] = l[i].prev.foldl (fun m p => mx2 m (dOf l s p)) 0 + 1 := by unfold own; rw [if_pos h2]
    rw [h2, Wu, if_pos (by omega), e3, Y4y (by omega) (by omega)]
    simp
   ·
    have e3 : own l s l[i] = 0 := by unfold own; rw [if_neg h2]
    rw [Bool.eq_false_iff.2 h2, Wv, if_neg (by omega)])
  (fun s _ => by
   simp only [List.length_range, Z2t]
   rw [dnlt, Wv]) (s := d) (by simpa using hb)
 simp only [List.length_range] at this
 exact this

theorem Yei {σ : Type} (f : σ → σ) (l : List Y9j) : ∀ (r : List Y9j) (k : Nat) (s : σ) (F : Nat → σ), (∀ k, F (k + 1) = f (F k)) → s = F k → r.foldl (fun s _ => f s) s = F (k + r.length)
 | [], k, s, F, _, hs => by simpa using hs
 | _ :: r, k, s, F, h, hs => by
  rw [List.foldl_cons, Yei f l r (k + 1) (f s) F h (by rw [h, hs])]
  congr 1
  simp; omega

theorem Yej {l : List Y9j} (hf : Fits l) : Z2v l = some (Yed l) ∧ Bd l (l.length * l.length) (Yed l) := by
 have hl := hf.len
 unfold Z2v
 rw [Y4z (Wt ⟨by omega, by omega⟩), Wb, Int.toNat_natCast]
 have hz : Bd l 0 (List.replicate l.length 0) := ⟨by simp, fun x hx => by rw [List.eq_of_mem_replicate hx]; simp⟩
 have := Ydd (l := l) (step := fun z : List Int × Int => Z2u l z.1 z.2) (fun s j => (s, j)) (fun s => s) (fun d _ => sweep l d) (fun i d => Bd l (i * l.length) d) (by omega) (fun i s hi hI => by
  have hm : i * l.length ≤ 60 * 60 := Nat.mul_le_mul (by omega) hl
  obtain ⟨h1, h2⟩ := Zjr hf hI (by omega)
  refine ⟨?_, by rw [Nat.add_mul, Nat.one_mul]; exact h2⟩
  simp only [Z2u]
  rw [dlt hi, Wu, h1, Wb]
  simp only [Z2n, Ycx hi (by omega : l.length < 9223372036854775807)])
  (fun s _ => by simp only [Z2u]; rw [dnlt, Wv]) (s := List.replicate l.length 0) (by simpa using hz)
 have e : l.foldl (fun d _ => sweep l d) (List.replicate l.length 0) = Yed l := by
  have := Yei (sweep l) l l 0 (List.replicate l.length 0) (fun k => Yec l k (List.replicate l.length 0)) (fun k => rfl) rfl
  rw [this, Nat.zero_add]; rfl
 rw [e] at this
 rw [this.1]
 exact ⟨rfl, this.2⟩


def Yek (d : List Int) : Nat := d.countP fun x => decide (x = 0)

theorem Yel {l : List Y9j} {d : List Int} {c i : Nat} (hb : Bd l c d) (hi : i < l.length) : updD l d i = d ∨ (d.getD i 0 = 0 ∧ own l d (l.getD i zEv) > 0 ∧ updD l d i = d.set i (own l d (l.getD i zEv)) ∧ Yek (updD l d i) + 1 = Yek d) := by
 have hid : i < d.length := by rw [hb.len]; exact hi
 have e1 : d.getD i 0 = d[i] := by simp [hid]
 unfold updD
 rw [e1]
 split
 ·
  exact .inl rfl
 ·
  split
  ·
   rename_i h1 h2
   have h0 : d[i] = 0 := by have := hb.in_ _ (Wm hid); omega
   refine .inr ⟨h0, h2, rfl, ?_⟩
   unfold Yek
   rw [List.countP_set hid]
   have : 0 < d.countP (fun x => decide (x = 0)) := List.countP_pos_iff.2 ⟨_, Wm hid, by simp [h0]⟩
   rw [if_pos (by simp [h0]), if_neg (by simp only [decide_eq_true_eq]; omega)]
   omega
  ·
   exact .inl rfl

theorem Yem {l : List Y9j} {d : List Int} (hd : ∀ x ∈ d, 0 ≤ x) {c : Int} : ∀ (ps : List Int) (m : Int), (∀ p ∈ ps, dOf l d p ∈ d) →
  (if ps.all (fun p => decide (dOf l d p > 0)) = true then ps.foldl (fun m p => mx2 m (dOf l d p)) m + 1 else 0) = c →
  match ps with
  | [] => m + 1 = c
  | p :: r => if dOf l d p = 0 then c = 0 else (if r.all (fun p => decide (dOf l d p > 0)) = true then r.foldl (fun m p => mx2 m (dOf l d p)) (mx2 m (dOf l d p)) + 1 else 0) = c
 | [], m, _, h => by simpa using h
 | p :: r, m, hp, h => by
  have := hd _ (hp p (by simp))
  by_cases h0 : dOf l d p = 0
  ·
   simp [h0] at h ⊢; exact h.symm
  ·
   have : dOf l d p > 0 := by omega
   simpa [h0, this] using h

theorem Zjs {g : Y9k} {d : List Int} {c : Nat} (hf : Fits g.events) (hb : Bd g.events c d) (hc : c < 1000000) {e : Y9j} (he : e ∈ g.events) :
  iter (fun z : Int × Int => Z7e g d e z.1 z.2) big (1, 0) = some (own g.events d e) := by
 have hw := hf.whole _ he
 have hp := hf.plen _ he
 have hmem : ∀ p ∈ e.prev, dOf g.events d p ∈ d := fun p hp => (Yee hb.len (hw p hp)).2
 have := Ycv (τ := Int × Int) (ω := Int) (σ := Int) (step := fun z : Int × Int => Z7e g d e z.1 z.2) (n := e.prev.length) (fun s j => (s, j))
  (fun i s => 1 ≤ s ∧ s ≤ c + 1 ∧ (if (e.prev.drop i).all (fun p => decide (dOf g.events d p > 0)) = true then (e.prev.drop i).foldl (fun m p => mx2 m (dOf g.events d p)) (s - 1) + 1 else 0) = own g.events d e)
  (fun o => o = own g.events d e) hp (fun i s hi ⟨hs1, hs2, hI⟩ => by
   simp only [Z7e]
   have hm : e.prev[i] ∈ e.prev := Wm hi
   have hh := hw _ hm
   rw [dlt hi, Wu, Ycw hi, Wb, Ye9 _ _ hf.up (by have := hf.len; omega), Wb]
   simp only
   rw [← hf.up.plc_cut hh, (Yee hb.len hh).1, Wb, beqd, Ycx hi hp]
   have hx := hb.in_ _ (hmem _ hm)
   rw [Y4y (n := dOf g.events d e.prev[i] + 1) (by omega) (by omega)]
   rw [List.drop_eq_getElem_cons hi] at hI
   have hr := Yem (fun x hx => (hb.in_ x hx).1) _ _ (fun p hp' => hmem p (by
    rcases List.mem_cons.1 hp' with rfl | h
    ·
     exact hm
    ·
     exact List.mem_of_mem_drop h)) hI
   simp only at hr
   by_cases h0 : dOf g.events d e.prev[i] = 0
   ·
    rw [Wt h0]
    rw [if_pos h0] at hr
    exact .inr ⟨0, rfl, hr.symm⟩
   ·
    rw [Wf h0]
    rw [if_neg h0] at hr
    refine .inl ⟨_, rfl, ?_, ?_, ?_⟩
    ·
     split <;> omega
    ·
     split <;> omega
    ·
     rw [show (if dOf g.events d e.prev[i] + 1 > s then dOf g.events d e.prev[i] + 1 else s) - 1 = mx2 (s - 1) (dOf g.events d e.prev[i]) by unfold mx2; split <;> split <;> omega]
     exact hr)
  (fun s ⟨_, _, hI⟩ => by
   simp only [Z7e]
   rw [dnlt, Wv]
   refine ⟨s, rfl, ?_⟩
   rw [List.drop_length] at hI
   simp at hI
   omega) (s := 1) ⟨by omega, by omega, by unfold own; simp⟩
 obtain ⟨o, h1, rfl⟩ := this
 exact h1

theorem Zjt {g : Y9k} {d : List Int} {c : Nat} (hf : Fits g.events) (hb : Bd g.events c d) (hc : c < 900000) :
  iter (fun z : List Int × Int × Bool × Int => Z7f g z.1 z.2.1 z.2.2.1 z.2.2.2) big (d, (Yek d : Int), false, 0) = some (sweep g.events d, (Yek (sweep g.events d) : Int), decide (Yek (sweep g.events d) < Yek d)) ∧ Yek (sweep g.events d) ≤ Yek d ∧ (Yek (sweep g.events d) = Yek d → sweep g.events d = d) := by
 have hl := hf.len
 have hz : ∀ d : List Int, d.length = g.events.length → Yek d ≤ 60 := fun d hd => by have : Yek d ≤ d.length := List.countP_le_length; omega
 have := Ydd (l := List.range g.events.length) (step := fun z : List Int × Int × Bool × Int => Z7f g z.1 z.2.1 z.2.2.1 z.2.2.2) (fun (s : List Int × Int × Bool) j => (s.1, s.2.1, s.2.2, j)) (fun s => s) (fun s i => (updD g.events s.1 i, (Yek (updD g.events s.1 i) : Int), decide (Yek (updD g.events s.1 i) < Yek d)))
  (fun i s => Bd g.events (c + i) s.1 ∧ s.2.1 = (Yek s.1 : Int) ∧ s.2.2 = decide (Yek s.1 < Yek d) ∧ Yek s.1 ≤ Yek d ∧ (Yek s.1 = Yek d → s.1 = d)) (by simp; omega) (fun i s hi hall => by
  obtain ⟨s, lf, ch⟩ := s
  obtain ⟨hI, hs1, hs2, hs3, hs4⟩ := hall
  simp only at hI hs1 hs3 hs4
  replace hs2 : ch = decide (Yek s < Yek d) := hs2
  subst hs1 hs2
  simp only [List.length_range] at hi
  simp only [List.getElem_range]
  have hu := Yeh hf.whole hI hi
  have hcs := Yel hI hi
  refine ⟨?_, hu, trivial, trivial, ?_, ?_⟩
  ·
   simp only [Z7f]
   have his : i < s.length := by rw [hI.len]; exact hi
   rw [dlt hi, Wu, Ycw hi, Wb, Ycw his, Wb]
   have e1 : s.getD i 0 = s[i] := by simp [his]
   have e2 : g.events.getD i zEv = g.events[i] := by simp [hi]
   rw [e1, e2] at hcs
   have hzs := hz s hI.len
   simp only [Z7c, Z7d, Ycx hi (by omega : g.events.length < 9223372036854775807), Zjs hf hI (by omega) (Wm hi), Wb]
   by_cases h1 : s[i] > 0
   ·
    have e3 : updD g.events s i = s := by unfold updD; rw [e1, if_pos h1]
    rw [e3, Wt h1]; rfl
   ·
    rw [Wf h1, Wv]
    by_cases h2 : own g.events s g.events[i] > 0
    ·
     have e3 : updD g.events s i = s.set i (own g.events s g.events[i]) := by unfold updD; rw [e1, e2, if_neg h1, if_pos h2]
     rw [Wt h2, Wu, Int.toNat_natCast, ← e3]
     have h0 : s[i] = 0 := by have := hI.in_ _ (Wm his); omega
     rcases hcs with h | ⟨_, _, _, h⟩
     ·
      exfalso
      rw [e3] at h
      have h5 : s[i]? = some s[i] := We his
      have : (s.set i (own g.events s g.events[i]))[i]? = s[i]? := by rw [h]
      rw [List.getElem?_set_self his, h5] at this
      simp only [Option.some.injEq] at this
      omega
     ·
      rw [Y4y (by omega) (by omega), Wt (by omega : Yek (updD g.events s i) < Yek d)]
      rw [show (Yek s : Int) - 1 = (Yek (updD g.events s i) : Int) by omega]
    ·
     have e3 : updD g.events s i = s := by unfold updD; rw [e1, e2, if_neg h1, if_neg h2]
     rw [Wf h2, Wv, e3]
  ·
   rcases hcs with h | ⟨_, _, _, h⟩
   ·
    rw [h]; exact hs3
   ·
    omega
  ·
   rcases hcs with h | ⟨_, _, _, h⟩
   ·
    rw [h]; exact hs4
   ·
    intro h'; omega)
  (fun s _ => by
   simp only [List.length_range, Z7f]
   rw [dnlt, Wv]) (s := (d, (Yek d : Int), false)) ⟨by simpa using hb, rfl, by simp, Nat.le_refl _, fun _ => rfl⟩
 have hfold : ∀ (r : List Nat) (s : List Int × Int × Bool), (r.foldl (fun s i => (updD g.events s.1 i, (Yek (updD g.events s.1 i) : Int), decide (Yek (updD g.events s.1 i) < Yek d))) s).1 = r.foldl (updD g.events) s.1 := by
  intro r
  induction r with
  | nil => intro s; rfl
  | cons i r ih => intro s; rw [List.foldl_cons, List.foldl_cons, ih]
 obtain ⟨h1, h2⟩ := this
 generalize hq : (List.range g.events.length).foldl (fun s i => (updD g.events s.1 i, (Yek (updD g.events s.1 i) : Int), decide (Yek (updD g.events s.1 i) < Yek d))) (d, (Yek d : Int), false) = q at h1 h2
 have h3 : q.1 = sweep g.events d := by rw [← hq, hfold]; rfl
 obtain ⟨q1, q2, q3⟩ := q
 simp only at h2 h3 h1
 subst h3
 obtain ⟨_, h4, h5, h6, h7⟩ := h2
 replace h5 : q3 = decide (Yek (sweep g.events d) < Yek d) := h5
 subst h4 h5
 exact ⟨h1, h6, h7⟩

theorem Yen {l : List Y9j} {d : List Int} (hd : d.length = l.length) (h : Yek d = 0) (hn : ∀ x ∈ d, 0 ≤ x) : sweep l d = d := by
 have : ∀ i, i < l.length → updD l d i = d := fun i hi => by
  have hid : i < d.length := by omega
  have e1 : d.getD i 0 = d[i] := by simp [hid]
  have h0 : d[i] ≠ 0 := fun h0 => by
   have := List.countP_eq_zero.1 h d[i] (Wm hid)
   simp [h0] at this
  have := hn _ (Wm hid)
  unfold updD; rw [e1, if_pos (by omega)]
 unfold sweep
 suffices h : ∀ r : List Nat, (∀ i ∈ r, i < l.length) → r.foldl (updD l) d = d from h _ fun i hi => by simpa using hi
 intro r
 induction r with
 | nil => intro _; rfl
 | cons i r ih => intro hr; rw [List.foldl_cons, this i (hr i (by simp))]; exact ih fun j hj => hr j (by simp [hj])

theorem Yeo {l : List Y9j} {d : List Int} {k : Nat} (h : sweep l (Yec l k d) = Yec l k d) : ∀ m, k ≤ m → Yec l m d = Yec l k d
 | 0, hm => by
  obtain rfl : k = 0 := by omega
  rfl
 | m + 1, hm => by
  by_cases hk : k = m + 1
  ·
   subst hk; rfl
  ·
   rw [Yec, Yeo h m (by omega), h]

theorem Yep {l : List Y9j} (hf : Fits l) {d : List Int} (hd : Bd l 0 d) : ∀ k, k ≤ l.length → Bd l (k * l.length) (Yec l k d)
 | 0, _ => by rw [Nat.zero_mul]; exact hd
 | k + 1, hk => by
  have h1 := Yep hf hd k (by omega)
  have hl := hf.len
  have hm : k * l.length ≤ 60 * 60 := Nat.mul_le_mul (by omega) hl
  have h2 := (Zjr hf h1 (by omega)).2
  rw [Nat.add_mul, Nat.one_mul]
  exact h2

theorem Yeq {g : Y9k} (hf : Fits g.events) : Z7i g = some (Yed g.events, decide (Yek (Yed g.events) = 0)) := by
 have hl := hf.len
 unfold Z7i
 rw [Y4z (Wt ⟨by omega, by omega⟩), Wb, Int.toNat_natCast]
 have hz : Bd g.events 0 (List.replicate g.events.length 0) := ⟨by simp, fun x hx => by rw [List.eq_of_mem_replicate hx]; simp⟩
 generalize hd0 : List.replicate g.events.length (0 : Int) = d0 at hz
 have hz0 : Yek d0 = g.events.length := by rw [← hd0]; unfold Yek; rw [List.countP_replicate]; simp
 have := Y51 (step := fun z : List Int × Int × Bool => Z7h g z.1 z.2.1 z.2.2) (p := fun o : List Int × Int => o = (Yed g.events, (Yek (Yed g.events) : Int)))
  (fun m (x : List Int × Int × Bool) => ∃ k, k ≤ g.events.length ∧ x.1 = Yec g.events k d0 ∧ x.2.1 = (Yek x.1 : Int) ∧ ((x.2.2 = true ∧ k + Yek x.1 ≤ g.events.length ∧ m = Yek x.1 + 1) ∨ (x.2.2 = false ∧ sweep g.events x.1 = x.1 ∧ m = 0))) (by
  rintro m ⟨d, lf, ch⟩ ⟨k, hk, h1, h2, h3⟩
  simp only at h1 h2 h3
  have hb := Yep hf hz k hk
  rw [← h1] at hb
  have hm : k * g.events.length ≤ 60 * 60 := Nat.mul_le_mul (by omega) hl
  have hfin : sweep g.events d = d → Yed g.events = d := fun h => by
   unfold Yed
   rw [hd0, Yeo (k := k) (by rw [← h1]; exact h) _ hk, h1]
  simp only [Z7h, Z7g]
  rcases h3 with ⟨rfl, h4, rfl⟩ | ⟨rfl, h4, rfl⟩
  ·
   rw [Wu, h2]
   by_cases hp : (Yek d : Int) > 0
   ·
    rw [Wt hp, Wu]
    obtain ⟨e1, e2, e3⟩ := Zjt hf hb (by omega)
    rw [e1, Wb]
    right
    by_cases hlt : Yek (sweep g.events d) < Yek d
    ·
     refine ⟨_, Yek (sweep g.events d) + 1, rfl, by omega, k + 1, by omega, ?_, rfl, .inl ⟨Wt hlt, ?_, rfl⟩⟩
     ·
      simp only [Yec]; rw [h1]
     ·
      simp only; omega
    ·
     have e4 := e3 (by omega)
     refine ⟨_, 0, rfl, by omega, k, hk, by simp only; rw [e4, h1], rfl, .inr ⟨Wf hlt, by simp only; rw [e4, e4], rfl⟩⟩
   ·
    rw [Wf hp, Wv]
    left
    have h0 : Yek d = 0 := by omega
    rw [hfin (Yen hb.len h0 fun x hx => (hb.in_ x hx).1)]
    exact ⟨_, rfl, rfl⟩
  ·
   left
   rw [Wv, Wv, h2, hfin h4]
   exact ⟨_, rfl, rfl⟩) big (g.events.length + 1) (d0, (g.events.length : Int), true) ⟨0, by omega, rfl, by simp only; rw [hz0], .inl ⟨rfl, by simp only; omega, by simp only; omega⟩⟩ (Ycr (by omega))
 obtain ⟨o, ho, rfl⟩ := this
 rw [ho, Wb]
 simp only [Z7b, beqd]
 congr 2
 by_cases h : Yek (Yed g.events) = 0
 ·
  rw [Wt h, Wt (by omega)]
 ·
  rw [Wf h, Wf (by omega)]
end Go.Proofs.YtomachnjepgpbaaGreat
namespace Go.Proofs.YtomachnjepgpbaaGreat
open Go Go.Abs


section
variable {α : Type}

theorem Yer {l X Y : List α} {u : α} {n : Nat} (h : l = X ++ u :: Y) (hn : n = X.length) : getI l (n : Int) = some u := by
 subst h hn
 exact Y50 (by simp)
theorem Yes {l X Y : List α} {u v : α} {n : Nat} (h : l = X ++ u :: Y) (hn : n = X.length) : l.set n v = X ++ v :: Y := by
 subst h hn
 simp

theorem Yet {step : Int × Int → Option ((Int × Int) ⊕ Int)} {lo hi k : Nat} (hn : hi < 4611686018427387904) (hlo : lo ≤ k) (hk : k ≤ hi)
  (h1 : ∀ i j : Nat, lo ≤ i → i < j → j ≤ hi → step ((i : Int), (j : Int)) = some (if (i + j) / 2 < k then .inl ((((i + j) / 2 + 1 : Nat) : Int), (j : Int)) else .inl ((i : Int), (((i + j) / 2 : Nat) : Int))))
  (h2 : ∀ i : Nat, i ≤ hi → step ((i : Int), (i : Int)) = some (.inr (i : Int))) : iter step big ((lo : Int), (hi : Int)) = some (k : Int) := by
 refine Y52 (fun m (x : Int × Int) => ∃ i j : Nat, x = ((i : Int), (j : Int)) ∧ lo ≤ i ∧ i ≤ k ∧ k ≤ j ∧ j ≤ hi ∧ j - i ≤ m) ?_ (m := hi) ⟨lo, hi, rfl, by omega, hlo, hk, by omega, by omega⟩ (Ycr (by omega))
 rintro m x ⟨i, j, rfl, hl, hi, hj, hjn, hm⟩
 by_cases hij : i < j
 ·
  right
  rw [h1 i j hl hij hjn]
  by_cases hc : (i + j) / 2 < k
  ·
   rw [if_pos hc]
   exact ⟨_, j - ((i + j) / 2 + 1), rfl, by omega, _, _, rfl, by omega, by omega, hj, hjn, by omega⟩
  ·
   rw [if_neg hc]
   exact ⟨_, (i + j) / 2 - i, rfl, by omega, _, _, rfl, hl, hi, by omega, by omega, by omega⟩
 ·
  left
  obtain rfl : i = j := by omega
  obtain rfl : i = k := by omega
  exact h2 i hjn

theorem Yeu {R : α → α → Prop} {l r : List α} : (l ++ r).Pairwise R ↔ l.Pairwise R ∧ r.Pairwise R ∧ ∀ a ∈ l, ∀ b ∈ r, R a b := List.pairwise_append
end


def dd (d : List Int) (x : Int) : Int := d.getD x.toNat 0
def Lt2 (d : List Int) (x y : Int) : Prop := dd d x < dd d y ∨ dd d x = dd d y ∧ x < y
def InR (d : List Int) (x : Int) : Prop := 0 ≤ x ∧ x < d.length

theorem Yev {d : List Int} {x : Int} (h : InR d x) : getI d x = some (dd d x) := by
 obtain ⟨h0, h1⟩ := h
 have hlt : x.toNat < d.length := by omega
 unfold getI dd
 rw [if_pos h0, We hlt]
 simp [hlt]
theorem Yew {d : List Int} {x y : Int} (hx : InR d x) (hy : InR d y) : Z84 x y d = some (cmpI (dd d x) (dd d y)) := by
 unfold Z84
 rw [Yev hx, Wb, Yev hy, Wb, Ye5]; rfl

theorem Yex (d : List Int) (P U M V S : List Int) (hUV : U.length = V.length) (hb : P.length + U.length + M.length + V.length + S.length < 1000000) :
  Z8d (P ++ U ++ M ++ V ++ S) (P.length : Int) ((P.length + U.length + M.length : Nat) : Int) (U.length : Int) d = some (P ++ V ++ M ++ U ++ S) := by
 unfold Z8d
 obtain ⟨o, h1, rfl⟩ := Ycu (τ := List Int × Int) (ω := List Int) (σ := List Int) (step := fun z : List Int × Int => Z8c (P.length : Int) ((P.length + U.length + M.length : Nat) : Int) (U.length : Int) z.1 z.2) (n := U.length) (fun s j => (s, j))
  (fun i s => ∃ U1 U2 V1 V2, U = U1 ++ U2 ∧ V = V1 ++ V2 ∧ U1.length = i ∧ V1.length = i ∧ s = P ++ V1 ++ U2 ++ M ++ U1 ++ V2 ++ S) (fun o => o = P ++ V ++ M ++ U ++ S) (by omega) (by
  rintro i s hi ⟨U1, U2, V1, V2, hU, hV, hU1, hV1, rfl⟩
  cases U2 with
  | nil => rw [hU] at hi; simp at hi; omega
  | cons u U2 =>
   cases V2 with
   | nil => rw [hUV, hV] at hi; simp at hi; omega
   | cons v V2 =>
    have hlU : U.length = U1.length + (U2.length + 1) := by rw [hU]; simp
    have hlV : V.length = V1.length + (V2.length + 1) := by rw [hV]; simp
    simp only [Z8c]
    rw [dlt hi, Wu, Y4y (n := ((P.length + U.length + M.length : Nat) : Int) + (i : Int)) (by omega) (by omega), Y4y (n := (P.length : Int) + (i : Int)) (by omega) (by omega), Ycx hi (by omega)]
    rw [show ((P.length + U.length + M.length : Nat) : Int) + (i : Int) = ((P.length + U.length + M.length + i : Nat) : Int) from by omega, show (P.length : Int) + (i : Int) = ((P.length + i : Nat) : Int) from by omega, Int.toNat_natCast, Int.toNat_natCast]
    rw [Yer (X := P ++ V1 ++ (u :: U2) ++ M ++ U1) (u := v) (Y := V2 ++ S) (by simp) (by simp; omega), Wb]
    rw [Yer (X := P ++ V1) (u := u) (Y := U2 ++ M ++ U1 ++ (v :: V2) ++ S) (by simp) (by simp; omega), Wb]
    rw [Yes (X := P ++ V1) (u := u) (Y := U2 ++ M ++ U1 ++ (v :: V2) ++ S) (by simp) (by simp; omega)]
    rw [Yer (X := P ++ V1 ++ (v :: U2) ++ M ++ U1) (u := v) (Y := V2 ++ S) (by simp) (by simp; omega), Wb]
    rw [Yes (X := P ++ V1 ++ (v :: U2) ++ M ++ U1) (u := v) (Y := V2 ++ S) (by simp) (by simp; omega)]
    exact ⟨_, rfl, U1 ++ [u], U2, V1 ++ [v], V2, by simp [hU], by simp [hV], by simp [hU1], by simp [hV1], by simp⟩) (by
  rintro s ⟨U1, U2, V1, V2, hU, hV, hU1, hV1, rfl⟩
  have h2 : U2 = [] := by
   have := congrArg List.length hU
   rw [List.length_append] at this
   exact List.eq_nil_of_length_eq_zero (by omega)
  have h3 : V2 = [] := by
   have := congrArg List.length hV
   rw [List.length_append] at this
   exact List.eq_nil_of_length_eq_zero (by omega)
  subst h2 h3
  simp only [Z8c]
  rw [dnlt, Wv]
  exact ⟨_, rfl, by simp [hU, hV]⟩) (s := P ++ U ++ M ++ V ++ S) ⟨[], U, [], V, rfl, rfl, rfl, rfl, by simp⟩
 rw [show ((P ++ U ++ M ++ V ++ S, (0 : Int)) : List Int × Int) = (P ++ U ++ M ++ V ++ S, ((0 : Nat) : Int)) from rfl]
 rw [show (((0 : Nat) : Int)) = 0 from rfl, h1]
 rfl

theorem Yey (d : List Int) (P X Y S : List Int) (hX : X ≠ []) (hY : Y ≠ []) (hb : P.length + X.length + Y.length + S.length < 1000000) :
  Z8h (P ++ X ++ Y ++ S) (P.length : Int) ((P.length + X.length : Nat) : Int) ((P.length + X.length + Y.length : Nat) : Int) d = some (P ++ Y ++ X ++ S) := by
 unfold Z8h
 rw [Y4y (n := ((P.length + X.length : Nat) : Int) - (P.length : Int)) (by omega) (by omega), Y4y (n := ((P.length + X.length + Y.length : Nat) : Int) - ((P.length + X.length : Nat) : Int)) (by omega) (by omega)]
 rw [show ((P.length + X.length : Nat) : Int) - (P.length : Int) = (X.length : Int) from by omega, show ((P.length + X.length + Y.length : Nat) : Int) - ((P.length + X.length : Nat) : Int) = (Y.length : Int) from by omega]
 generalize hT : P ++ Y ++ X ++ S = T
 generalize hm : P.length + X.length = m
 have := Y51 (step := fun z : List Int × Int × Int => Z8g (m : Int) d z.1 z.2.1 z.2.2)
  (p := fun o : List Int × Int => Z8f (m : Int) d o.1 o.2 = some T)
  (fun k (x : List Int × Int × Int) => ∃ P' X' Y' S', x = (P' ++ X' ++ Y' ++ S', (X'.length : Int), (Y'.length : Int)) ∧ P'.length + X'.length = m ∧ P' ++ Y' ++ X' ++ S' = T ∧ X' ≠ [] ∧ Y' ≠ [] ∧ P'.length + X'.length + Y'.length + S'.length < 1000000 ∧ k = X'.length + Y'.length) (by
  rintro k x ⟨P', X', Y', S', rfl, hm', hT', hX', hY', hb', rfl⟩
  have hx0 : 0 < X'.length := List.length_pos_iff.2 hX'
  have hy0 : 0 < Y'.length := List.length_pos_iff.2 hY'
  simp only [Z8g, bned]
  by_cases he : X'.length = Y'.length
  ·
   left
   rw [Wt (by omega : (X'.length : Int) = (Y'.length : Int))]
   refine ⟨_, rfl, ?_⟩
   simp only [Z8f]
   rw [Y4y (by omega) (by omega), show (m : Int) - (X'.length : Int) = (P'.length : Int) from by omega]
   have := Yex d P' X' [] Y' S' he (by simp only [List.length_nil]; omega)
   simp only [List.append_nil, List.length_nil, Nat.add_zero] at this
   rw [hm'] at this
   rw [this]
   exact congrArg some hT'
  ·
   right
   rw [Wf (by omega : ¬ (X'.length : Int) = (Y'.length : Int))]
   simp only [Bool.not_false, Wu]
   by_cases hlt : X'.length > Y'.length
   ·
    rw [Wt (by omega : (X'.length : Int) > (Y'.length : Int)), Wu]
    have hs : X' = X'.take Y'.length ++ X'.drop Y'.length := (List.take_append_drop _ _).symm
    generalize hA : X'.take Y'.length = A at hs
    generalize hB : X'.drop Y'.length = B at hs
    have hAl : A.length = Y'.length := by rw [← hA]; simp; omega
    have hBl : B.length = X'.length - Y'.length := by rw [← hB]; simp
    rw [Y4y (n := (m : Int) - (X'.length : Int)) (by omega) (by omega), show (m : Int) - (X'.length : Int) = (P'.length : Int) from by omega]
    have := Yex d P' A B Y' S' hAl (by omega)
    rw [show P' ++ A ++ B ++ Y' ++ S' = P' ++ X' ++ Y' ++ S' by rw [hs]; simp, show P'.length + A.length + B.length = m by omega, hAl] at this
    rw [this, Wb, Y4y (by omega) (by omega)]
    refine ⟨_, B.length + A.length, rfl, by omega, P' ++ Y', B, A, S', ?_, by simp; omega, by rw [← hT', hs]; simp, List.length_pos_iff.1 (by omega), List.length_pos_iff.1 (by omega), by simp; omega, rfl⟩
    simp only [Prod.mk.injEq, true_and]
    exact ⟨by omega, by omega⟩
   ·
    rw [Wf (by omega : ¬ (X'.length : Int) > (Y'.length : Int)), Wv]
    have hs : Y' = Y'.take (Y'.length - X'.length) ++ Y'.drop (Y'.length - X'.length) := (List.take_append_drop _ _).symm
    generalize hA : Y'.take (Y'.length - X'.length) = A at hs
    generalize hB : Y'.drop (Y'.length - X'.length) = B at hs
    have hAl : A.length = Y'.length - X'.length := by rw [← hA]; simp
    have hBl : X'.length = B.length := by rw [← hB]; simp; omega
    rw [Y4y (n := (m : Int) - (X'.length : Int)) (by omega) (by omega), show (m : Int) - (X'.length : Int) = (P'.length : Int) from by omega]
    rw [Y4y (n := (m : Int) + (Y'.length : Int)) (by omega) (by omega), Y4y (n := (m : Int) + (Y'.length : Int) - (X'.length : Int)) (by omega) (by omega)]
    have := Yex d P' X' A B S' hBl (by omega)
    rw [show P' ++ X' ++ A ++ B ++ S' = P' ++ X' ++ Y' ++ S' by rw [hs]; simp, show ((P'.length + X'.length + A.length : Nat) : Int) = (m : Int) + (Y'.length : Int) - (X'.length : Int) by omega] at this
    rw [this, Wb, Y4y (by omega) (by omega)]
    refine ⟨_, B.length + A.length, rfl, by omega, P', B, A, X' ++ S', ?_, by omega, by rw [← hT', hs]; simp, List.length_pos_iff.1 (by omega), List.length_pos_iff.1 (by omega), by simp; omega, rfl⟩
    simp only [Prod.mk.injEq]
    exact ⟨by simp, by omega, by omega⟩) big (X.length + Y.length) (P ++ X ++ Y ++ S, (X.length : Int), (Y.length : Int)) ⟨P, X, Y, S, rfl, hm, hT, hX, hY, hb, rfl⟩ (Ycr (by omega))
 obtain ⟨o, h1, h2⟩ := this
 rw [h1, Wb]
 exact h2
end Go.Proofs.YtomachnjepgpbaaGreat
namespace Go.Proofs.YtomachnjepgpbaaGreat
open Go Go.Abs

abbrev Srt2 (d l : List Int) : Prop := l.Pairwise (Lt2 d)
theorem Lt2.trans {d : List Int} {x y z : Int} (h1 : Lt2 d x y) (h2 : Lt2 d y z) : Lt2 d x z := by unfold Lt2 at *; omega
theorem Lt2.le {d : List Int} {x y : Int} (h : Lt2 d x y) : dd d x ≤ dd d y := by unfold Lt2 at h; omega

theorem Yez {l P A S : List Int} {c : Nat} (h : l = P ++ A ++ S) (h1 : P.length ≤ c) (h2 : c - P.length < A.length) : getI l (c : Int) = some A[c - P.length] := by
 subst h
 apply Y50
 rw [List.append_assoc, List.getElem?_append_right h1, List.getElem?_append_left h2, We h2]

theorem Yf0 {d : List Int} {A : List Int} (h : Srt2 d A) (p : Int → Bool) (hp : ∀ x y, dd d x ≤ dd d y → p y = true → p x = true) (i : Nat) (hi : i < A.length) : p A[i] = true ↔ i < A.countP p :=
 Ye2 (h.imp fun {a b} hab hb => hp a b hab.le hb) i hi

theorem Yf1 {α : Type} {l : List α} {k : Nat} {x : α} (h : x ∈ l.take k) : ∃ (i : Nat) (hi : i < l.length), i < k ∧ l[i] = x := by
 obtain ⟨i, hi, rfl⟩ := List.mem_iff_getElem.1 h
 simp at hi
 exact ⟨i, by omega, by omega, by simp⟩
theorem Yf2 {α : Type} {l : List α} {k : Nat} {x : α} (h : x ∈ l.drop k) : ∃ (i : Nat) (hi : i < l.length), k ≤ i ∧ l[i] = x := by
 obtain ⟨i, hi, rfl⟩ := List.mem_iff_getElem.1 h
 simp at hi
 exact ⟨k + i, by omega, by omega, by simp⟩

theorem Yf3 {d : List Int} {x : Int} {B : List Int} (h : Srt2 d B) (hx : ∀ y ∈ B, x < y) : Srt2 d (B.take (B.countP fun y => decide (dd d y < dd d x)) ++ x :: B.drop (B.countP fun y => decide (dd d y < dd d x))) := by
 have hc := Yf0 h (fun y => decide (dd d y < dd d x)) (fun a b hab hb => by simp at hb ⊢; omega)
 have hs := List.take_append_drop (B.countP fun y => decide (dd d y < dd d x)) B
 rw [← hs] at h
 obtain ⟨h1, h2, h3⟩ := Yeu.1 h
 refine Yeu.2 ⟨h1, List.pairwise_cons.2 ⟨fun y hy => ?_, h2⟩, fun a ha b hb => ?_⟩
 ·
  obtain ⟨i, hi, hk, rfl⟩ := Yf2 hy
  have := hc i hi
  have h5 : ¬ dd d B[i] < dd d x := fun h5 => by have := this.1 (Wt h5); omega
  have := hx _ (Wm hi)
  unfold Lt2; omega
 ·
  rcases List.mem_cons.1 hb with rfl | hb
  ·
   obtain ⟨i, hi, hk, rfl⟩ := Yf1 ha
   have := Wo ((hc i hi).2 hk)
   unfold Lt2; omega
  ·
   exact h3 a ha b hb
theorem Yf4 {d : List Int} {x : Int} {A : List Int} (h : Srt2 d A) (hx : ∀ y ∈ A, y < x) : Srt2 d (A.take (A.countP fun y => decide (dd d y ≤ dd d x)) ++ x :: A.drop (A.countP fun y => decide (dd d y ≤ dd d x))) := by
 have hc := Yf0 h (fun y => decide (dd d y ≤ dd d x)) (fun a b hab hb => by simp at hb ⊢; omega)
 have hs := List.take_append_drop (A.countP fun y => decide (dd d y ≤ dd d x)) A
 rw [← hs] at h
 obtain ⟨h1, h2, h3⟩ := Yeu.1 h
 refine Yeu.2 ⟨h1, List.pairwise_cons.2 ⟨fun y hy => ?_, h2⟩, fun a ha b hb => ?_⟩
 ·
  obtain ⟨i, hi, hk, rfl⟩ := Yf2 hy
  have := hc i hi
  have h5 : ¬ dd d A[i] ≤ dd d x := fun h5 => by have := this.1 (Wt h5); omega
  unfold Lt2; omega
 ·
  rcases List.mem_cons.1 hb with rfl | hb
  ·
   obtain ⟨i, hi, hk, rfl⟩ := Yf1 ha
   have := Wo ((hc i hi).2 hk)
   have := hx _ (Wm hi)
   unfold Lt2; omega
  ·
   exact h3 a ha b hb

theorem Yf5 (d P B S : List Int) (x : Int) (hr : ∀ y ∈ x :: B, InR d y) (hB : Srt2 d B) (hb : P.length + B.length + S.length < 100000) :
  (iter (fun z : Int × Int => Z8m (P ++ [x] ++ B ++ S) (P.length : Int) d z.1 z.2) big (((P.length + 1 : Nat) : Int), ((P.length + 1 + B.length : Nat) : Int))).bind
   (fun y => Z8l (P ++ [x] ++ B ++ S) (P.length : Int) y) = some (P ++ (B.take (B.countP fun y => decide (dd d y < dd d x)) ++ x :: B.drop (B.countP fun y => decide (dd d y < dd d x))) ++ S) := by
 generalize hk : B.countP (fun y => decide (dd d y < dd d x)) = k
 have hkB : k ≤ B.length := by rw [← hk]; exact List.countP_le_length
 have hc := Yf0 hB (fun y => decide (dd d y < dd d x)) (fun a b hab hb => by simp at hb ⊢; omega)
 rw [hk] at hc
 rw [Yet (lo := P.length + 1) (hi := P.length + 1 + B.length) (k := P.length + 1 + k) (by omega) (by omega) (by omega) ?_ ?_]
 ·
  rw [Wb]
  simp only [Z8l]
  obtain ⟨o, h1, rfl⟩ := Y51 (step := fun z : List Int × Int => Z8k ((P.length + 1 + k : Nat) : Int) z.1 z.2) (p := fun o => o = P ++ (B.take k ++ x :: B.drop k) ++ S)
   (fun m (z : List Int × Int) => ∃ i : Nat, i ≤ k ∧ z = (P ++ (B.take i ++ x :: B.drop i) ++ S, ((P.length + i : Nat) : Int)) ∧ m = k - i) (by
   rintro m z ⟨i, hi, rfl, rfl⟩
   simp only [Z8k]
   rw [Y4y (n := ((P.length + 1 + k : Nat) : Int) - 1) (by omega) (by omega)]
   by_cases hik : i < k
   ·
    right
    have hiB : i < B.length := by omega
    have e0 : B.drop i = B[i] :: B.drop (i + 1) := List.drop_eq_getElem_cons hiB
    have e1 : B.take (i + 1) = B.take i ++ [B[i]] := by rw [List.take_add_one, We hiB]; rfl
    generalize B[i] = u at e0 e1
    generalize hr1 : B.drop (i + 1) = R at e0
    generalize hr2 : B.take i = T at e1
    have hl : T.length = i := by rw [← hr2]; simp; omega
    rw [Wt (by omega), Wu, Y4y (n := ((P.length + i : Nat) : Int) + 1) (by omega) (by omega), show ((P.length + i : Nat) : Int) + 1 = ((P.length + i + 1 : Nat) : Int) from by omega, Int.toNat_natCast, Int.toNat_natCast, e0]
    rw [Yer (X := P ++ T ++ [x]) (u := u) (Y := R ++ S) (by simp) (by simp; omega), Wb]
    rw [Yer (X := P ++ T) (u := x) (Y := u :: R ++ S) (by simp) (by simp; omega), Wb]
    rw [Yes (X := P ++ T) (u := x) (Y := u :: R ++ S) (by simp) (by simp; omega)]
    rw [Yer (X := P ++ T ++ [u]) (u := u) (Y := R ++ S) (by simp) (by simp; omega), Wb]
    rw [Yes (X := P ++ T ++ [u]) (u := u) (Y := R ++ S) (by simp) (by simp; omega)]
    refine ⟨_, k - (i + 1), rfl, by omega, i + 1, by omega, ?_, rfl⟩
    rw [e1, hr1]
    simp only [Prod.mk.injEq]
    exact ⟨by simp, by omega⟩
   ·
    left
    obtain rfl : i = k := by omega
    rw [Wf (by omega), Wv]
    exact ⟨_, rfl, rfl⟩) big k (P ++ [x] ++ B ++ S, (P.length : Int)) ⟨0, by omega, by simp, rfl⟩ (Ycr (by omega))
  rw [h1]; rfl
 ·
  intro i j hl hij hj
  simp only [Z8m]
  have hm1 : P.length + 1 ≤ (i + j) / 2 := by omega
  have hm2 : (i + j) / 2 - (P ++ [x]).length < B.length := by simp; omega
  rw [dlt hij, Wu, Ye3 (by omega), Yez (P := P ++ [x]) (A := B) (S := S) (c := (i + j) / 2) (by simp) (by simp; omega) hm2, Wb]
  rw [Yer (X := P) (u := x) (Y := B ++ S) (by simp) rfl, Wb, Yew (hr _ (List.mem_cons_of_mem _ (Wm _))) (hr _ (by simp)), Wb, Ye6]
  have := hc _ hm2
  simp only [List.length_append, List.length_singleton] at this hm2 ⊢
  rw [Y4y (n := (((i + j) / 2 : Nat) : Int) + 1) (by omega) (by omega), show (((i + j) / 2 : Nat) : Int) + 1 = (((i + j) / 2 + 1 : Nat) : Int) from by omega]
  by_cases hlt : dd d B[(i + j) / 2 - (P.length + 1)] < dd d x
  ·
   have h5 := this.1 (Wt hlt)
   rw [Wt hlt, if_pos (by omega)]; rfl
  ·
   have h5 : ¬ (i + j) / 2 - (P.length + 1) < k := fun h5 => hlt (Wo (this.2 h5))
   rw [Wf hlt, if_neg (by omega)]; rfl
 ·
  intro i hi
  simp only [Z8m]
  rw [dnlt, Wv]

theorem Yf6 (d P A S : List Int) (x : Int) (hr : ∀ y ∈ x :: A, InR d y) (hA : Srt2 d A) (hb : P.length + A.length + S.length < 100000) :
  (iter (fun z : Int × Int => Z8q (P ++ A ++ [x] ++ S) ((P.length + A.length : Nat) : Int) d z.1 z.2) big ((P.length : Int), ((P.length + A.length : Nat) : Int))).bind
   (fun y => Z8p (P ++ A ++ [x] ++ S) ((P.length + A.length : Nat) : Int) y) = some (P ++ (A.take (A.countP fun y => decide (dd d y ≤ dd d x)) ++ x :: A.drop (A.countP fun y => decide (dd d y ≤ dd d x))) ++ S) := by
 generalize hk : A.countP (fun y => decide (dd d y ≤ dd d x)) = k
 have hkA : k ≤ A.length := by rw [← hk]; exact List.countP_le_length
 have hc := Yf0 hA (fun y => decide (dd d y ≤ dd d x)) (fun a b hab hb => by simp at hb ⊢; omega)
 rw [hk] at hc
 rw [Yet (lo := P.length) (hi := P.length + A.length) (k := P.length + k) (by omega) (by omega) (by omega) ?_ ?_]
 ·
  rw [Wb]
  simp only [Z8p]
  obtain ⟨o, h1, rfl⟩ := Y51 (step := fun z : List Int × Int => Z8o ((P.length + k : Nat) : Int) z.1 z.2) (p := fun o => o = P ++ (A.take k ++ x :: A.drop k) ++ S)
   (fun m (z : List Int × Int) => ∃ i : Nat, k ≤ i ∧ i ≤ A.length ∧ z = (P ++ (A.take i ++ x :: A.drop i) ++ S, ((P.length + i : Nat) : Int)) ∧ m = i - k) (by
   rintro m z ⟨i, hi, hiA, rfl, rfl⟩
   simp only [Z8o]
   by_cases hik : k < i
   ·
    right
    obtain ⟨i, rfl⟩ : ∃ i', i = i' + 1 := ⟨i - 1, by omega⟩
    have hiB : i < A.length := by omega
    have e0 : A.drop i = A[i] :: A.drop (i + 1) := List.drop_eq_getElem_cons hiB
    have e1 : A.take (i + 1) = A.take i ++ [A[i]] := by rw [List.take_add_one, We hiB]; rfl
    generalize A[i] = u at e0 e1
    generalize hr1 : A.drop (i + 1) = R at e0
    generalize hr2 : A.take i = T at e1
    have hl : T.length = i := by rw [← hr2]; simp; omega
    rw [Wt (by omega), Wu, Y4y (n := ((P.length + (i + 1) : Nat) : Int) - 1) (by omega) (by omega), show ((P.length + (i + 1) : Nat) : Int) - 1 = ((P.length + i : Nat) : Int) from by omega, Int.toNat_natCast, Int.toNat_natCast]
    rw [e1]
    rw [Yer (X := P ++ T) (u := u) (Y := x :: R ++ S) (by simp) (by simp; omega), Wb]
    rw [Yer (X := P ++ T ++ [u]) (u := x) (Y := R ++ S) (by simp) (by simp; omega), Wb]
    rw [Yes (X := P ++ T ++ [u]) (u := x) (Y := R ++ S) (by simp) (by simp; omega)]
    rw [Yer (X := P ++ T) (u := u) (Y := u :: R ++ S) (by simp) (by simp; omega), Wb]
    rw [Yes (X := P ++ T) (u := u) (Y := u :: R ++ S) (by simp) (by simp; omega)]
    refine ⟨_, i - k, rfl, by omega, i, by omega, by omega, ?_, rfl⟩
    rw [e0, hr2]
    simp only [Prod.mk.injEq, and_true]
    simp
   ·
    left
    obtain rfl : i = k := by omega
    rw [Wf (by omega), Wv]
    exact ⟨_, rfl, rfl⟩) big (A.length - k) (P ++ A ++ [x] ++ S, ((P.length + A.length : Nat) : Int)) ⟨A.length, hkA, by omega, by simp, by omega⟩ (Ycr (by omega))
  rw [h1]; rfl
 ·
  intro i j hl hij hj
  simp only [Z8q]
  have hm2 : (i + j) / 2 - P.length < A.length := by omega
  rw [dlt hij, Wu, Ye3 (by omega), Yer (X := P ++ A) (u := x) (Y := S) (by simp) (by simp), Wb]
  rw [Yez (P := P) (A := A) (S := [x] ++ S) (c := (i + j) / 2) (by simp) (by omega) hm2, Wb]
  rw [Yew (hr _ (by simp)) (hr _ (List.mem_cons_of_mem _ (Wm _))), Wb, Ye6]
  have := hc _ hm2
  rw [Y4y (n := (((i + j) / 2 : Nat) : Int) + 1) (by omega) (by omega), show (((i + j) / 2 : Nat) : Int) + 1 = (((i + j) / 2 + 1 : Nat) : Int) from by omega]
  by_cases hlt : dd d x < dd d A[(i + j) / 2 - P.length]
  ·
   have h5 : ¬ (i + j) / 2 - P.length < k := fun h5 => by have := Wo (this.2 h5); omega
   rw [Wt hlt, if_neg (by omega)]; rfl
  ·
   have h5 := this.1 (Wt (by omega))
   rw [Wf hlt, if_pos (by omega)]; rfl
 ·
  intro i hi
  simp only [Z8q]
  rw [dnlt, Wv]
end Go.Proofs.YtomachnjepgpbaaGreat
namespace Go.Proofs.YtomachnjepgpbaaGreat
open Go Go.Abs

theorem Yf7 (pr : Nat → Prop) (lo : Nat) : ∀ n : Nat, (∀ c c', lo ≤ c → c ≤ c' → c' < lo + n → pr c' → pr c) → ∃ k, lo ≤ k ∧ k ≤ lo + n ∧ ∀ c, lo ≤ c → c < lo + n → (pr c ↔ c < k)
 | 0, _ => ⟨lo, by omega, by omega, fun c h1 h2 => by omega⟩
 | n + 1, h => by
  by_cases hp : pr (lo + n)
  ·
   exact ⟨lo + n + 1, by omega, by omega, fun c h1 h2 => ⟨fun _ => by omega, fun _ => h c (lo + n) h1 (by omega) (by omega) hp⟩⟩
  ·
   obtain ⟨k, h1, h2, h3⟩ := Yf7 pr lo n fun c c' a b e => h c c' a b (by omega)
   refine ⟨k, h1, by omega, fun c h4 h5 => ?_⟩
   by_cases hc : c = lo + n
   ·
    subst hc
    exact ⟨fun h6 => absurd h6 hp, fun h6 => by omega⟩
   ·
    exact h3 c h4 (by omega)

def Yf8 (d : List Int) (self : List Int → Int → Int → Int → List Int → Option (List Int)) (n : Nat) : Prop :=
 ∀ P A B S : List Int, A ≠ [] → B ≠ [] → A.length + B.length < n → P.length + A.length + B.length + S.length < 100000 → (∀ y ∈ A ++ B, InR d y) → Srt2 d A → Srt2 d B → (∀ x ∈ A, ∀ y ∈ B, x < y) →
  ∃ C, self (P ++ A ++ B ++ S) (P.length : Int) ((P.length + A.length : Nat) : Int) ((P.length + A.length + B.length : Nat) : Int) d = some (P ++ C ++ S) ∧ C.Perm (A ++ B) ∧ Srt2 d C

theorem Yf8.opt {d : List Int} {self : List Int → Int → Int → Int → List Int → Option (List Int)} {n : Nat} (h : Yf8 d self n) (P A B S : List Int) (hn : A ≠ [] → B ≠ [] → A.length + B.length < n) (hb : P.length + A.length + B.length + S.length < 100000) (hr : ∀ y ∈ A ++ B, InR d y)
  (hA : Srt2 d A) (hB : Srt2 d B) (hx : ∀ x ∈ A, ∀ y ∈ B, x < y) :
  ∃ C, (if A ≠ [] ∧ B ≠ [] then self (P ++ A ++ B ++ S) (P.length : Int) ((P.length + A.length : Nat) : Int) ((P.length + A.length + B.length : Nat) : Int) d else some (P ++ A ++ B ++ S)) = some (P ++ C ++ S) ∧ C.Perm (A ++ B) ∧ Srt2 d C := by
 by_cases h1 : A = []
 ·
  subst h1
  exact ⟨B, by simp, by simp, hB⟩
 ·
  by_cases h2 : B = []
  ·
   subst h2
   exact ⟨A, by simp, by simp, hA⟩
  ·
   rw [if_pos ⟨h1, h2⟩]
   exact h P A B S h1 h2 (hn h1 h2) hb hr hA hB hx

theorem Yf9 {α : Type} {l : List α} : 0 < l.length ↔ l ≠ [] := List.length_pos_iff

theorem Yfa {d : List Int} {self : List Int → Int → Int → Int → List Int → Option (List Int)} {n : Nat} (hself : Yf8 d self n) (P A1 A2 B1 B2 S : List Int) (p2 : Int)
  (hmid : (P.length + (P.length + A1.length + A2.length + B1.length + B2.length)) / 2 = P.length + A1.length + B1.length) (hp2 : p2 = ((P.length + A1.length + A2.length : Nat) : Int))
  (hn1 : A1 ≠ [] → B1 ≠ [] → A1.length + B1.length < n) (hn2 : A2 ≠ [] → B2 ≠ [] → A2.length + B2.length < n) (hb : P.length + A1.length + A2.length + B1.length + B2.length + S.length < 100000)
  (hr : ∀ y ∈ A1 ++ A2 ++ (B1 ++ B2), InR d y) (hA : Srt2 d (A1 ++ A2)) (hB : Srt2 d (B1 ++ B2)) (hx : ∀ x ∈ A1 ++ A2, ∀ y ∈ B1 ++ B2, x < y) (h12 : ∀ x ∈ A1, ∀ y ∈ B2, Lt2 d x y) (h21 : ∀ x ∈ B1, ∀ y ∈ A2, Lt2 d x y) :
  ∃ C, Z8u (P.length : Int) p2 ((P.length + A1.length + A2.length + B1.length + B2.length : Nat) : Int) d self ((P.length + A1.length : Nat) : Int) (P ++ A1 ++ B1 ++ A2 ++ B2 ++ S) = some (P ++ C ++ S) ∧ C.Perm (A1 ++ A2 ++ (B1 ++ B2)) ∧ Srt2 d C := by
 obtain ⟨a1, a2, a3⟩ := Yeu.1 hA
 obtain ⟨b1, b2, b3⟩ := Yeu.1 hB
 obtain ⟨C1, c1, c2, c3⟩ := hself.opt P A1 B1 (A2 ++ B2 ++ S) hn1 (by simp; omega) (fun y hy => hr y (by simp at hy ⊢; rcases hy with h | h <;> simp [h])) a1 b1 fun x hx' y hy => hx x (by simp [hx']) y (by simp [hy])
 have hC1 : C1.length = A1.length + B1.length := by rw [c2.length_eq]; simp
 obtain ⟨C2, e1, e2, e3⟩ := hself.opt (P ++ C1) A2 B2 S hn2 (by simp; omega) (fun y hy => hr y (by simp at hy ⊢; rcases hy with h | h <;> simp [h])) a2 b2 fun x hx' y hy => hx x (by simp [hx']) y (by simp [hy])
 refine ⟨C1 ++ C2, ?_, ?_, ?_⟩
 ·
  simp only [Z8u, Z8t, Z8s, Z8r]
  rw [Ye3 (by omega), hmid, hp2]
  rw [Y4y (n := ((P.length + A1.length + B1.length : Nat) : Int) + ((P.length + A1.length + A2.length : Nat) : Int)) (by omega) (by omega), Y4y (n := ((P.length + A1.length + B1.length : Nat) : Int) + ((P.length + A1.length + A2.length : Nat) : Int) - ((P.length + A1.length : Nat) : Int)) (by omega) (by omega)]
  rw [show ((P.length + A1.length + B1.length : Nat) : Int) + ((P.length + A1.length + A2.length : Nat) : Int) - ((P.length + A1.length : Nat) : Int) = (((P ++ C1).length + A2.length : Nat) : Int) by simp; omega]
  have hfirst : ∀ (F : List Int → Option (List Int)), cond (decide ((P.length : Int) < ((P.length + A1.length : Nat) : Int))) (cond (decide (((P.length + A1.length : Nat) : Int) < ((P.length + A1.length + B1.length : Nat) : Int))) ((self (P ++ A1 ++ B1 ++ A2 ++ B2 ++ S) (P.length : Int) ((P.length + A1.length : Nat) : Int) ((P.length + A1.length + B1.length : Nat) : Int) d).bind F) (F (P ++ A1 ++ B1 ++ A2 ++ B2 ++ S))) (F (P ++ A1 ++ B1 ++ A2 ++ B2 ++ S)) = F (P ++ C1 ++ A2 ++ B2 ++ S) := fun F => by
   by_cases h1 : A1 = []
   ·
    rw [if_neg (fun h => h.1 h1)] at c1
    have hq := Wj c1
    rw [Wf (by subst h1; simp), Wv]
    congr 1
    simpa using hq
   ·
    have p1 := Yf9.2 h1
    rw [Wt (by omega), Wu]
    by_cases h2 : B1 = []
    ·
     rw [if_neg (fun h => h.2 h2)] at c1
     have hq := Wj c1
     rw [Wf (by subst h2; simp), Wv]
     congr 1
     simpa using hq
    ·
     have p2 := Yf9.2 h2
     rw [Wt (by omega), Wu]
     rw [if_pos ⟨h1, h2⟩] at c1
     rw [show P ++ A1 ++ B1 ++ A2 ++ B2 ++ S = P ++ A1 ++ B1 ++ (A2 ++ B2 ++ S) by simp, c1, Wb]
     congr 1; simp
  have hsecond : cond (decide (((P.length + A1.length + B1.length : Nat) : Int) < (((P ++ C1).length + A2.length : Nat) : Int))) (cond (decide ((((P ++ C1).length + A2.length : Nat) : Int) < ((P.length + A1.length + A2.length + B1.length + B2.length : Nat) : Int))) ((self (P ++ C1 ++ A2 ++ B2 ++ S) ((P.length + A1.length + B1.length : Nat) : Int) (((P ++ C1).length + A2.length : Nat) : Int) ((P.length + A1.length + A2.length + B1.length + B2.length : Nat) : Int) d).bind fun r176 => some r176) (some (P ++ C1 ++ A2 ++ B2 ++ S))) (some (P ++ C1 ++ A2 ++ B2 ++ S)) = some (P ++ (C1 ++ C2) ++ S) := by
   have hl : (P ++ C1).length = P.length + A1.length + B1.length := by simp; omega
   by_cases h1 : A2 = []
   ·
    rw [if_neg (fun h => h.1 h1)] at e1
    rw [Wf (by subst h1; simp; omega), Wv]
    rw [e1]; simp
   ·
    have p1 := Yf9.2 h1
    rw [Wt (by omega), Wu]
    by_cases h2 : B2 = []
    ·
     rw [if_neg (fun h => h.2 h2)] at e1
     rw [Wf (by subst h2; simp; omega), Wv]
     rw [e1]; simp
    ·
     have p2 := Yf9.2 h2
     rw [Wt (by omega), Wu]
     rw [if_pos ⟨h1, h2⟩, hl] at e1
     rw [hl, show P.length + A1.length + A2.length + B1.length + B2.length = P.length + A1.length + B1.length + A2.length + B2.length by omega, e1]
     simp
  have hf := hfirst fun l172 => cond (decide (((P.length + A1.length + B1.length : Nat) : Int) < (((P ++ C1).length + A2.length : Nat) : Int))) (cond (decide ((((P ++ C1).length + A2.length : Nat) : Int) < ((P.length + A1.length + A2.length + B1.length + B2.length : Nat) : Int))) ((self l172 ((P.length + A1.length + B1.length : Nat) : Int) (((P ++ C1).length + A2.length : Nat) : Int) ((P.length + A1.length + A2.length + B1.length + B2.length : Nat) : Int) d).bind fun r176 => some r176) (some l172)) (some l172)
  have hcc : ∀ (b1 b2 : Bool) (x y : Option (List Int)), cond b1 (cond b2 x y) (cond false x y) = cond b1 (cond b2 x y) y := fun b1 b2 x y => by cases b1 <;> rfl
  simp only [Wv]
  rw [hf]
  exact hsecond
 ·
  refine (c2.append e2).trans ?_
  have : (A1 ++ B1 ++ (A2 ++ B2)).Perm (A1 ++ A2 ++ (B1 ++ B2)) := by
   rw [List.append_assoc, List.append_assoc]
   refine List.Perm.append_left A1 ?_
   rw [← List.append_assoc, ← List.append_assoc]
   exact List.Perm.append_right B2 List.perm_append_comm
  exact this
 ·
  refine Yeu.2 ⟨c3, e3, fun x hx' y hy => ?_⟩
  have h1 := c2.mem_iff.1 hx'
  have h2 := e2.mem_iff.1 hy
  rcases List.mem_append.1 h1 with h1 | h1
  ·
   rcases List.mem_append.1 h2 with h2 | h2
   ·
    exact a3 x h1 y h2
   ·
    exact h12 x h1 y h2
  ·
   rcases List.mem_append.1 h2 with h2 | h2
   ·
    exact h21 x h1 y h2
   ·
    exact b3 x h1 y h2

theorem Yfb {d l : List Int} (h : Srt2 d l) {i j : Nat} (hi : i < l.length) (hj : j < l.length) (hij : i ≤ j) : dd d l[i] ≤ dd d l[j] := by
 by_cases he : i = j
 ·
  subst he; exact Int.le_refl _
 ·
  exact (List.pairwise_iff_getElem.1 h i j hi hj (by omega)).le

theorem Yfc (d : List Int) : ∀ k : Nat, Yf8 d (Z91 k) k
 | 0 => fun _ _ _ _ _ _ h => by omega
 | k + 1 => by
  have ih := Yfc d k
  intro P A B S hA0 hB0 hn hb hr hA hB hx
  have pA := Yf9.2 hA0
  have pB := Yf9.2 hB0
  show ∃ C, Z8z (Z91 k) _ _ _ _ _ = _ ∧ _
  generalize Z91 k = self at ih
  unfold Z8z
  rw [Y4y (n := ((P.length + A.length : Nat) : Int) - (P.length : Int)) (by omega) (by omega), Y4y (n := ((P.length + A.length + B.length : Nat) : Int) - ((P.length + A.length : Nat) : Int)) (by omega) (by omega), beqd, beqd]
  by_cases h1 : A.length = 1
  ·
   obtain ⟨x, rfl⟩ : ∃ x, A = [x] := List.length_eq_one_iff.1 h1
   rw [Wt (by simp; omega), Wu]
   have := Yf5 d P B S x (fun y hy => hr y (by simpa using hy)) hB (by omega)
   simp only [List.length_singleton] at this ⊢
   rw [this]
   refine ⟨_, rfl, ?_, Yf3 hB fun y hy => hx x (by simp) y hy⟩
   refine List.perm_middle.trans ?_
   rw [List.take_append_drop]
   exact .refl _
  rw [Wf (by omega), Wv]
  by_cases h2 : B.length = 1
  ·
   obtain ⟨x, rfl⟩ : ∃ x, B = [x] := List.length_eq_one_iff.1 h2
   rw [Wt (by simp; omega), Wu]
   have := Yf6 d P A S x (fun y hy => hr y (by simp at hy ⊢; rcases hy with h | h <;> simp [h])) hA (by simp at hb; omega)
   rw [this]
   refine ⟨_, rfl, ?_, Yf4 hA fun y hy => hx y hy x (by simp)⟩
   refine List.perm_middle.trans ?_
   rw [List.take_append_drop]
   exact List.perm_append_comm (l₁ := [x])
  rw [Wf (by omega), Wv]
  generalize hh : (A.length + B.length) / 2 = h
  have hmid : (P.length + (P.length + A.length + B.length)) / 2 = P.length + h := by omega
  rw [Ye3 (by omega), hmid]
  -- where the search begins and ends
  have hlo : h - B.length ≤ min A.length h := by omega
  have hstart : (cond (decide (((P.length + A.length : Nat) : Int) > ((P.length + h : Nat) : Int))) (Z8y (P ++ A ++ B ++ S) (P.length : Int) ((P.length + A.length : Nat) : Int) ((P.length + A.length + B.length : Nat) : Int) d self (IntKind.i64.wrap ((IntKind.i64.wrap (((P.length + h : Nat) : Int) + ((P.length + A.length : Nat) : Int))) - ((P.length + A.length + B.length : Nat) : Int))) ((P.length + h : Nat) : Int)) (Z8y (P ++ A ++ B ++ S) (P.length : Int) ((P.length + A.length : Nat) : Int) ((P.length + A.length + B.length : Nat) : Int) d self (P.length : Int) ((P.length + A.length : Nat) : Int)))
    = Z8y (P ++ A ++ B ++ S) (P.length : Int) ((P.length + A.length : Nat) : Int) ((P.length + A.length + B.length : Nat) : Int) d self ((P.length + (h - B.length) : Nat) : Int) ((P.length + min A.length h : Nat) : Int) := by
   by_cases hc : A.length > h
   ·
    rw [Wt (by omega), Wu, Y4y (n := ((P.length + h : Nat) : Int) + ((P.length + A.length : Nat) : Int)) (by omega) (by omega), Y4y (by omega) (by omega)]
    congr 1 <;> omega
   ·
    rw [Wf (by omega), Wv]
    congr 1 <;> omega
  rw [hstart]
  unfold Z8y
  obtain ⟨t, ht1, ht2, ht3⟩ := Yf7 (fun c => dd d (A.getD c 0) ≤ dd d (B.getD (h - 1 - c) 0)) (h - B.length) (min A.length h - (h - B.length)) (fun c c' hc1 hc2 hc3 hp => by
   have q1 : c < A.length := by omega
   have q2 : c' < A.length := by omega
   have q3 : h - 1 - c < B.length := by omega
   have q4 : h - 1 - c' < B.length := by omega
   simp only [List.getD_eq_getElem?_getD, We q1, We q2, We q3, We q4, Option.getD_some] at hp ⊢
   have := Yfb hA q1 q2 hc2
   have := Yfb hB q4 q3 (by omega)
   omega)
  have hsum : h - B.length + (min A.length h - (h - B.length)) = min A.length h := by omega
  rw [hsum] at ht2 ht3
  rw [Yet (lo := P.length + (h - B.length)) (hi := P.length + min A.length h) (k := P.length + t) (by omega) (by omega) (by omega) ?_ ?_]
  ·
   -- behind the search
   rw [Wb]
   have hA12 : A = A.take t ++ A.drop t := (List.take_append_drop _ _).symm
   have hB12 : B = B.take (h - t) ++ B.drop (h - t) := (List.take_append_drop _ _).symm
   have hc12 : ∀ x ∈ A.take t, ∀ y ∈ B.drop (h - t), Lt2 d x y := by
    intro x hx1 y hy1
    obtain ⟨i, hi, hit, rfl⟩ := Yf1 hx1
    obtain ⟨j, hj, hjt, rfl⟩ := Yf2 hy1
    have hlt := hx _ (Wm hi) _ (Wm hj)
    have q1 : t - 1 < A.length := by omega
    have q2 : h - 1 - (t - 1) < B.length := by omega
    have := (ht3 (t - 1) (by omega) (by omega)).2 (by omega)
    simp only [List.getD_eq_getElem?_getD, We q1, We q2, Option.getD_some] at this
    have := Yfb hA hi q1 (by omega)
    have := Yfb hB q2 hj (by omega)
    unfold Lt2; omega
   have hc21 : ∀ x ∈ B.take (h - t), ∀ y ∈ A.drop t, Lt2 d x y := by
    intro x hx1 y hy1
    obtain ⟨i, hi, hit, rfl⟩ := Yf1 hx1
    obtain ⟨j, hj, hjt, rfl⟩ := Yf2 hy1
    have q1 : t < A.length := by omega
    have q2 : h - 1 - t < B.length := by omega
    have := (ht3 t (by omega) (by omega))
    simp only [List.getD_eq_getElem?_getD, We q1, We q2, Option.getD_some] at this
    have h5 : ¬ dd d A[t] ≤ dd d B[h - 1 - t] := fun h5 => by have := this.1 h5; omega
    have := Yfb hA q1 hj (by omega)
    have := Yfb hB hi q2 (by omega)
    unfold Lt2; omega
   have lA1 : (A.take t).length = t := by simp; omega
   have lA2 : (A.drop t).length = A.length - t := by simp
   have lB1 : (B.take (h - t)).length = h - t := by simp; omega
   have lB2 : (B.drop (h - t)).length = B.length - (h - t) := by simp
   generalize A.take t = A1 at hA12 hc12 lA1
   generalize A.drop t = A2 at hA12 hc21 lA2
   generalize B.take (h - t) = B1 at hB12 hc21 lB1
   generalize B.drop (h - t) = B2 at hB12 hc12 lB2
   have lA : A.length = A1.length + A2.length := by rw [hA12]; simp
   have lB : B.length = B1.length + B2.length := by rw [hB12]; simp
   simp only [Z8w, Z8v]
   rw [Ye3 (by omega), hmid, Y4y (n := ((P.length + h : Nat) : Int) + ((P.length + A.length : Nat) : Int)) (by omega) (by omega), Y4y (n := ((P.length + h : Nat) : Int) + ((P.length + A.length : Nat) : Int) - ((P.length + t : Nat) : Int)) (by omega) (by omega)]
   have hrot : ∀ F : List Int → Option (List Int), cond (decide (((P.length + t : Nat) : Int) < ((P.length + A.length : Nat) : Int))) (cond (decide (((P.length + A.length : Nat) : Int) < ((P.length + h : Nat) : Int) + ((P.length + A.length : Nat) : Int) - ((P.length + t : Nat) : Int))) ((Z8h (P ++ A ++ B ++ S) ((P.length + t : Nat) : Int) ((P.length + A.length : Nat) : Int) (((P.length + h : Nat) : Int) + ((P.length + A.length : Nat) : Int) - ((P.length + t : Nat) : Int)) d).bind F) (F (P ++ A ++ B ++ S))) (F (P ++ A ++ B ++ S)) = F (P ++ A1 ++ B1 ++ A2 ++ B2 ++ S) := fun F => by
    by_cases z1 : A2 = []
    ·
     rw [Wf (by subst z1; simp at lA2; omega), Wv]
     subst z1
     congr 1; rw [hA12, hB12]; simp
    ·
     have z1' := Yf9.2 z1
     rw [Wt (by omega), Wu]
     by_cases z2 : B1 = []
     ·
      rw [Wf (by subst z2; simp at lB1; omega), Wv]
      subst z2
      congr 1; rw [hA12, hB12]; simp
     ·
      have z2' := Yf9.2 z2
      rw [Wt (by omega), Wu]
      have := Yey d (P ++ A1) A2 B1 (B2 ++ S) z1 z2 (by simp; omega)
      rw [show P ++ A1 ++ A2 ++ B1 ++ (B2 ++ S) = P ++ A ++ B ++ S by rw [hA12, hB12]; simp] at this
      rw [show ((P.length + t : Nat) : Int) = ((P ++ A1).length : Int) by simp; omega, show ((P.length + A.length : Nat) : Int) = (((P ++ A1).length + A2.length : Nat) : Int) by simp; omega, show ((P.length + h : Nat) : Int) + (((P ++ A1).length + A2.length : Nat) : Int) - ((P ++ A1).length : Int) = (((P ++ A1).length + A2.length + B1.length : Nat) : Int) by simp; omega, this, Wb]
      congr 1; simp
   have hr' := hrot fun l => Z8u (P.length : Int) ((P.length + A.length : Nat) : Int) ((P.length + A.length + B.length : Nat) : Int) d self ((P.length + t : Nat) : Int) l
   simp only [Wv]
   rw [hr']
   obtain ⟨C, c1, c2, c3⟩ := Yfa ih P A1 A2 B1 B2 S ((P.length + A.length : Nat) : Int) (by omega) (by omega) (fun _ _ => by omega) (fun _ _ => by omega) (by omega) (by rw [← hA12, ← hB12]; exact hr) (by rw [← hA12]; exact hA) (by rw [← hB12]; exact hB) (by rw [← hA12, ← hB12]; exact hx) hc12 hc21
   rw [← hA12, ← hB12] at c2
   rw [show P.length + A.length + B.length = P.length + A1.length + A2.length + B1.length + B2.length by omega, show P.length + t = P.length + A1.length by omega]
   exact ⟨C, c1, c2, c3⟩
  ·
   intro i j hl hij hj
   simp only [Z8x]
   obtain ⟨c, hc⟩ : ∃ c, (i + j) / 2 = P.length + c := ⟨(i + j) / 2 - P.length, by omega⟩
   have q1 : c < A.length := by omega
   have q2 : h - 1 - c < B.length := by omega
   rw [dlt hij, Wu, Ye3 (i := P.length) (by omega), hmid, Ye3 (by omega), hc, Y4y (n := ((P.length + h : Nat) : Int) + ((P.length + A.length : Nat) : Int)) (by omega) (by omega), Y4y (n := ((P.length + h : Nat) : Int) + ((P.length + A.length : Nat) : Int) - 1) (by omega) (by omega), Y4y (n := ((P.length + h : Nat) : Int) + ((P.length + A.length : Nat) : Int) - 1 - ((P.length + c : Nat) : Int)) (by omega) (by omega)]
   rw [show ((P.length + h : Nat) : Int) + ((P.length + A.length : Nat) : Int) - 1 - ((P.length + c : Nat) : Int) = (((P ++ A).length + (h - 1 - c) : Nat) : Int) by simp; omega]
   rw [Yez (P := P ++ A) (A := B) (S := S) (c := (P ++ A).length + (h - 1 - c)) rfl (by omega) (by omega), Wb]
   rw [Yez (P := P) (A := A) (S := B ++ S) (c := P.length + c) (by simp) (by omega) (by omega), Wb]
   simp only [Nat.add_sub_cancel_left]
   rw [Yew (hr _ (List.mem_append_right _ (Wm _))) (hr _ (List.mem_append_left _ (Wm _))), Wb, Ye6]
   have := ht3 c (by omega) (by omega)
   simp only [List.getD_eq_getElem?_getD, We q1, We q2, Option.getD_some] at this
   rw [Y4y (n := ((P.length + c : Nat) : Int) + 1) (by omega) (by omega), show ((P.length + c : Nat) : Int) + 1 = ((P.length + c + 1 : Nat) : Int) from by omega]
   by_cases hlt : dd d B[h - 1 - c] < dd d A[c]
   ·
    have h5 : ¬ c < t := fun h5 => by have := this.2 h5; omega
    rw [Wt hlt, if_neg (by omega)]; rfl
   ·
    have h5 := this.1 (by omega)
    rw [Wf hlt, if_pos (by omega)]; rfl
  ·
   intro i hi
   simp only [Z8x]
   rw [dnlt, Wv]
end Go.Proofs.YtomachnjepgpbaaGreat
namespace Go.Proofs.YtomachnjepgpbaaGreat
open Go Go.Abs

theorem Yfd (d P A S : List Int) (hb : P.length + A.length + S.length < 100000) (hr : ∀ y ∈ A, InR d y) (hA : A.Pairwise (· < ·)) :
  ∃ C, Z8a (P ++ A ++ S) (P.length : Int) ((P.length + A.length : Nat) : Int) d = some (P ++ C ++ S) ∧ C.Perm A ∧ Srt2 d C := by
 unfold Z8a
 by_cases hA0 : A = []
 ·
  subst hA0
  refine ⟨[], ?_, .refl _, .nil⟩
  rw [Y4y (by omega) (by omega), Y52 (o := P ++ [] ++ S) (fun m (z : List Int × Int) => z = (P ++ [] ++ S, (P.length : Int) + 1)) ?_ (m := 0) rfl (Ycr (by omega))]
  ·
   rfl
  ·
   rintro m z rfl
   left
   simp only [Z89]
   rw [Wf (by simp only [List.length_nil]; omega), Wv]
 have pA := Yf9.2 hA0
 have inner : ∀ (C1 R : List Int) (x : Int), (∀ y ∈ x :: C1, InR d y) → Srt2 d C1 → (∀ y ∈ C1, y < x) → P.length + C1.length + R.length < 100000 →
   ∃ C, iter (fun z : List Int × Int => Z88 (P.length : Int) d z.1 z.2) big (P ++ C1 ++ x :: R, ((P.length + C1.length : Nat) : Int)) = some (P ++ C ++ R) ∧ C.Perm (C1 ++ [x]) ∧ Srt2 d C := by
  intro C1 R x hr1 hs hx hb1
  have := Y51 (step := fun z : List Int × Int => Z88 (P.length : Int) d z.1 z.2) (p := fun o => ∃ C, o = P ++ C ++ R ∧ C.Perm (C1 ++ [x]) ∧ Srt2 d C)
   (fun m (z : List Int × Int) => ∃ S1 S2, S1 ++ S2 = C1 ∧ z = (P ++ S1 ++ x :: (S2 ++ R), ((P.length + S1.length : Nat) : Int)) ∧ (∀ y ∈ S2, Lt2 d x y) ∧ m = S1.length) (by
   rintro m z ⟨S1, S2, hS, rfl, hx2, rfl⟩
   have hfin : ((∀ y ∈ S1, Lt2 d y x)) → ∃ C, P ++ S1 ++ x :: (S2 ++ R) = P ++ C ++ R ∧ C.Perm (C1 ++ [x]) ∧ Srt2 d C := fun hy => by
    refine ⟨S1 ++ x :: S2, by simp, ?_, ?_⟩
    ·
     rw [← hS]
     exact List.perm_middle.trans (List.perm_append_comm (l₁ := [x]))
    ·
     rw [← hS] at hs
     obtain ⟨a1, a2, a3⟩ := Yeu.1 hs
     refine Yeu.2 ⟨a1, List.pairwise_cons.2 ⟨hx2, a2⟩, fun a ha b hb' => ?_⟩
     rcases List.mem_cons.1 hb' with rfl | hb'
     ·
      exact hy a ha
     ·
      exact a3 a ha b hb'
   have hl : S1.length + S2.length = C1.length := by rw [← hS]; simp
   rcases List.eq_nil_or_concat S1 with rfl | ⟨T, y, rfl⟩
   ·
    left
    simp only [Z88]
    rw [Wf (by simp), Wv]
    exact ⟨_, rfl, hfin (by simp)⟩
   ·
    simp only [Z88, List.concat_eq_append]
    simp only [List.concat_eq_append] at hfin hS hl
    have hyC : y ∈ C1 := by rw [← hS]; simp
    have hl1 : (T ++ [y]).length = T.length + 1 := by simp
    rw [Wt (by omega), Wu, Y4y (n := ((P.length + (T ++ [y]).length : Nat) : Int) - 1) (by omega) (by omega), show ((P.length + (T ++ [y]).length : Nat) : Int) - 1 = ((P.length + T.length : Nat) : Int) from by omega]
    rw [Yer (X := P ++ (T ++ [y])) (u := x) (Y := S2 ++ R) (by simp) (by simp), Wb]
    rw [Yer (X := P ++ T) (u := y) (Y := x :: (S2 ++ R)) (by simp) (by simp), Wb]
    rw [Yew (hr1 x (by simp)) (hr1 y (by simp [hyC])), Wb, Ye6]
    have hyx := hx y hyC
    by_cases hlt : dd d x < dd d y
    ·
     right
     rw [Wt hlt]
     simp only [Z87, Wu]
     rw [Y4y (n := ((P.length + (T ++ [y]).length : Nat) : Int) - 1) (by omega) (by omega), show ((P.length + (T ++ [y]).length : Nat) : Int) - 1 = ((P.length + T.length : Nat) : Int) from by omega, Int.toNat_natCast, Int.toNat_natCast]
     rw [Yer (X := P ++ T) (u := y) (Y := x :: (S2 ++ R)) (by simp) (by simp), Wb]
     rw [Yer (X := P ++ (T ++ [y])) (u := x) (Y := S2 ++ R) (by simp) (by simp), Wb]
     rw [Yes (X := P ++ (T ++ [y])) (u := x) (Y := S2 ++ R) (by simp) (by simp)]
     rw [Yer (X := P ++ T) (u := y) (Y := y :: (S2 ++ R)) (by simp) (by simp), Wb]
     rw [Yes (X := P ++ T) (u := y) (Y := y :: (S2 ++ R)) (by simp) (by simp)]
     refine ⟨_, T.length, rfl, by omega, T, y :: S2, by rw [← hS]; simp, by simp, fun z hz => ?_, rfl⟩
     rcases List.mem_cons.1 hz with rfl | hz
     ·
      unfold Lt2; omega
     ·
      exact hx2 z hz
    ·
     left
     rw [Wf hlt]
     simp only [Z87, Wv]
     refine ⟨_, rfl, hfin fun z hz => ?_⟩
     have hyx2 : Lt2 d y x := by unfold Lt2; omega
     rcases List.mem_append.1 hz with hz | hz
     ·
      rw [← hS] at hs
      have h3 := (Yeu.1 (Yeu.1 hs).1).2.2 z hz y (by simp)
      exact h3.trans hyx2
     ·
      rw [List.mem_singleton] at hz; subst hz; exact hyx2) big C1.length (P ++ C1 ++ x :: R, ((P.length + C1.length : Nat) : Int)) ⟨C1, [], by simp, by simp, by simp, rfl⟩ (Ycr (by omega))
  obtain ⟨o, h1, C, rfl, h2, h3⟩ := this
  exact ⟨C, h1, h2, h3⟩
 have := Y51 (step := fun z : List Int × Int => Z89 (P.length : Int) ((P.length + A.length : Nat) : Int) d z.1 z.2) (p := fun o => ∃ C, o = P ++ C ++ S ∧ C.Perm A ∧ Srt2 d C)
  (fun m (z : List Int × Int) => ∃ (t : Nat) (C1 : List Int), t ≤ A.length ∧ z = (P ++ C1 ++ A.drop t ++ S, ((P.length + t : Nat) : Int)) ∧ C1.Perm (A.take t) ∧ Srt2 d C1 ∧ m = A.length - t) (by
  rintro m z ⟨t, C1, ht, rfl, hp, hs, rfl⟩
  simp only [Z89]
  have hC1 : C1.length = t := by rw [hp.length_eq]; simp; omega
  by_cases htA : t < A.length
  ·
   right
   have e0 : A.drop t = A[t] :: A.drop (t + 1) := List.drop_eq_getElem_cons htA
   have e1 : A.take (t + 1) = A.take t ++ [A[t]] := by rw [List.take_add_one, We htA]; rfl
   obtain ⟨C, h1, h2, h3⟩ := inner C1 (A.drop (t + 1) ++ S) A[t] (fun y hy => by
    rcases List.mem_cons.1 hy with rfl | hy
    ·
     exact hr _ (Wm _)
    ·
     exact hr _ (List.mem_of_mem_take (hp.mem_iff.1 hy))) hs (fun y hy => by
    obtain ⟨i, hi, hit, rfl⟩ := Yf1 (hp.mem_iff.1 hy)
    exact List.pairwise_iff_getElem.1 hA i t hi htA hit) (by simp; omega)
   rw [Wt (by omega), Wu]
   rw [hC1] at h1
   generalize A[t] = u at *
   rw [show P ++ C1 ++ A.drop t ++ S = P ++ C1 ++ u :: (A.drop (t + 1) ++ S) by rw [e0]; simp only [List.append_assoc, List.cons_append], h1, Wb]
   simp only [Z86]
   refine ⟨_, A.length - (t + 1), rfl, by omega, t + 1, C, by omega, ?_, ?_, h3, rfl⟩
   ·
    rw [Y4y (by omega) (by omega)]
    simp only [Prod.mk.injEq]
    exact ⟨by simp only [List.append_assoc], by omega⟩
   ·
    rw [e1]; exact h2.trans (List.Perm.append_right _ hp)
  ·
   left
   obtain rfl : t = A.length := by omega
   rw [Wf (by omega), Wv]
   refine ⟨_, rfl, C1, by simp, by simpa using hp, hs⟩) big (A.length - 1) (P ++ A ++ S, (P.length : Int) + 1) ⟨1, A.take 1, by omega, by
    simp only [Prod.mk.injEq]
    refine ⟨?_, by omega⟩
    rw [List.append_assoc P (A.take 1), List.take_append_drop], .refl _, by
    cases A with
    | nil => exact absurd rfl hA0
    | cons a r => exact List.pairwise_singleton _ _, rfl⟩ (Ycr (by omega))
 obtain ⟨o, h1, C, rfl, h2, h3⟩ := this
 rw [Y4y (by omega) (by omega), h1]
 exact ⟨C, rfl, h2, h3⟩


structure Seg (d : List Int) (a : Nat) (B : List Int) : Prop where
 srt : Srt2 d B
 in_ : ∀ x ∈ B, (a : Int) ≤ x ∧ x < ((a + B.length : Nat) : Int)

inductive Blks (d : List Int) (bs : Nat) : Nat → List Int → Prop
 | last (a : Nat) (B : List Int) : B.length ≤ bs → Seg d a B → Blks d bs a B
 | cons (a : Nat) (B l : List Int) : B.length = bs → Seg d a B → Blks d bs (a + bs) l → Blks d bs a (B ++ l)

theorem Seg.merge {d : List Int} {a : Nat} {B1 B2 C : List Int} (h1 : Seg d a B1) (h2 : Seg d (a + B1.length) B2) (hp : C.Perm (B1 ++ B2)) (hs : Srt2 d C) : Seg d a C := by
 refine ⟨hs, fun x hx => ?_⟩
 have hl := hp.length_eq
 rw [List.length_append] at hl
 rcases List.mem_append.1 (hp.mem_iff.1 hx) with h | h
 ·
  have := h1.in_ x h; omega
 ·
  have := h2.in_ x h; omega
theorem Seg.lt {d : List Int} {a : Nat} {B1 B2 : List Int} (h1 : Seg d a B1) (h2 : Seg d (a + B1.length) B2) : ∀ x ∈ B1, ∀ y ∈ B2, x < y := fun x hx y hy => by
 have := h1.in_ x hx; have := h2.in_ y hy; omega

theorem Blks.one {d : List Int} {bs a : Nat} {l : List Int} (h0 : 0 < bs) (h : Blks d bs a l) (hl : l.length ≤ bs) : Seg d a l := by
 cases h with
 | last _ _ _ h => exact h
 | cons _ B r h1 h2 h3 =>
  rw [List.length_append] at hl
  obtain rfl : r = [] := List.eq_nil_of_length_eq_zero (by omega)
  simpa using h2
theorem Blks.first {d : List Int} {bs a : Nat} {l : List Int} (h : Blks d bs a l) (hl : bs ≤ l.length) : ∃ B r, l = B ++ r ∧ B.length = bs ∧ Seg d a B ∧ Blks d bs (a + bs) r := by
 cases h with
 | last _ _ h1 h => exact ⟨l, [], by simp, by omega, h, .last _ _ (by simp) ⟨.nil, by simp⟩⟩
 | cons _ B r h1 h2 h3 => exact ⟨B, r, rfl, h1, h2, h3⟩

def idt (a n : Nat) : List Int := (List.range' a n).map fun i : Nat => (i : Int)
theorem Yfe (a n : Nat) : (idt a n).length = n := by simp [idt]
theorem Yff (a m n : Nat) : idt a (m + n) = idt a m ++ idt (a + m) n := by
 unfold idt
 rw [← List.map_append, List.range'_append_1]
theorem Yfg (a n : Nat) : (idt a n).Pairwise (· < ·) := by
 unfold idt
 rw [List.pairwise_map]
 exact (List.pairwise_lt_range' (s := a) (n := n)).imp fun h => by omega
theorem Yfh {a n : Nat} {x : Int} (h : x ∈ idt a n) : (a : Int) ≤ x ∧ x < ((a + n : Nat) : Int) := by
 unfold idt at h
 obtain ⟨i, hi, rfl⟩ := List.mem_map.1 h
 have := List.mem_range'_1.1 hi
 omega

theorem Seg.ins {d : List Int} {a n : Nat} {C : List Int} (hp : C.Perm (idt a n)) (hs : Srt2 d C) : Seg d a C := ⟨hs, fun x hx => by
 have := Yfh (hp.mem_iff.1 hx)
 rw [hp.length_eq, Yfe]
 exact this⟩

def Yfi (d : List Int) (n : Nat) (ps : List Int) : Prop := ps.Perm (idt 0 n) ∧ Srt2 d ps

theorem Yfj (d : List Int) (n : Nat) (hd : d.length = n) (hn : n ≤ 1000) : ∃ ps, Z9d (idt 0 n) d = some ps ∧ Yfi d n ps := by
 unfold Z9d Z9b
 rw [Yfe]
 have hin : ∀ l : List Int, l.Perm (idt 0 n) → ∀ y ∈ l, InR d y := fun l hl y hy => by
  have := Yfh (hl.mem_iff.1 hy)
  unfold InR; omega
 -- sorted by insertion
 obtain ⟨⟨o1, oa⟩, h1, X, ha, hXn, hX20, ho, hp1, hB1⟩ := Y51 (step := fun z : List Int × Int × Int => Z9a (n : Int) d z.1 z.2.1 z.2.2)
  (p := fun o : List Int × Int => ∃ X, ((X.length : Nat) : Int) = o.2 ∧ X.length ≤ n ∧ n < X.length + 20 ∧ o.1 = X ++ idt X.length (n - X.length) ∧ X.Perm (idt 0 X.length) ∧ ∀ l', Blks d 20 X.length l' → Blks d 20 0 (X ++ l'))
  (fun m (z : List Int × Int × Int) => ∃ X, z = (X ++ idt X.length (n - X.length), (X.length : Int), ((X.length + 20 : Nat) : Int)) ∧ X.length ≤ n ∧ X.Perm (idt 0 X.length) ∧ (∀ l', Blks d 20 X.length l' → Blks d 20 0 (X ++ l')) ∧ m = n - X.length) (by
  rintro m z ⟨X, rfl, hXn, hp, hB, rfl⟩
  simp only [Z9a]
  by_cases hle : X.length + 20 ≤ n
  ·
   right
   rw [Wt (by omega), Wu]
   have e : idt X.length (n - X.length) = idt X.length 20 ++ idt (X.length + 20) (n - X.length - 20) := by
    rw [← Yff]; congr 1; omega
   obtain ⟨C, c1, c2, c3⟩ := Yfd d X (idt X.length 20) (idt (X.length + 20) (n - X.length - 20)) (by simp only [Yfe]; omega) (fun y hy => by have := Yfh hy; unfold InR; omega) (Yfg _ _)
   rw [Yfe] at c1
   rw [e, ← List.append_assoc, c1, Wb, Y4y (by omega) (by omega)]
   have hCl : C.length = 20 := by rw [c2.length_eq, Yfe]
   refine ⟨_, n - (X ++ C).length, rfl, by simp; omega, X ++ C, ?_, by simp; omega, ?_, fun l' hl' => ?_, rfl⟩
   ·
    have hl2 : (X ++ C).length = X.length + 20 := by simp; omega
    rw [hl2]
    simp only [Prod.mk.injEq]
    exact ⟨by congr 2, trivial, by omega⟩
   ·
    have hl2 : (X ++ C).length = X.length + 20 := by simp; omega
    rw [hl2, Yff]
    exact hp.append (by simpa using c2)
   ·
    rw [List.append_assoc]
    refine hB _ (.cons _ _ _ hCl (.ins c2 c3) ?_)
    have hl2 : (X ++ C).length = X.length + 20 := by simp; omega
    rwa [hl2] at hl'
  ·
   left
   rw [Wf (by omega), Wv]
   exact ⟨_, rfl, X, rfl, hXn, by omega, rfl, hp, hB⟩) big n (idt 0 n, (0 : Int), (20 : Int)) ⟨[], by simp, by simp, by simp [idt], fun l' h => by simpa using h, by simp⟩ (Ycr (by omega))
 simp only at ha ho
 subst ha ho
 rw [h1, Wb]
 simp only [Z99]
 obtain ⟨C, c1, c2, c3⟩ := Yfd d X (idt X.length (n - X.length)) [] (by simp only [Yfe, List.length_nil]; omega) (fun y hy => by have := Yfh hy; unfold InR; omega) (Yfg _ _)
 rw [Yfe, List.append_nil, List.append_nil, show ((X.length + (n - X.length) : Nat) : Int) = (n : Int) by omega] at c1
 rw [c1, Wb]
 have hl1 : (X ++ C).Perm (idt 0 n) := by
  rw [show n = X.length + (n - X.length) by omega, Yff]
  exact hp1.append (by simpa using c2)
 have hb1 : Blks d 20 0 (X ++ C) := hB1 _ (.last _ _ (by rw [c2.length_eq, Yfe]; omega) (.ins c2 c3))
 generalize X ++ C = l1 at hl1 hb1
 -- merged
 have hmg := Yfc d big
 have hself : ∀ p0 p1 p2 p3 p4, Z93 p0 p1 p2 p3 p4 = Z91 big p0 p1 p2 p3 p4 := fun _ _ _ _ _ => rfl
 have mg : ∀ (P B1 B2 S : List Int), B1 ≠ [] → B2 ≠ [] → (P ++ B1 ++ B2 ++ S).Perm (idt 0 n) → Seg d P.length B1 → Seg d (P.length + B1.length) B2 → ∃ C, Z93 (P ++ B1 ++ B2 ++ S) (P.length : Int) ((P.length + B1.length : Nat) : Int) ((P.length + B1.length + B2.length : Nat) : Int) d = some (P ++ C ++ S) ∧ C.Perm (B1 ++ B2) ∧ Seg d P.length C := by
  intro P B1 B2 S n1 n2 hp s1 s2
  have hl := hp.length_eq
  rw [Yfe] at hl
  simp only [List.length_append] at hl
  obtain ⟨C, e1, e2, e3⟩ := hmg P B1 B2 S n1 n2 (Ycr (by omega)) (by omega) (fun y hy => hin _ hp y (by simp at hy ⊢; rcases hy with h | h <;> simp [h])) s1.srt s2.srt (s1.lt s2)
  exact ⟨C, by rw [hself]; exact e1, e2, s1.merge s2 e2 e3⟩
 obtain ⟨o, e1, e2⟩ := Y51 (step := fun z : List Int × Int => Z98 (n : Int) d z.1 z.2) (p := fun o => Yfi d n o)
  (fun m (z : List Int × Int) => ∃ (bs : Nat) (l : List Int), z = (l, (bs : Int)) ∧ 0 < bs ∧ bs ≤ 2000 ∧ l.Perm (idt 0 n) ∧ Blks d bs 0 l ∧ m = n - bs) (by
  rintro m z ⟨bs, l, rfl, hbs, hbs2, hl, hbk, rfl⟩
  have hll : l.length = n := by rw [hl.length_eq, Yfe]
  simp only [Z98]
  by_cases hlt : bs < n
  ·
   right
   rw [Wt (by omega), Wu]
   obtain ⟨⟨o1, oa⟩, f1, X, Y, ha, ho, hY, hpX, hBY, hBX⟩ := Y51 (step := fun z : List Int × Int × Int => Z97 (n : Int) d bs z.1 z.2.1 z.2.2)
    (p := fun o : List Int × Int => ∃ X Y, ((X.length : Nat) : Int) = o.2 ∧ o.1 = X ++ Y ∧ Y.length < 2 * bs ∧ (X ++ Y).Perm (idt 0 n) ∧ Blks d bs X.length Y ∧ ∀ l', Blks d (2 * bs) X.length l' → Blks d (2 * bs) 0 (X ++ l'))
    (fun m (z : List Int × Int × Int) => ∃ X Y, z = (X ++ Y, (X.length : Int), ((X.length + 2 * bs : Nat) : Int)) ∧ (X ++ Y).Perm (idt 0 n) ∧ Blks d bs X.length Y ∧ (∀ l', Blks d (2 * bs) X.length l' → Blks d (2 * bs) 0 (X ++ l')) ∧ m = Y.length) (by
    rintro m z ⟨X, Y, rfl, hp, hY, hX, rfl⟩
    have hlen := hp.length_eq
    rw [Yfe, List.length_append] at hlen
    simp only [Z97]
    by_cases hle : X.length + 2 * bs ≤ n
    ·
     right
     rw [Wt (by omega), Wu]
     obtain ⟨B1, r1, rfl, l1, g1, k1⟩ := hY.first (by omega)
     rw [List.length_append] at hlen
     obtain ⟨B2, r2, rfl, l2, g2, k2⟩ := k1.first (by omega)
     obtain ⟨C, c1, c2, c3⟩ := mg X B1 B2 r2 (Yf9.1 (by omega)) (Yf9.1 (by omega)) (by simpa using hp) g1 (by rw [l1]; exact g2)
     have hCl : C.length = 2 * bs := by rw [c2.length_eq]; simp; omega
     rw [Y4y (n := (X.length : Int) + (bs : Int)) (by omega) (by omega), show (X.length : Int) + (bs : Int) = ((X.length + B1.length : Nat) : Int) by omega, show ((X.length + 2 * bs : Nat) : Int) = ((X.length + B1.length + B2.length : Nat) : Int) by omega]
     rw [show X ++ (B1 ++ (B2 ++ r2)) = X ++ B1 ++ B2 ++ r2 by simp, c1, Wb]
     rw [Y4y (n := 2 * (bs : Int)) (by omega) (by omega), Y4y (by omega) (by omega)]
     have hl2 : (X ++ C).length = X.length + 2 * bs := by simp; omega
     refine ⟨_, r2.length, rfl, by simp; omega, X ++ C, r2, ?_, ?_, ?_, fun l' hl' => ?_, rfl⟩
     ·
      rw [hl2]
      simp only [Prod.mk.injEq, true_and]
      exact ⟨by omega, by omega⟩
     ·
      refine List.Perm.trans ?_ hp
      rw [List.append_assoc, ← List.append_assoc B1]
      exact List.Perm.append_left _ (List.Perm.append_right _ c2)
     ·
      rw [hl2, show X.length + 2 * bs = X.length + bs + bs by omega]; exact k2
     ·
      rw [List.append_assoc]
      refine hX _ (.cons _ _ _ hCl c3 ?_)
      rwa [hl2] at hl'
    ·
     left
     rw [Wf (by omega), Wv]
     exact ⟨_, rfl, X, Y, rfl, rfl, by omega, hp, hY, hX⟩) big n (l, (0 : Int), ((2 * bs : Nat) : Int)) ⟨[], l, by simp, hl, hbk, fun l' h => by simpa using h, by omega⟩ (Ycr (by omega))
   simp only at ha ho
   subst ha ho
   rw [Y4y (n := 2 * (bs : Int)) (by omega) (by omega), show 2 * (bs : Int) = ((2 * bs : Nat) : Int) by omega, f1, Wb]
   simp only [Z96, Z95]
   have hlen := hpX.length_eq
   rw [Yfe, List.length_append] at hlen
   rw [Y4y (n := (X.length : Int) + (bs : Int)) (by omega) (by omega), Y4y (n := (bs : Int) * 2) (by omega) (by omega), show (bs : Int) * 2 = ((2 * bs : Nat) : Int) by omega]
   by_cases hmn : X.length + bs < n
   ·
    rw [Wt (by omega), Wu]
    obtain ⟨B1, r1, rfl, l1, g1, k1⟩ := hBY.first (by omega)
    simp only [List.length_append] at hlen hY
    have g2 := k1.one hbs (by omega)
    obtain ⟨C, c1, c2, c3⟩ := mg X B1 r1 [] (Yf9.1 (by omega)) (Yf9.1 (by omega)) (by simpa using hpX) g1 (by rw [l1]; exact g2)
    rw [List.append_nil, List.append_nil] at c1
    rw [show (X.length : Int) + (bs : Int) = ((X.length + B1.length : Nat) : Int) by omega, show (n : Int) = ((X.length + B1.length + r1.length : Nat) : Int) by omega, ← List.append_assoc, c1, Wb]
    refine ⟨_, n - 2 * bs, rfl, by omega, 2 * bs, X ++ C, rfl, by omega, by omega, ?_, hBX _ (.last _ _ (by rw [c2.length_eq]; simp; omega) c3), rfl⟩
    exact (List.Perm.append_left _ c2).trans hpX
   ·
    rw [Wf (by omega), Wv]
    exact ⟨_, n - 2 * bs, rfl, by omega, 2 * bs, X ++ Y, rfl, by omega, by omega, hpX, hBX _ (.last _ _ (by omega) (hBY.one hbs (by omega))), rfl⟩
  ·
   left
   rw [Wf (by omega), Wv]
   exact ⟨l, rfl, hl, (hbk.one hbs (by omega)).srt⟩) big (n - 20) (l1, (20 : Int)) ⟨20, l1, rfl, by omega, by omega, hl1, hb1, rfl⟩ (Ycr (by omega))
 rw [e1]
 exact ⟨o, rfl, e2⟩
end Go.Proofs.YtomachnjepgpbaaGreat
namespace Go.Proofs.YtomachnjepgpbaaGreat
open Go Go.Abs

theorem Yfk (a n i : Nat) (h : i < (idt a n).length) : (idt a n)[i] = ((a + i : Nat) : Int) := by simp [idt]

def Yfl (l : List Y9j) : List Int := (Z9d (idt 0 l.length) (Yed l)).getD []
def idPl (l : List Y9j) (x : Int) : Int := (l.getD x.toNat zEv).id
def Yfm (l : List Y9j) : List Int := (Yfl l).map (idPl l)

theorem Yfn {l : List Y9j} (hf : Fits l) : Z9d (idt 0 l.length) (Yed l) = some (Yfl l) ∧ Yfi (Yed l) l.length (Yfl l) := by
 obtain ⟨ps, h1, h2⟩ := Yfj (Yed l) l.length (Yej hf).2.len (by have := hf.len; omega)
 have : Yfl l = ps := by unfold Yfl; rw [h1]; rfl
 rw [this]
 exact ⟨h1, h2⟩

theorem Yfo {l : List Y9j} (hf : Fits l) {x : Int} (hx : x ∈ Yfl l) : ∃ k : Nat, x = (k : Int) ∧ k < l.length := by
 have := Yfh ((Yfn hf).2.1.mem_iff.1 hx)
 exact ⟨x.toNat, by omega, by omega⟩
theorem Yfp {l : List Y9j} (hf : Fits l) : (Yfl l).length = l.length := by rw [(Yfn hf).2.1.length_eq, Yfe]

theorem Yfq {g : Y9k} (hf : Fits g.events) : Z9j g = some (Yfm g.events) := by
 have hl := hf.len
 unfold Z9j
 rw [Yeq hf, Wb]
 have h1 := Ydd (l := List.range g.events.length) (step := fun z : List Int × Int => Z9i g z.1 z.2) (fun s j => (s, j)) (fun s => s) (fun s i => s ++ [(i : Int)]) (fun i s => s.length = i) (by simp; omega) (fun i s hi hs => by
  simp only [List.length_range] at hi
  simp only [List.getElem_range]
  refine ⟨?_, by simp [hs]⟩
  simp only [Z9i]
  rw [dlt hi, Wu, Y4z (Wt (by simp; omega)), Wb, Ycx hi (by omega)])
  (fun s hs => by simp only [List.length_range, Z9i]; rw [dnlt, Wv]) (s := []) rfl
 have e1 : ∀ (r : List Nat) (s : List Int), r.foldl (fun s (i : Nat) => s ++ [(i : Int)]) s = s ++ r.map fun i : Nat => (i : Int) := by
  intro r
  induction r with
  | nil => intro s; simp
  | cons i r ih => intro s; rw [List.foldl_cons, ih]; simp
 rw [e1] at h1
 have e2 : ([] : List Int) ++ (List.range g.events.length).map (fun i : Nat => (i : Int)) = idt 0 g.events.length := by unfold idt; rw [List.range_eq_range']; simp
 rw [e2] at h1
 rw [h1.1, Wb]
 simp only [Z9h, Z9f]
 rw [(Yfn hf).1, Wb]
 have hol := Yfp hf
 have h2 := Ydd (l := Yfl g.events) (step := fun z : List Int × Int => Z9g g (Yfl g.events) z.1 z.2) (fun s j => (s, j)) (fun s => s) (fun s x => s ++ [idPl g.events x]) (fun i s => s.length = i) (by omega) (fun i s hi hs => by
  refine ⟨?_, by simp [hs]⟩
  simp only [Z9g]
  obtain ⟨k, hk, hkl⟩ := Yfo hf (Wm hi)
  rw [dlt hi, Wu, Ycw hi, Wb, hk, Ycw hkl, Wb, Y4z (Wt (by simp; omega)), Wb, Ycx hi (by omega)]
  unfold idPl
  simp [hkl])
  (fun s hs => by simp only [Z9g]; rw [dnlt, Wv]) (s := []) rfl
 have e3 : ∀ (r : List Int) (s : List Int), r.foldl (fun s x => s ++ [idPl g.events x]) s = s ++ r.map (idPl g.events) := by
  intro r
  induction r with
  | nil => intro s; simp
  | cons i r ih => intro s; rw [List.foldl_cons, ih]; simp
 rw [h2.1, e3]
 rfl


def layP (d : List Int) (n : Nat) (k : Int) : List Int := (idt 0 n).filter fun x => decide (dd d x = k)
def Yfr (d : List Int) (n : Nat) : Nat → List Int
 | 0 => []
 | k + 1 => Yfr d n k ++ layP d n ((k + 1 : Nat) : Int)

theorem Yfs {p q : Int → Bool} : ∀ {l : List Int}, (∀ x ∈ l, p x = true → q x = false) → (l.filter p ++ l.filter q).Perm (l.filter fun x => p x || q x)
 | [], _ => .refl _
 | a :: l, h => by
  have ih := Yfs (l := l) fun x hx => h x (by simp [hx])
  cases hp : p a with
  | true =>
   have hq := h a (by simp) hp
   rw [List.filter_cons_of_pos hp, List.filter_cons_of_neg (by simp [hq]), List.filter_cons_of_pos (by simp [hp])]
   exact ih.cons a
  | false =>
   cases hq : q a with
   | true =>
    rw [List.filter_cons_of_neg (by simp [hp]), List.filter_cons_of_pos hq, List.filter_cons_of_pos (by simp [hq])]
    exact List.perm_middle.trans (ih.cons a)
   | false =>
    rw [List.filter_cons_of_neg (by simp [hp]), List.filter_cons_of_neg (by simp [hq]), List.filter_cons_of_neg (by simp [hp, hq])]
    exact ih

theorem Yft {d : List Int} {n : Nat} (hpos : ∀ x ∈ idt 0 n, 1 ≤ dd d x) : ∀ k : Nat, (Yfr d n k).Perm ((idt 0 n).filter fun x => decide (dd d x ≤ (k : Int)))
 | 0 => by
  have : (idt 0 n).filter (fun x => decide (dd d x ≤ ((0 : Nat) : Int))) = [] := List.filter_eq_nil_iff.2 fun x hx => by have := hpos x hx; simp; omega
  rw [this]; exact .refl _
 | k + 1 => by
  refine ((Yft hpos k).append_right _).trans ?_
  unfold layP
  refine (Yfs fun x _ hx => by simp at hx ⊢; omega).trans ?_
  rw [show (fun x => decide (dd d x ≤ ((k + 1 : Nat) : Int))) = fun x => (decide (dd d x ≤ (k : Int)) || decide (dd d x = ((k + 1 : Nat) : Int))) from funext fun x => by
   by_cases h : dd d x ≤ ((k + 1 : Nat) : Int)
   ·
    by_cases h2 : dd d x ≤ (k : Int)
    ·
     rw [Wt h, Wt h2]; rfl
    ·
     rw [Wt h, Wf h2, Wt (by omega : dd d x = ((k + 1 : Nat) : Int))]; rfl
   ·
    rw [Wf h, Wf (by omega), Wf (by omega)]; rfl]

theorem Yfu {d : List Int} {n : Nat} (hpos : ∀ x ∈ idt 0 n, 1 ≤ dd d x) : ∀ k : Nat, Srt2 d (Yfr d n k)
 | 0 => .nil
 | k + 1 => by
  refine Yeu.2 ⟨Yfu hpos k, ?_, fun a ha b hb => ?_⟩
  ·
   unfold layP
   refine List.Pairwise.imp_of_mem (fun {x y} hx hy hlt => ?_) ((Yfg 0 n).filter _)
   have h1 := Wo (List.mem_filter.1 hx).2
   have h2 := Wo (List.mem_filter.1 hy).2
   unfold Lt2; omega
  ·
   have h1 := (Yft hpos k).mem_iff.1 ha
   have h2 := Wo (List.mem_filter.1 h1).2
   have h3 := Wo (List.mem_filter.1 hb).2
   unfold Lt2; omega

theorem Yfv {d : List Int} {n k : Nat} (hpos : ∀ x ∈ idt 0 n, 1 ≤ dd d x) (hl : n ≤ (Yfr d n k).length) : Yfi d n (Yfr d n k) := by
 refine ⟨?_, Yfu hpos k⟩
 have hp := Yft hpos k
 have h1 : ((idt 0 n).filter fun x => decide (dd d x ≤ (k : Int))).length = (idt 0 n).length := by
  have h2 := hp.length_eq
  have h3 := List.length_filter_le (fun x => decide (dd d x ≤ (k : Int))) (idt 0 n)
  rw [Yfe] at h3 ⊢
  omega
 rw [List.length_filter_eq_length_iff] at h1
 rw [List.filter_eq_self.2 h1] at hp
 exact hp

theorem Yfw {d : List Int} {n : Nat} {p q : List Int} (hp : Yfi d n p) (hq : Yfi d n q) : p = q :=
 List.Perm.eq_of_pairwise (fun a b _ _ h1 h2 => by unfold Lt2 at h1 h2; omega) hp.2 hq.2 (hp.1.trans hq.1.symm)

def Deep (l : List Y9j) : Prop := ∀ x ∈ Yed l, 0 < x

theorem Yfx {d : List Int} {x : Int} (h : InR d x) : dd d x ∈ d := by
 have := Yev h
 unfold getI at this
 rw [if_pos h.1] at this
 exact List.mem_of_getElem? this

theorem Yfy {g : Y9k} (hf : Fits g.events) (hd : Deep g.events) : Zek g = some (Yfm g.events) := by
 have hl := hf.len
 obtain ⟨e0, hb⟩ := Yej hf
 unfold Zek
 rw [e0, Wb]
 unfold Deep at hd
 have hord := (Yfn hf).2
 unfold Yfm
 generalize Yed g.events = d at hb hd hord
 have hin : ∀ x ∈ idt 0 g.events.length, InR d x := fun x hx => by have := Yfh hx; have := hb.len; unfold InR; omega
 have hpos : ∀ x ∈ idt 0 g.events.length, 1 ≤ dd d x := fun x hx => by have := hd _ (Yfx (hin x hx)); omega
 have hB : g.events.length * g.events.length ≤ 3600 := Nat.mul_le_mul hl hl
 have inner : ∀ (k : Int) (s : List Int), s.length ≤ 1000 → iter (fun z : List Int × Int => Zei g d k z.1 z.2) big (s, 0) = some (s ++ (layP d g.events.length k).map (idPl g.events)) := by
  intro k s hs
  have h2 := Ydd (l := idt 0 g.events.length) (step := fun z : List Int × Int => Zei g d k z.1 z.2) (fun s j => (s, j)) (fun s => s) (fun s x => if dd d x = k then s ++ [idPl g.events x] else s) (fun i s' => s'.length ≤ s.length + i) (by rw [Yfe]; omega) (fun i s' hi hs' => by
   have hi' : i < g.events.length := by rwa [Yfe] at hi
   have hid : i < d.length := by rw [hb.len]; exact hi'
   rw [Yfk, Nat.zero_add]
   have e5 : dd d (i : Int) = d[i] := by unfold dd; simp [hid]
   rw [e5]
   refine ⟨?_, by split <;> first | omega | (rw [List.length_append, List.length_singleton]; omega)⟩
   simp only [Zei]
   rw [dlt hi', Wu, Ycw hid, Wb, beqd]
   simp only [Zeh, Ycx hi' (by omega : g.events.length < 9223372036854775807)]
   by_cases hk : d[i] = k
   ·
    rw [Wt hk, Wu, if_pos hk, Ycw hi', Wb, Y4z (Wt (by simp; omega)), Wb]
    unfold idPl; simp [hi']
   ·
    rw [Wf hk, Wv, if_neg hk])
   (fun s hs => by rw [Yfe]; simp only [Zei]; rw [dnlt, Wv]) (s := s) (by omega)
  rw [h2.1]
  congr 1
  unfold layP
  generalize idt 0 g.events.length = r
  clear h2
  induction r generalizing s with
  | nil => simp
  | cons x r ih =>
   rw [List.foldl_cons]
   by_cases hk : dd d x = k
   ·
    rw [if_pos hk, List.filter_cons_of_pos (by simp [hk])]
    have : ∀ s : List Int, r.foldl (fun s x => if dd d x = k then s ++ [idPl g.events x] else s) s = s ++ (r.filter fun x => decide (dd d x = k)).map (idPl g.events) := by
     clear ih hs
     induction r with
     | nil => intro s; simp
     | cons y r ih2 =>
      intro s
      rw [List.foldl_cons]
      by_cases hy : dd d y = k
      ·
       rw [if_pos hy, List.filter_cons_of_pos (by simp [hy]), ih2]; simp
      ·
       rw [if_neg hy, List.filter_cons_of_neg (by simp [hy]), ih2]
    rw [this]; simp
   ·
    rw [if_neg hk, List.filter_cons_of_neg (by simp [hk])]
    exact ih s hs
 have hlay : ∀ k, (Yfr d g.events.length k).length ≤ g.events.length := fun k => by
  have h1 := (Yft hpos k).length_eq
  have h2 := List.length_filter_le (fun x => decide (dd d x ≤ (k : Int))) (idt 0 g.events.length)
  rw [Yfe] at h2; omega
 obtain ⟨o, h1, rfl⟩ := Y51 (step := fun z : List Int × Int => Zej g d z.1 z.2) (p := fun o => o = (Yfl g.events).map (idPl g.events))
  (fun m (z : List Int × Int) => ∃ k : Nat, z = ((Yfr d g.events.length k).map (idPl g.events), ((k + 1 : Nat) : Int)) ∧ k ≤ 3600 ∧ m = 3600 - k) (by
  rintro m z ⟨k, rfl, hk, rfl⟩
  simp only [Zej, List.length_map]
  by_cases hlt : (Yfr d g.events.length k).length < g.events.length
  ·
   right
   have hk2 : k < 3600 := by
    rcases Nat.lt_or_ge k 3600 with h | h
    ·
     exact h
    ·
     exfalso
     have h2 := (Yft hpos k).length_eq
     rw [List.filter_eq_self.2 (fun x hx => Wt (by have := (hb.in_ _ (Yfx (hin x hx))).2; omega)), Yfe] at h2
     omega
   have := hlay k
   rw [dlt hlt, Wu, inner _ _ (by simp; omega), Wb]
   simp only [Zeg]
   refine ⟨_, 3600 - (k + 1), rfl, by omega, k + 1, ?_, by omega, rfl⟩
   rw [Y4y (by omega) (by omega)]
   simp only [Yfr, List.map_append, Prod.mk.injEq, true_and]
   omega
  ·
   left
   rw [Wf (by omega), Wv]
   refine ⟨_, rfl, ?_⟩
   rw [Yfw (Yfv hpos (by omega)) hord]) big 3600 (([] : List Int), (1 : Int)) ⟨0, rfl, by omega, rfl⟩ (Ycr (by omega))
 rw [h1]; rfl


structure GOk (g : Y9k) : Prop where
 room : 1 ≤ g.room ∧ g.room ≤ 3
 fits : Fits g.events
 ev : ∀ e ∈ g.events, EvOk e ∧ e.room = g.room
 plen : g.parked.length ≤ 20
 pup : Up2 g.parked
 pev : ∀ e ∈ g.parked, EvOk e ∧ e.room = g.room
 apart : ∀ e ∈ g.events, hasE g.parked e.id = false
 lack : ∀ e ∈ g.parked, (e.prev.all fun p => hasE g.events p) = false
 deep : Deep g.events

structure Fine (g : Y9k) : Prop where
 elen : g.events.length ≤ 1048576
 plen : g.parked.length ≤ 1048576
 ep : ∀ e ∈ g.events, e.prev.length ≤ 1048576
 pp : ∀ e ∈ g.parked, e.prev.length ≤ 1048576

theorem Yfz {l : List Y9j} {room : Int} : Row l room ↔ (∀ e ∈ l, EvOk e ∧ e.room = room) ∧ Up2 l := by
 unfold Row
 constructor
 ·
  rintro ⟨h1, h2⟩
  exact ⟨fun e he => ⟨(Ydn e).2.1 (h1 e he).1, (h1 e he).2⟩, h2⟩
 ·
  rintro ⟨h1, h2⟩
  exact ⟨fun e he => ⟨(Ydn e).2.2 (h1 e he).1, (h1 e he).2⟩, h2⟩

def Yg0 (l : List Y9j) (e : Y9j) : Bool := e.prev.all fun p => hasE l p

theorem Yg1 (l : List Y9j) {c : Nat} (hb : Bd l c (Yed l)) : Yek (Yed l) = 0 ↔ Deep l := by
 unfold Yek Deep
 rw [List.countP_eq_zero]
 constructor
 ·
  intro h x hx
  have h1 := h x hx
  have h2 := (hb.in_ x hx).1
  simp at h1
  omega
 ·
  intro h x hx
  have := h x hx
  simp; omega

def Yg2 (g : Y9k) : Bool := (g.events.all fun e => Yg0 g.events e && !hasE g.parked e.id) && ((g.parked.all fun e => !Yg0 g.events e) && decide (Yek (Yed g.events) = 0))

theorem Zju {g : Y9k} (hg : Fine g) (he : Row g.events g.room) (hp : Row g.parked g.room) (h60 : g.events.length ≤ 60) : Z34 g false = some (Yg2 g) := by
 have hel := hg.elen
 have hpl := hg.plen
 simp only [Z34, Wv]
 rw [Ydc (l := g.events) (fun e => Yg0 g.events e && !hasE g.parked e.id) (.inl false) (.inr ()) (by omega) (fun i hi => by
  simp only [Z33]
  have := hg.ep _ (Wm hi)
  rw [dlt hi, Wu, Ycw hi, Wb, Ye1 _ _ (by omega) (by omega), Wb, Ydt _ _ (by omega), Wb, Ydu]
  simp only [Z32, Ycx hi (by omega : g.events.length < 9223372036854775807)]
  show cond (Yg0 g.events g.events[i]) _ _ = _
  cases Yg0 g.events g.events[i] with
  | false => rfl
  | true => cases hasE g.parked g.events[i].id <;> rfl) (by simp only [Z33]; rw [dnlt, Wv])]
 unfold Yg2
 cases h1 : g.events.all fun e => Yg0 g.events e && !hasE g.parked e.id with
 | false => rfl
 | true =>
  simp only [Wu, Wb, Bool.true_and, Z31]
  rw [Ydc (l := g.parked) (fun e => !Yg0 g.events e) (.inl false) (.inr ()) (by omega) (fun i hi => by
   simp only [Z30]
   have := hg.pp _ (Wm hi)
   rw [dlt hi, Wu, Ycw hi, Wb, Ye1 _ _ (by omega) (by omega), Wb, Ycx hi (by omega)]
   show cond (Yg0 g.events g.parked[i]) _ _ = _
   cases Yg0 g.events g.parked[i] <;> simp) (by simp only [Z30]; rw [dnlt, Wv])]
  cases h2 : g.parked.all fun e => !Yg0 g.events e with
  | false => rfl
  | true =>
   simp only [Wu, Wb, Bool.true_and, Z2z]
   have hf : Fits g.events := ⟨he.2, fun e hm p hpm => by
    have := List.all_eq_true.1 h1 e hm
    simp only [Bool.and_eq_true] at this
    exact List.all_eq_true.1 this.1 p hpm, h60, fun e hm => by have := hg.ep e hm; omega⟩
   obtain ⟨e0, hb⟩ := Yej hf
   rw [e0, Wb]
   have hdl := hb.len
   rw [Ydc (l := Yed g.events) (fun x => !decide (x = 0)) (.inl false) (.inr ()) (by omega) (fun i hi => by
    simp only [Z2y]
    rw [dlt hi, Wu, Ycw hi, Wb, beqd, Ycx hi (by omega)]
    cases decide ((Yed g.events)[i] = 0) <;> rfl) (by simp only [Z2y]; rw [dnlt, Wv])]
   have : ((Yed g.events).all fun x => !decide (x = 0)) = decide (Yek (Yed g.events) = 0) := by
    rw [Bool.eq_iff_iff]
    unfold Yek
    rw [decide_eq_true_eq, List.countP_eq_zero, List.all_eq_true]
    simp
   rw [this]
   cases decide (Yek (Yed g.events) = 0) <;> rfl
end Go.Proofs.YtomachnjepgpbaaGreat
namespace Go.Proofs.YtomachnjepgpbaaGreat
open Go Go.Abs

theorem Zjv {g : Y9k} (hg : Fine g) (he : Row g.events g.room) (h60 : g.events.length ≤ 60) : Z81 g false = some (Yg2 g) := by
 have hel := hg.elen
 have hpl := hg.plen
 simp only [Z81, Wv, Z7q, Z7o]
 rw [Ydf (Yda (l := g.events) (step := Z7n g.events g) (fun e => !Yg0 g.events e) (by omega) (fun i hi => by
  have := hg.ep _ (Wm hi)
  simp only [Z7n, Z7k]
  rw [dlt hi, Wu, Ycw hi, Wb, Yeb _ _ he.2 (by omega) (by omega), Wb, Wb, Ycx hi (by omega)]
  show cond (!Yg0 g.events g.events[i]) _ _ = _
  cases Yg0 g.events g.events[i] <;> rfl) (by simp only [Z7n]; rw [dnlt, Wv])) (fun _ => rfl) rfl]
 rw [Wb, Yde, Wb]
 simp only [Z7z, Z7x]
 rw [Ydf (Yda (l := g.parked) (step := Z7w g.parked g) (fun e => hasE g.events e.id || Yg0 g.events e) (by omega) (fun i hi => by
  have := hg.pp _ (Wm hi)
  simp only [Z7w, Z7t, Z7s]
  rw [dlt hi, Wu, Ycw hi, Wb, Yea _ _ he.2 (by omega), Wb, Yeb _ _ he.2 (by omega) (by omega), Ycx hi (by omega)]
  show (cond (hasE g.events g.parked[i].id) (some true) (some (Yg0 g.events g.parked[i]))).bind _ = _
  cases hasE g.events g.parked[i].id <;> cases Yg0 g.events g.parked[i] <;> rfl) (by simp only [Z7w]; rw [dnlt, Wv])) (fun _ => rfl) rfl]
 simp only [Wb, Yde]
 have hx : (g.events.all fun e => Yg0 g.events e && !hasE g.parked e.id) = ((g.events.all fun e => Yg0 g.events e) && g.events.all fun e => !hasE g.parked e.id) := by
  rw [Bool.eq_iff_iff]; simp [List.all_eq_true, forall_and]
 have hy : (g.events.all fun e => !hasE g.parked e.id) = (g.parked.all fun e => !hasE g.events e.id) := by
  rw [Bool.eq_iff_iff, List.all_eq_true, List.all_eq_true]
  constructor
  ·
   intro h e hm
   rw [Bool.not_eq_true', Bool.eq_false_iff]
   intro hh
   obtain ⟨e', h1, h2⟩ := Ydz.1 hh
   have := h e' h1
   rw [Bool.not_eq_true', Bool.eq_false_iff] at this
   exact this (Ydz.2 ⟨e, hm, h2.symm⟩)
  ·
   intro h e hm
   rw [Bool.not_eq_true', Bool.eq_false_iff]
   intro hh
   obtain ⟨e', h1, h2⟩ := Ydz.1 hh
   have := h e' h1
   rw [Bool.not_eq_true', Bool.eq_false_iff] at this
   exact this (Ydz.2 ⟨e, hm, h2.symm⟩)
 unfold Yg2
 rw [hx, hy]
 have h1 : (g.events.any fun e => !Yg0 g.events e) = !(g.events.all fun e => Yg0 g.events e) := by simp [List.all_eq_not_any_not]
 have h2 : (g.parked.any fun e => hasE g.events e.id || Yg0 g.events e) = !((g.parked.all fun e => !hasE g.events e.id) && g.parked.all fun e => !Yg0 g.events e) := by
  rw [Bool.eq_iff_iff]
  simp only [List.any_eq_true, Bool.or_eq_true, Bool.not_eq_true', Bool.and_eq_false_iff, List.all_eq_false, Bool.not_eq_false']
  constructor
  ·
   rintro ⟨x, hx, h | h⟩
   ·
    exact .inl ⟨x, hx, by simp [h]⟩
   ·
    exact .inr ⟨x, hx, by simp [h]⟩
  ·
   rintro (⟨x, hx, h⟩ | ⟨x, hx, h⟩)
   ·
    exact ⟨x, hx, .inl (by simpa using h)⟩
   ·
    exact ⟨x, hx, .inr (by simpa using h)⟩
 rw [h1, h2]
 cases hw : g.events.all fun e => Yg0 g.events e with
 | false => rfl
 | true =>
  have hf : Fits g.events := ⟨he.2, fun e hm p hpm => List.all_eq_true.1 (List.all_eq_true.1 hw e hm) p hpm, h60, fun e hm => by have := hg.ep e hm; omega⟩
  rw [Yeq hf]
  cases (g.parked.all fun e => !hasE g.events e.id) <;> cases (g.parked.all fun e => !Yg0 g.events e) <;> cases decide (Yek (Yed g.events) = 0) <;> rfl

theorem Yg3 {g : Y9k} (hg : Fine g) (he : Row g.events g.room) (hp : Row g.parked g.room) (h60 : g.events.length ≤ 60) (h20 : g.parked.length ≤ 20) (hr : 1 ≤ g.room ∧ g.room ≤ 3) : Yg2 g = true ↔ GOk g := by
 have h1 := Yfz.1 he
 have h2 := Yfz.1 hp
 unfold Yg2
 simp only [Bool.and_eq_true, decide_eq_true_eq, List.all_eq_true, Bool.not_eq_true']
 constructor
 ·
  rintro ⟨a, b, c⟩
  have hf : Fits g.events := ⟨he.2, fun e hm p hpm => List.all_eq_true.1 (a e hm).1 p hpm, h60, fun e hm => by have := hg.ep e hm; omega⟩
  exact ⟨hr, hf, h1.1, h20, h2.2, h2.1, fun e hm => (a e hm).2, fun e hm => b e hm, (Yg1 _ (Yej hf).2).1 c⟩
 ·
  intro h
  refine ⟨fun e hm => ⟨List.all_eq_true.2 fun p hp => h.fits.whole e hm p hp, h.apart e hm⟩, fun e hm => h.lack e hm, (Yg1 _ (Yej h.fits).2).2 h.deep⟩

theorem Yg4 {g : Y9k} (hg : Fine g) : ∃ b, Z35 g = some b ∧ Z82 g = some b ∧ (b = true ↔ GOk g) := by
 have hel := hg.elen
 have hpl := hg.plen
 have hno : ∀ x : Bool, x = true → Z34 g x = some false := fun x hx => by subst hx; rfl
 have hno2 : ∀ x : Bool, x = true → Z81 g x = some false := fun x hx => by subst hx; rfl
 unfold Z35 Z82
 rw [Yd0, Yd4, Wb, Wb, Ydr _ _ _ (by omega), Ydr _ _ _ (by omega), Yds g g.events (by omega) (fun e he => by have := hg.ep e he; omega), Yds g g.parked (by omega) (fun e he => by have := hg.pp e he; omega)]
 simp only [Wb]
 by_cases hr : 1 ≤ g.room ∧ g.room ≤ 3
 ·
  rw [Wt hr]
  simp only [Wu]
  by_cases h60 : g.events.length ≤ 60
  ·
   rw [Wt (by omega : (g.events.length : Int) ≤ 60), Wf (by omega : ¬ (g.events.length : Int) > 60)]
   simp only [Bool.true_and, Wv]
   by_cases he : Row g.events g.room
   ·
    rw [Wt he]
    simp only [Wu]
    by_cases h20 : g.parked.length ≤ 20
    ·
     rw [Wt (by omega : (g.parked.length : Int) ≤ 20), Wf (by omega : ¬ (g.parked.length : Int) > 20)]
     simp only [Bool.true_and, Wv]
     by_cases hp : Row g.parked g.room
     ·
      rw [Wt hp]
      exact ⟨Yg2 g, Zju hg he hp h60, Zjv hg he h60, Yg3 hg he hp h60 h20 hr⟩
     ·
      rw [Wf hp]
      exact ⟨false, hno _ rfl, hno2 _ rfl, (fun h => nomatch h), fun h => absurd (Yfz.2 ⟨h.pev, h.pup⟩) hp⟩
    ·
     rw [Wf (by omega : ¬ (g.parked.length : Int) ≤ 20), Wt (by omega : (g.parked.length : Int) > 20)]
     exact ⟨false, hno _ rfl, hno2 _ rfl, (fun h => nomatch h), fun h => absurd h.plen h20⟩
   ·
    rw [Wf he]
    refine ⟨false, hno _ rfl, ?_, (fun h => nomatch h), fun h => absurd (Yfz.2 ⟨h.ev, h.fits.up⟩) he⟩
    by_cases h20 : g.parked.length ≤ 20
    ·
     rw [Wf (by omega : ¬ (g.parked.length : Int) > 20)]; exact hno2 _ rfl
    ·
     rw [Wt (by omega : (g.parked.length : Int) > 20)]; exact hno2 _ rfl
  ·
   rw [Wf (by omega : ¬ (g.events.length : Int) ≤ 60), Wt (by omega : (g.events.length : Int) > 60)]
   exact ⟨false, hno _ rfl, hno2 _ rfl, (fun h => nomatch h), fun h => absurd h.fits.len h60⟩
 ·
  rw [Wf hr]
  exact ⟨false, hno _ rfl, hno2 _ rfl, (fun h => nomatch h), fun h => absurd h.room hr⟩


def ltK (a b : Y9m) : Prop := a.kind < b.kind ∨ a.kind = b.kind ∧ a.key < b.key
instance (a b : Y9m) : Decidable (ltK a b) := by unfold ltK; infer_instance
def eqK (a b : Y9m) : Prop := a.kind = b.kind ∧ a.key = b.key
instance (a b : Y9m) : Decidable (eqK a b) := by unfold eqK; infer_instance
abbrev UpS (s : List Y9m) : Prop := s.Pairwise ltK
def idS (s : List Y9m) (kind key : Int) : Int := match s.find? (fun x => decide (x.kind = kind ∧ x.key = key)) with | some x => x.id | none => 0
def putS : List Y9m → Y9m → List Y9m
 | [], x => [x]
 | e :: r, x => if ltK e x then e :: putS r x else if eqK e x then x :: r else x :: e :: r

theorem Yg5 (s : List Y9m) (kind key : Int) (hl : s.length < 9223372036854775807) : Zep s kind key = some (idS s kind key) := by
 unfold Zep
 rcases Ycs (step := Zeo s kind key) (n := s.length) (fun i => if h : i < s.length then cond (decide (s[i].kind = kind ∧ s[i].key = key)) (some (.inl s[i].id)) none else none) (.inr ()) hl (fun i hi => by
  simp only [Zeo, Zen, hi, dif_pos]
  rw [dlt hi, Wu, Ycw hi, Wb, Ycx hi hl, Wb, beqd, beqd]
  by_cases h1 : s[i].kind = kind <;> by_cases h2 : s[i].key = key <;> simp [h1, h2]) (by simp only [Zeo]; rw [dnlt, Wv]) with ⟨i, o, hi, ho, hb, hx⟩ | ⟨h, hx⟩
 ·
  rw [hx, Wb]
  simp only [hi, dif_pos] at ho
  unfold idS
  by_cases hp : s[i].kind = kind ∧ s[i].key = key
  ·
   rw [Wt hp] at ho
   cases ho
   have : s.find? (fun x => decide (x.kind = kind ∧ x.key = key)) = some s[i] := by
    rw [List.find?_eq_some_iff_getElem]
    refine ⟨Wt hp, i, hi, rfl, fun j hj => ?_⟩
    have hjl : j < s.length := by omega
    have := hb j hj
    simp only [hjl, dif_pos] at this
    by_cases hq : s[j].kind = kind ∧ s[j].key = key
    ·
     rw [Wt hq] at this; cases this
    ·
     rw [Wf hq]; rfl
   rw [this]
  ·
   rw [Wf hp] at ho; cases ho
 ·
  rw [hx, Wb]
  unfold idS
  have : s.find? (fun x => decide (x.kind = kind ∧ x.key = key)) = none := by
   rw [List.find?_eq_none]
   intro x hxm hx
   obtain ⟨i, hi, rfl⟩ := List.mem_iff_getElem.1 hxm
   have := h i hi
   simp only [hi, dif_pos, hx, Wu] at this
   cases this
  rw [this]; rfl

theorem Yg6 (a b : Y9m) : Zf2 a b = some (decide (ltK a b)) := by
 unfold Zf2 Zf1 ltK
 rw [beqd]
 by_cases h1 : a.kind < b.kind
 ·
  simp [h1]
 ·
  by_cases h2 : a.kind = b.kind
  ·
   simp [h2]
  ·
   simp [h1, h2]

theorem Yg7 {α : Type} {l : List α} {step : Int → Option (Int ⊕ Int)} (p : α → Bool) (hl : l.length < 9223372036854775807)
  (h1 : ∀ (i : Nat) (hi : i < l.length), step (i : Int) = some (cond (p l[i]) (.inl ((i + 1 : Nat) : Int)) (.inr (i : Int)))) (h2 : step (l.length : Int) = some (.inr (l.length : Int))) :
  iter step big 0 = some (((l.takeWhile p).length : Nat) : Int) := by
 refine Y52 (fun m (x : Int) => ∃ i : Nat, x = i ∧ i ≤ l.length ∧ (l.takeWhile p).length = i + ((l.drop i).takeWhile p).length ∧ m = l.length - i) ?_ (m := l.length) ⟨0, rfl, by omega, by simp, by omega⟩ (Ycr (by omega))
 rintro m x ⟨i, rfl, hi, ht, rfl⟩
 by_cases hil : i < l.length
 ·
  rw [h1 i hil]
  rw [List.drop_eq_getElem_cons hil] at ht
  cases hp : p l[i] with
  | true =>
   right
   rw [List.takeWhile_cons_of_pos hp] at ht
   exact ⟨_, l.length - (i + 1), rfl, by omega, i + 1, rfl, by omega, by simp at ht ⊢; omega, rfl⟩
  | false =>
   left
   rw [List.takeWhile_cons_of_neg (by simp [hp])] at ht
   simp at ht
   rw [ht]; rfl
 ·
  obtain rfl : i = l.length := by omega
  left
  rw [List.drop_length] at ht
  simp at ht
  rw [h2, ht]

theorem Yg8 {α : Type} (p : α → Bool) (l : List α) : l.take (l.takeWhile p).length = l.takeWhile p ∧ l.drop (l.takeWhile p).length = l.dropWhile p := by
 have h : l.takeWhile p ++ l.dropWhile p = l := List.takeWhile_append_dropWhile
 constructor
 ·
  conv => lhs; arg 2; rw [← h]
  rw [List.take_left]
 ·
  conv => lhs; arg 2; rw [← h]
  rw [List.drop_left]

theorem Yg9 {n : Nat} (h : n < 1000000000) : chk (decide (n * 24 ≤ 140737488355328)) = some () := Y4z (Wt (by omega))
theorem chk8 {n : Nat} (h : n < 1000000000) : chk (decide (n * 8 ≤ 140737488355328)) = some () := Y4z (Wt (by omega))

theorem Yga (s : List Y9m) (x : Y9m) (hl : s.length < 100000000) : Zez s x = some (s.filter fun e => !decide (eqK e x)) := by
 unfold Zez
 have := Ydd (l := s) (step := fun z : List Y9m × Int => Zey s x z.1 z.2) (fun q j => (q, j)) (fun q => q) (fun q e => if eqK e x then q else q ++ [e]) (fun i q => q.length ≤ i) (by omega) (fun i q hi hq => by
  refine ⟨?_, by split <;> first | omega | (rw [List.length_append, List.length_singleton]; omega)⟩
  simp only [Zey, Zex, Zew]
  rw [dlt hi, Wu, Ycw hi, Wb, Wb, Ycx hi (by omega), bned, bned, Yg9 (by simp; omega), Wb]
  unfold eqK
  by_cases h1 : s[i].kind = x.kind <;> by_cases h2 : s[i].key = x.key <;> simp [h1, h2])
  (fun q _ => by simp only [Zey]; rw [dnlt, Wv]) (s := []) (by simp)
 rw [this.1, Wb]
 simp only [Zev]
 congr 1
 have : ∀ (r q : List Y9m), r.foldl (fun q e => if eqK e x then q else q ++ [e]) q = q ++ r.filter fun e => !decide (eqK e x) := by
  intro r
  induction r with
  | nil => intro q; simp
  | cons e r ih =>
   intro q
   rw [List.foldl_cons, ih]
   by_cases h : eqK e x
   ·
    rw [if_pos h, List.filter_cons_of_neg (by simp [h])]
   ·
    rw [if_neg h, List.filter_cons_of_pos (by simp [h])]; simp
 rw [this]; simp

theorem Ygb {x : Y9m} : ∀ {s : List Y9m}, UpS s → putS s x = ((s.filter fun e => !decide (eqK e x)).takeWhile fun e => decide (ltK e x)) ++ x :: ((s.filter fun e => !decide (eqK e x)).dropWhile fun e => decide (ltK e x))
 | [], _ => rfl
 | e :: r, h => by
  obtain ⟨h1, h2⟩ := List.pairwise_cons.1 h
  have hgt : ∀ y : Y9m, ¬ ltK e x → y ∈ r → ltK x y := fun y hn hy => by
   have := h1 y hy
   unfold ltK at *; omega
  have hfil : ¬ ltK e x → r.filter (fun e => !decide (eqK e x)) = r := fun hn => List.filter_eq_self.2 fun y hy => by
   have := hgt y hn hy
   rw [Bool.not_eq_true', decide_eq_false_iff_not]
   unfold ltK at this; unfold eqK; omega
  have htw : ¬ ltK e x → r.takeWhile (fun e => decide (ltK e x)) = [] ∧ r.dropWhile (fun e => decide (ltK e x)) = r := fun hn => by
   cases r with
   | nil => exact ⟨rfl, rfl⟩
   | cons y r =>
    have : ¬ ltK y x := by have := hgt y hn (by simp); unfold ltK at *; omega
    rw [List.takeWhile_cons_of_neg (by simp [this]), List.dropWhile_cons_of_neg (by simp [this])]
    exact ⟨rfl, rfl⟩
  unfold putS
  by_cases hlt : ltK e x
  ·
   have hne : ¬ eqK e x := by unfold ltK at hlt; unfold eqK; omega
   rw [if_pos hlt, List.filter_cons_of_pos (by simp [hne]), List.takeWhile_cons_of_pos (by simp [hlt]), List.dropWhile_cons_of_pos (by simp [hlt]), Ygb h2]
   rfl
  ·
   rw [if_neg hlt]
   by_cases he : eqK e x
   ·
    rw [if_pos he, List.filter_cons_of_neg (by simp [he]), hfil hlt, (htw hlt).1, (htw hlt).2]; rfl
   ·
    rw [if_neg he, List.filter_cons_of_pos (by simp [he]), List.takeWhile_cons_of_neg (by simp [hlt]), List.dropWhile_cons_of_neg (by simp [hlt]), hfil hlt]; rfl

theorem Ygc {s : List Y9m} (hs : UpS s) (x : Y9m) (hl : s.length < 1000000) : Zf7 s x = some (putS s x) := by
 unfold Zf7
 rw [Yga _ _ (by omega), Wb, Ygb hs]
 have hfl : (s.filter fun e => !decide (eqK e x)).length ≤ s.length := List.length_filter_le _ _
 generalize s.filter (fun e => !decide (eqK e x)) = l at hfl
 rw [Yg7 (l := l) (fun e => decide (ltK e x)) (by omega) (fun i hi => by
  simp only [Zf6, Zf5]
  rw [dlt hi, Wu, Ycw hi, Wb, Yg6, Wb, Ycx hi (by omega)]
  cases decide (ltK l[i] x) <;> rfl) (by simp only [Zf6, Zf5]; rw [dnlt, Wv, Wv]), Wb]
 simp only [Zf4]
 have hk : (l.takeWhile fun e => decide (ltK e x)).length ≤ l.length := (List.takeWhile_prefix _).length_le
 obtain ⟨e1, e2⟩ := Yg8 (fun e => decide (ltK e x)) l
 rw [Y65 hk, Wb, e1, Yg9 (by simp; omega), Wb, Yg9 (by simp; omega), Wb, Y66 hk, Wb, e2]
 have hd : (l.dropWhile fun e => decide (ltK e x)).length ≤ l.length := (List.dropWhile_suffix _).length_le
 rw [Yg9 (by simp; omega), Wb]
 simp
end Go.Proofs.YtomachnjepgpbaaGreat
namespace Go.Proofs.YtomachnjepgpbaaGreat
open Go Go.Abs

theorem Ygd (l : List Int) (hl : l.length < 9223372036854775807) : Za2 l = some ((l.find? fun x => !decide (x = 0)).getD 0) := by
 unfold Za2
 rcases Ycs (step := Za1 l) (n := l.length) (fun i => if h : i < l.length then cond (!decide (l[i] = 0)) (some (.inl l[i])) none else none) (.inr ()) hl (fun i hi => by
  simp only [Za1, hi, dif_pos]
  rw [dlt hi, Wu, Ycw hi, Wb, Ycx hi hl, bned]
  cases decide (l[i] = 0) <;> rfl) (by simp only [Za1]; rw [dnlt, Wv]) with ⟨i, o, hi, ho, hb, hx⟩ | ⟨h, hx⟩
 ·
  rw [hx, Wb]
  simp only [hi, dif_pos] at ho
  cases hp : (!decide (l[i] = 0)) with
  | false => rw [hp] at ho; cases ho
  | true =>
   rw [hp] at ho; cases ho
   have : l.find? (fun x => !decide (x = 0)) = some l[i] := by
    rw [List.find?_eq_some_iff_getElem]
    refine ⟨hp, i, hi, rfl, fun j hj => ?_⟩
    have hjl : j < l.length := by omega
    have := hb j hj
    simp only [hjl, dif_pos] at this
    cases hq : (!decide (l[j] = 0)) with
    | true => rw [hq] at this; cases this
    | false => rfl
   rw [this]; rfl
 ·
  rw [hx, Wb]
  have : l.find? (fun x => !decide (x = 0)) = none := by
   rw [List.find?_eq_none]
   intro x hxm hx
   obtain ⟨i, hi, rfl⟩ := List.mem_iff_getElem.1 hxm
   have := h i hi
   simp only [hi, dif_pos, hx, Wu] at this
   cases this
  rw [this]; rfl

def cmpE (a b : Y9m) : Int := ([cmpI a.kind b.kind, cmpI a.key b.key].find? fun x => !decide (x = 0)).getD 0
theorem Yge (a b : Y9m) : Za4 a b = some (cmpE a b) := by
 unfold Za4
 rw [Ye5, Wb, Ye5, Wb, Ygd _ (by simp)]; rfl
theorem Ygf (a b : Int) : (a < b ∧ cmpI a b = -1) ∨ (a = b ∧ cmpI a b = 0) ∨ (b < a ∧ cmpI a b = 1) := by
 unfold cmpI
 split
 ·
  omega
 ·
  split <;> omega
theorem or2 (x y : Int) : ([x, y].find? fun z => !decide (z = 0)).getD 0 = if x = 0 then y else x := by
 by_cases h : x = 0
 ·
  subst h
  by_cases h2 : y = 0
  ·
   subst h2; rfl
  ·
   rw [List.find?_cons_of_neg (by simp), List.find?_cons_of_pos (by simp [h2]), if_pos rfl]; rfl
 ·
  rw [List.find?_cons_of_pos (by simp [h]), if_neg h]; rfl
theorem Ygg (a b : Y9m) : (ltK a b ∧ cmpE a b < 0) ∨ (eqK a b ∧ cmpE a b = 0) ∨ (ltK b a ∧ cmpE a b > 0) := by
 unfold cmpE ltK eqK
 rw [or2]
 rcases Ygf a.kind b.kind with ⟨h1, h2⟩ | ⟨h1, h2⟩ | ⟨h1, h2⟩
 ·
  rw [h2, if_neg (by omega)]; omega
 ·
  rw [if_pos h2]
  rcases Ygf a.key b.key with ⟨h3, h4⟩ | ⟨h3, h4⟩ | ⟨h3, h4⟩ <;> omega
 ·
  rw [h2, if_neg (by omega)]; omega
theorem Ygh (a b : Y9m) : decide (cmpE a b < 0) = decide (ltK a b) := by
 rcases Ygg a b with ⟨h1, h2⟩ | ⟨h1, h2⟩ | ⟨h1, h2⟩
 ·
  rw [Wt h1, Wt h2]
 ·
  rw [Wf (by omega), Wf (by unfold ltK; unfold eqK at h1; omega)]
 ·
  rw [Wf (by omega), Wf (by unfold ltK at *; omega)]
theorem Ygi (a b : Y9m) : (cmpE a b == 0) = decide (eqK a b) := by
 rw [beqd]
 rcases Ygg a b with ⟨h1, h2⟩ | ⟨h1, h2⟩ | ⟨h1, h2⟩
 ·
  rw [Wf (by omega), Wf (by unfold ltK at h1; unfold eqK; omega)]
 ·
  rw [Wt h1, Wt h2]
 ·
  rw [Wf (by omega), Wf (by unfold ltK at h1; unfold eqK; omega)]

def cutS (s : List Y9m) (x : Y9m) : Nat := s.countP fun e => decide (ltK e x)
def hasK (s : List Y9m) (x : Y9m) : Bool := s.any fun e => decide (eqK e x)
theorem UpS.cut {s : List Y9m} (h : UpS s) (x : Y9m) {i : Nat} (hi : i < s.length) : ltK s[i] x ↔ i < cutS s x := by
 have := Ye2 (p := fun e : Y9m => decide (ltK e x)) (l := s) (h.imp fun {a b} hab hb => by simp at hb ⊢; unfold ltK at *; omega) i hi
 rw [decide_eq_true_eq] at this
 exact this
theorem Ygj (s : List Y9m) (x : Y9m) : cutS s x ≤ s.length := List.countP_le_length
theorem UpS.lt {s : List Y9m} (h : UpS s) {i j : Nat} (hj : j < s.length) (hij : i < j) : ltK (s[i]'(Nat.lt_trans hij hj)) s[j] := List.pairwise_iff_getElem.1 h i j _ hj hij
theorem UpS.has_cut {s : List Y9m} (h : UpS s) (x : Y9m) : hasK s x = true ↔ ∃ hc : cutS s x < s.length, eqK s[cutS s x] x := by
 unfold hasK
 rw [List.any_eq_true]
 constructor
 ·
  rintro ⟨e, he, h1⟩
  rw [decide_eq_true_eq] at h1
  obtain ⟨k, hk, rfl⟩ := List.mem_iff_getElem.1 he
  have h3 := h.cut x hk
  have h6 : ¬ ltK s[k] x := by unfold ltK; unfold eqK at h1; omega
  have h7 : ¬ k < cutS s x := fun h8 => h6 (h3.2 h8)
  have hc : cutS s x < s.length := by omega
  refine ⟨hc, ?_⟩
  have h4 := h.cut x hc
  rcases Nat.lt_or_ge (cutS s x) k with h5 | h5
  ·
   have h8 := h.lt hk h5
   have : ltK s[cutS s x] x := by unfold ltK at h8 ⊢; unfold eqK at h1; omega
   have := h4.1 this; omega
  ·
   obtain rfl : k = cutS s x := by omega
   exact h1
 ·
  rintro ⟨hc, h1⟩
  exact ⟨_, Wm hc, Wt h1⟩

theorem Ygk {s : List Y9m} (x : Y9m) (h : UpS s) (hl : s.length < 4611686018427387904) : Zab s x = some ((cutS s x : Int), hasK s x) := by
 unfold Zab Za9
 rw [Ye4 (n := s.length) (k := cutS s x) hl (Ygj _ _) ?_ ?_]
 ·
  rw [Wb]
  unfold Za7 Za6
  by_cases hk : cutS s x < s.length
  ·
   rw [dlt hk, Wu, Ycw hk, Wb, Yge, Wb, Ygi, Wb]
   simp only [Option.some.injEq, Prod.mk.injEq, true_and]
   by_cases hh : hasK s x = true
   ·
    rw [hh, Wt ((h.has_cut x).1 hh).2]
   ·
    rw [Bool.eq_false_iff.2 hh, Wf (fun h1 => hh ((h.has_cut x).2 ⟨hk, h1⟩))]
  ·
   have : hasK s x = false := Bool.eq_false_iff.2 fun hh => hk ((h.has_cut x).1 hh).1
   rw [Wf (by omega), Wv, this]; rfl
 ·
  intro i j hij hj
  simp only [Za8]
  have hm : (i + j) / 2 < s.length := by omega
  rw [dlt hij, Wu, Ye3 (by omega), Ycw hm, Wb, Yge, Wb, Ygh, Ycx hm (by omega)]
  have := h.cut x hm
  by_cases hlt : ltK s[(i + j) / 2] x
  ·
   rw [Wt hlt, if_pos (this.1 hlt)]; rfl
  ·
   rw [Wf hlt, if_neg (fun h1 => hlt (this.2 h1))]; rfl
 ·
  intro i hi
  simp only [Za8]
  rw [dnlt, Wv]

theorem Ygl {s : List Y9m} (kind key : Int) (h : UpS s) (hl : s.length < 4611686018427387904) : Zad s kind key = some (idS s kind key) := by
 unfold Zad
 rw [Ygk _ h hl, Wb]
 simp only
 unfold idS
 cases hh : hasK s (Y9m.mk kind key 0) with
 | false =>
  have : s.find? (fun x => decide (x.kind = kind ∧ x.key = key)) = none := by
   rw [List.find?_eq_none]
   intro x hx h1
   exact List.any_eq_false.1 hh x hx h1
  rw [this]; rfl
 | true =>
  obtain ⟨hc, h1⟩ := (h.has_cut _).1 hh
  have : s.find? (fun x => decide (x.kind = kind ∧ x.key = key)) = some s[cutS s (Y9m.mk kind key 0)] := by
   rw [List.find?_eq_some_iff_getElem]
   refine ⟨Wt h1, _, hc, rfl, fun j hj => ?_⟩
   have := h.lt hc hj
   rw [Bool.not_eq_true', decide_eq_false_iff_not]
   unfold ltK at this; unfold eqK at h1
   simp only at h1
   omega
  rw [this, Wu, Ycw hc]; rfl

theorem Ygm {x : Y9m} : ∀ {s : List Y9m}, UpS s → putS s x = if hasK s x = true then s.set (cutS s x) x else s.take (cutS s x) ++ [x] ++ s.drop (cutS s x)
 | [], _ => rfl
 | e :: r, h => by
  obtain ⟨h1, h2⟩ := List.pairwise_cons.1 h
  unfold putS
  by_cases hlt : ltK e x
  ·
   have hne : ¬ eqK e x := by unfold ltK at hlt; unfold eqK; omega
   have e1 : cutS (e :: r) x = cutS r x + 1 := by unfold cutS; rw [List.countP_cons_of_pos (by simp [hlt])]
   have e2 : hasK (e :: r) x = hasK r x := by unfold hasK; simp [hne]
   rw [if_pos hlt, Ygm h2, e1, e2]
   split <;> simp
  ·
   have hgt : ∀ y ∈ r, ltK x y ∨ (eqK e x ∧ ltK x y) := fun y hy => by
    have := h1 y hy
    unfold ltK eqK at *; omega
   have e1 : cutS (e :: r) x = 0 := by
    unfold cutS
    rw [List.countP_eq_zero]
    intro y hy
    rw [decide_eq_true_eq]
    rcases List.mem_cons.1 hy with rfl | hy
    ·
     exact hlt
    ·
     have := hgt y hy; unfold ltK eqK at *; omega
   rw [if_neg hlt, e1]
   by_cases he : eqK e x
   ·
    have e2 : hasK (e :: r) x = true := by unfold hasK; simp [he]
    rw [if_pos he, if_pos e2]; rfl
   ·
    have e2 : hasK (e :: r) x = false := by
     unfold hasK
     rw [List.any_eq_false]
     intro y hy
     rw [decide_eq_true_eq]
     rcases List.mem_cons.1 hy with rfl | hy
     ·
      exact he
     ·
      have := hgt y hy; unfold ltK eqK at *; omega
    rw [if_neg he, e2]; rfl

theorem Ygn {s : List Y9m} (hs : UpS s) (x : Y9m) (hx : x.id ≠ 0) (hl : s.length < 1000000) : Zbf s x = some (putS s x) := by
 unfold Zbf
 have : Zb5 s = some s := by unfold Zb5; rw [Yg9 (by omega)]; rfl
 rw [this, Wb, Ygk _ hs (by omega), Wb, beqd, Wf hx, Wv]
 simp only [Zbe]
 rw [Wv, beqd, Wf hx, Wv, Ygm hs]
 by_cases hh : hasK s x = true
 ·
  obtain ⟨hc, _⟩ := (hs.has_cut _).1 hh
  rw [hh, Wu, Ycw hc, Wb, if_pos rfl]; rfl
 ·
  rw [Bool.eq_false_iff.2 hh, Wv, if_neg (by simp)]
  unfold Zbb insI
  have := Ygj s x
  rw [if_pos ⟨by omega, by omega, by simp, by simp; omega⟩]; rfl


structure StOk (l : List Y9j) (s : List Y9m) : Prop where
 up : UpS s
 ev : ∀ x ∈ s, ∃ e, evAt l x.id = some e ∧ e.kind = x.kind ∧ e.key = x.key

def Ids1 (l : List Y9j) : Prop := ∀ e ∈ l, 1 ≤ e.id
theorem GOk.ids {g : Y9k} (h : GOk g) : Ids1 g.events := fun e he => (h.ev e he).1.id.1

theorem Ygo (s : List Y9m) (kind key : Int) : (idS s kind key = 0 ∧ ∀ x ∈ s, ¬ (x.kind = kind ∧ x.key = key)) ∨ ∃ x ∈ s, x.kind = kind ∧ x.key = key ∧ idS s kind key = x.id := by
 unfold idS
 cases hf : s.find? (fun x => decide (x.kind = kind ∧ x.key = key)) with
 | none =>
  left
  refine ⟨rfl, fun x hx h => ?_⟩
  have := List.find?_eq_none.1 hf x hx
  simp [h] at this
 | some x =>
  right
  have h1 := List.mem_of_find?_eq_some hf
  have h2 := List.find?_some hf
  rw [decide_eq_true_eq] at h2
  exact ⟨x, h1, h2.1, h2.2, rfl⟩

def cur (l : List Y9j) (s : List Y9m) (kind key : Int) : Option Y9j := evAt l (idS s kind key)

theorem Ygp (l : List Y9j) (id : Int) : hasE l id = (evAt l id).isSome := by
 cases h : hasE l id with
 | false => rw [Ydx h]; rfl
 | true => obtain ⟨k, hk, _, _, h3⟩ := Ydw h; rw [h3]; rfl

theorem no0 {l : List Y9j} (h : Ids1 l) {id : Int} (hi : id ≤ 0) : evAt l id = none := by
 cases he : evAt l id with
 | none => rfl
 | some e => have := Ye0 he; have := h e this.1; omega

theorem Ygq {l : List Y9j} {s : List Y9m} (hl : Ids1 l) (hs : StOk l s) (kind key : Int) : (decide (idS s kind key > 0) = (cur l s kind key).isSome) ∧ (decide (idS s kind key = 0) = (cur l s kind key).isNone) ∧ 0 ≤ idS s kind key := by
 unfold cur
 rcases Ygo s kind key with ⟨h0, _⟩ | ⟨x, hx, _, _, h⟩
 ·
  rw [h0, no0 hl (Int.le_refl 0)]; exact ⟨rfl, rfl, Int.le_refl 0⟩
 ·
  rw [h]
  obtain ⟨e, he, _⟩ := hs.ev x hx
  have h1 := Ye0 he
  have h2 := hl e h1.1
  rw [he, Wt (by omega), Wf (by omega)]
  exact ⟨rfl, rfl, by omega⟩

theorem Ygr {g : Y9k} {s : List Y9m} (hu : Up2 g.events) (hlen : g.events.length < 1000000) (hs : UpS s) (hsl : s.length < 1000000) (kind key : Int) : Zaf g s kind key = some ((cur g.events s kind key).getD zEv, (cur g.events s kind key).isSome) := by
 unfold Zaf
 rw [Ygl _ _ hs (by omega), Wb, c_at _ _ hu (by omega), Wb, Ygp]; rfl

theorem Ygs {l : List Y9j} {id : Int} {e : Y9j} (h : evAt l id = some e) : getI l (plc l id) = some e ∧ 0 ≤ plc l id := by
 have : hasE l id = true := by rw [Ygp, h]; rfl
 obtain ⟨k, hk, h1, _, h3⟩ := Ydw this
 rw [h1, Ycw hk]
 rw [h] at h3
 exact ⟨h3.symm, by omega⟩

theorem Ygt {g : Y9k} {s : List Y9m} (hl : Ids1 g.events) (hlen : g.events.length < 1000000) (hs : StOk g.events s) (hsl : s.length < 1000000) (kind key : Int) : Zff g s kind key = some ((cur g.events s kind key).getD zEv) := by
 unfold Zff
 rw [Yg5 _ _ _ (by omega), Wb, beqd, (Ygq hl hs kind key).2.1]
 cases hc : cur g.events s kind key with
 | none => rfl
 | some e =>
  simp only [Option.isNone_some, Wv, Option.getD_some]
  unfold cur at hc
  rw [Ydt _ _ (by omega), Wb, (Ygs hc).1]; rfl

def mbr (l : List Y9j) (s : List Y9m) (user : Int) : Int := ((cur l s 2 user).getD zEv).n
def lvl (l : List Y9j) (s : List Y9m) (user : Int) : Int := match cur l s 3 user with
 | some e => e.n
 | none => if ((cur l s 1 0).getD zEv).author = user then 100 else 0

structure Sts (g : Y9k) (s : List Y9m) : Prop where
 up : Up2 g.events
 len : g.events.length < 1000000
 ids : Ids1 g.events
 ok : StOk g.events s
 sl : s.length < 1000000

section
variable {g : Y9k} {s : List Y9m} (h : Sts g s)
include h
theorem Ygu (user : Int) : Zah g s user = some (mbr g.events s user) := by
 unfold Zah; rw [Ygr h.up h.len h.ok.up h.sl]; rfl
theorem Ygv (user : Int) : Zfh g s user = some (mbr g.events s user) := by
 unfold Zfh; rw [Ygt h.ids h.len h.ok h.sl]; rfl
theorem Ygw {user : Int} (hu : user ≠ 0) : Zak g s user = some (lvl g.events s user) := by
 unfold Zak lvl
 rw [Ygr h.up h.len h.ok.up h.sl, Wb, Ygr h.up h.len h.ok.up h.sl]
 cases cur g.events s 3 user with
 | some e => rfl
 | none =>
  simp only [Option.isSome_none, Wv, Wb, Zaj]
  cases cur g.events s 1 0 with
  | none =>
   have : ¬ zEv.author = user := fun h => hu h.symm
   simp [this]
  | some e =>
   simp only [Option.isSome_some, Wu, Option.getD_some, beqd]
   by_cases h1 : e.author = user <;> simp [h1]
theorem Ygx (user : Int) : Zfj g s user = some (lvl g.events s user) := by
 unfold Zfj lvl
 rw [Yg5 _ _ _ (by have := h.sl; omega), Wb, (Ygq h.ids h.ok 3 user).1, Ygt h.ids h.len h.ok h.sl, Ygt h.ids h.len h.ok h.sl]
 cases cur g.events s 3 user with
 | some e => rfl
 | none =>
  simp only [Option.isSome_none, Wv, Wb, beqd]
  by_cases h1 : ((cur g.events s 1 0).getD zEv).author = user <;> simp [h1]
end

theorem Ygy (b : Bool) : Zam b = some (cond b 11 0) := by cases b <;> rfl
theorem Ygz (b : Bool) : Zfl b = some (cond b 11 0) := by cases b <;> rfl

def alw (g : Y9k) (s : List Y9m) (e : Y9j) : Int := (Zg1 g s e).getD 0

theorem Yh0 {g : Y9k} {s : List Y9m} (h : Sts g s) (e : Y9j) (m : Int) : ∃ r, Zfq g s e m = some r ∧ Zaq g s e m = some r := by
 unfold Zfq Zaq
 simp only [Zfp, Zap, Zfo, Zfn, Zao, Ygt h.ids h.len h.ok h.sl, Ygr h.up h.len h.ok.up h.sl, Ygy, Ygz, Wb, beqd, bned]
 by_cases h1 : m = 1 <;> by_cases h2 : e.n = 1 <;> by_cases h3 : m = 3 <;> by_cases h4 : m = 4 <;> by_cases h5 : e.n = 2 <;> by_cases h6 : ((cur g.events s 5 0).getD zEv).n = 1 <;> by_cases h7 : ((cur g.events s 1 0).getD zEv).author = e.author <;> simp [h1, h2, h3, h4, h5, h6, h7]

theorem Yh1 {g : Y9k} {s : List Y9m} (h : Sts g s) (e : Y9j) (p : Int) (hk : e.key ≠ 0) : ∃ r, Zfv g s e p = some r ∧ Zaw g s e p = some r := by
 unfold Zfv Zaw
 simp only [Zav, Zau, Zat, Zas, Zfu, Zft, Zfs, Ygv h, Ygu h, Ygx h, Ygw h hk, Ygy, Ygz, Wb, beqd, bned]
 generalize mbr g.events s e.key = t
 generalize lvl g.events s e.key = q
 by_cases h1 : p < 50 <;> by_cases h2 : p ≤ q <;> by_cases h3 : e.n = 4 <;> by_cases h4 : e.n = 2 <;> by_cases h5 : e.n = 3 <;> by_cases h6 : t = 1 <;> by_cases h7 : t = 3 <;> by_cases h8 : t = 0 <;> by_cases h9 : t = 2 <;> simp [h1, h2, h3, h4, h5, h6, h7, h8, h9]
end Go.Proofs.YtomachnjepgpbaaGreat
namespace Go.Proofs.YtomachnjepgpbaaGreat
open Go Go.Abs

theorem Yh2 {g : Y9k} {s : List Y9m} (h : Sts g s) {e : Y9j} (ha : e.author ≠ 0) (hk : e.kind = 2 ∨ e.kind = 3 → e.key ≠ 0) : ∃ r, Zg1 g s e = some r ∧ Zb3 g s e = some r := by
 unfold Zg1 Zb3
 simp only [Zb2, Zb1, Zb0, Zaz, Zay, Zg0, Zfz, Zfy, Zfx]
 rw [Yg5 _ _ _ (by have := h.sl; omega), Wb, (Ygq h.ids h.ok 1 0).1, Ygr h.up h.len h.ok.up h.sl, Wb, Ygu h, Wb, Ygw h ha, Wb, Ygv h, Ygx h]
 simp only [Wb, beqd, bned, Ygy, Ygz]
 generalize hm : mbr g.events s e.author = m
 generalize hp : lvl g.events s e.author = p
 by_cases k1 : e.kind = 1
 ·
  cases (cur g.events s 1 0).isSome <;> simp [k1]
 ·
  cases (cur g.events s 1 0).isSome with
  | false => simp [k1]
  | true =>
   by_cases k2 : e.kind = 2
   ·
    obtain ⟨r1, a1, a2⟩ := Yh0 h e m
    obtain ⟨r2, b1, b2⟩ := Yh1 h e p (hk (.inl k2))
    by_cases q1 : e.key = e.author
    ·
     refine ⟨r1, ?_, ?_⟩ <;> simp [k2, q1, a1, a2]
    ·
     by_cases q2 : m = 1
     ·
      refine ⟨r2, ?_, ?_⟩ <;> simp [k2, q1, q2, b1, b2]
     ·
      simp [k2, q1, q2]
   ·
    by_cases q2 : m = 1
    ·
     by_cases k3 : e.kind = 3
     ·
      have e1 := Ygw h (hk (.inr k3))
      have e2 := Ygx h e.key
      by_cases q3 : p < 50 <;> by_cases q4 : e.n > p <;> by_cases q5 : e.key = e.author <;> simp [k3, q2, q3, q4, q5, e1, e2]
      all_goals (subst q5; simp_all)
     ·
      by_cases k4 : e.kind = 4
      ·
       simp [k4, q2]
      ·
       by_cases k5 : e.kind = 5
       ·
        simp [k5, q2]
       ·
        by_cases k6 : e.kind = 6
        ·
         simp [k6, q2]
        ·
         by_cases k8 : e.kind = 8
         ·
          rw [c_at _ _ h.up (by have := h.len; omega), Ydt _ _ (by have := h.len; omega), Ygp]
          simp only [Wb, Ydv, Ygp]
          cases he : evAt g.events e.key with
          | none => simp [k8, q2]
          | some e' =>
           have := (Ygs he).1
           by_cases q3 : p < 50 <;> simp [k8, q2, q3, this]
         ·
          simp [k1, k2, k3, k4, k5, k6, k8, q2]
    ·
     simp [k1, k2, q2]

def Ask (e : Y9j) : Prop := e.author ≠ 0 ∧ (e.kind = 2 ∨ e.kind = 3 → e.key ≠ 0)

theorem Yh3 {g : Y9k} {s : List Y9m} (h : Sts g s) {e : Y9j} (ha : Ask e) : Zg1 g s e = some (alw g s e) ∧ Zb3 g s e = some (alw g s e) := by
 obtain ⟨r, h1, h2⟩ := Yh2 h ha.1 ha.2
 unfold alw
 rw [h1, h2]
 exact ⟨rfl, rfl⟩

theorem EvOk.ask {e : Y9j} (h : EvOk e) : Ask e := by
 refine ⟨by have := h.author; omega, fun hk => ?_⟩
 have hb := h.body
 unfold Ydk Z28 Z20 Z21 Z22 Z23 Z24 Z25 Z26 Z27 at hb
 simp only [Yd2, Yd0, Yd1, Wb, beqd] at hb
 rcases hk with hk | hk
 ·
  rw [hk] at hb
  intro h0
  rw [h0] at hb
  simp at hb
 ·
  rw [hk] at hb
  intro h0
  rw [h0] at hb
  simp at hb


abbrev UpI (l : List Int) : Prop := l.Pairwise (· < ·)
def setI : List Int → Int → List Int
 | [], n => [n]
 | a :: r, n => if a < n then a :: setI r n else if a = n then a :: r else n :: a :: r

theorem Yh4 {n : Int} : ∀ {l : List Int}, UpI l → setI l n = if (l.dropWhile fun a => decide (a < n)).head? = some n then l else (l.takeWhile fun a => decide (a < n)) ++ n :: (l.dropWhile fun a => decide (a < n))
 | [], _ => rfl
 | a :: r, h => by
  obtain ⟨h1, h2⟩ := List.pairwise_cons.1 h
  unfold setI
  by_cases hlt : a < n
  ·
   rw [if_pos hlt, List.takeWhile_cons_of_pos (by simp [hlt]), List.dropWhile_cons_of_pos (by simp [hlt]), Yh4 h2]
   split <;> rfl
  ·
   rw [if_neg hlt, List.takeWhile_cons_of_neg (by simp [hlt]), List.dropWhile_cons_of_neg (by simp [hlt])]
   by_cases he : a = n
   ·
    subst he; simp
   ·
    rw [if_neg he, if_neg (by simp [he])]; rfl

theorem Yh5 {l : List Int} (hl : UpI l) (n : Int) (hb : l.length < 1000000) : Zx l n = some (setI l n) := by
 unfold Zx
 rw [Yg7 (l := l) (fun a => decide (a < n)) (by omega) (fun i hi => by
  simp only [Zw, Zv]
  rw [dlt hi, Wu, Ycw hi, Wb, Ycx hi (by omega)]
  cases decide (l[i] < n) <;> rfl) (by simp only [Zw, Zv]; rw [dnlt, Wv, Wv]), Wb, Yh4 hl]
 have hk : (l.takeWhile fun a => decide (a < n)).length ≤ l.length := (List.takeWhile_prefix _).length_le
 obtain ⟨e1, e2⟩ := Yg8 (fun a => decide (a < n)) l
 have hd : (l.dropWhile fun a => decide (a < n)).length ≤ l.length := (List.dropWhile_suffix _).length_le
 simp only [Zu, Zt]
 have hins : (Y2d l 0 (((l.takeWhile fun a => decide (a < n)).length : Nat) : Int)).bind (fun s19 => (chk (decide ((([] : List Int).length + s19.length) * 8 ≤ 140737488355328))).bind fun u22 => (chk (decide (((([] : List Int) ++ s19).length + [n].length) * 8 ≤ 140737488355328))).bind fun u26 => (Y2d l (((l.takeWhile fun a => decide (a < n)).length : Nat) : Int) (l.length : Int)).bind fun s28 => (chk (decide ((((([] : List Int) ++ s19) ++ [n]).length + s28.length) * 8 ≤ 140737488355328))).bind fun u31 => some (((([] : List Int) ++ s19) ++ [n]) ++ s28)) = some ((l.takeWhile fun a => decide (a < n)) ++ n :: (l.dropWhile fun a => decide (a < n))) := by
  rw [Y65 hk, Wb, e1, chk8 (by simp; omega), Wb, chk8 (by simp; omega), Wb, Y66 hk, Wb, e2, chk8 (by simp; omega), Wb]
  simp
 by_cases hlt : (l.takeWhile fun a => decide (a < n)).length < l.length
 ·
  rw [dlt hlt, Wu, Ycw hlt, Wb, beqd]
  have e3 : (l.dropWhile fun a => decide (a < n)).head? = some l[(l.takeWhile fun a => decide (a < n)).length] := by
   rw [← e2, List.head?_drop, We hlt]
  rw [e3]
  by_cases he : l[(l.takeWhile fun a => decide (a < n)).length] = n
  ·
   rw [Wt he, Wu, if_pos (by rw [he])]
  ·
   rw [Wf he, Wv, if_neg (by simpa using he)]
   exact hins
 ·
  rw [Wf (by omega), Wv, Wv]
  have e3 : (l.dropWhile fun a => decide (a < n)) = [] := by
   rw [← e2]; exact List.drop_of_length_le (by omega)
  rw [if_neg (by rw [e3]; simp)]
  exact hins

theorem Yh6 {n x : Int} : ∀ {l : List Int}, x ∈ setI l n ↔ x ∈ l ∨ x = n
 | [] => by simp [setI]
 | a :: r => by
  unfold setI
  split
  ·
   simp [Yh6 (l := r), or_assoc]
  ·
   split
   ·
    rename_i h; subst h; simp only [List.mem_cons]
    constructor
    ·
     exact fun h => .inl h
    ·
     rintro (h | h)
     ·
      exact h
     ·
      exact .inl h
   ·
    simp only [List.mem_cons]
    constructor
    ·
     rintro (h | h | h)
     ·
      exact .inr h
     ·
      exact .inl (.inl h)
     ·
      exact .inl (.inr h)
    ·
     rintro ((h | h) | h)
     ·
      exact .inr (.inl h)
     ·
      exact .inr (.inr h)
     ·
      exact .inl h
theorem Yh7 {n : Int} : ∀ {l : List Int}, UpI l → UpI (setI l n)
 | [], _ => List.pairwise_singleton _ _
 | a :: r, h => by
  obtain ⟨h1, h2⟩ := List.pairwise_cons.1 h
  unfold setI
  split
  ·
   refine List.pairwise_cons.2 ⟨fun y hy => ?_, Yh7 h2⟩
   rcases Yh6.1 hy with hy | rfl
   ·
    exact h1 y hy
   ·
    assumption
  ·
   split
   ·
    exact h
   ·
    refine List.pairwise_cons.2 ⟨fun y hy => ?_, h⟩
    rcases List.mem_cons.1 hy with rfl | hy
    ·
     omega
    ·
     have := h1 y hy; omega
theorem Yh8 {n : Int} : ∀ {l : List Int}, (setI l n).length ≤ l.length + 1
 | [] => by simp [setI]
 | a :: r => by
  unfold setI
  have := @Yh8 n r
  split
  ·
   simp; omega
  ·
   split <;> simp


theorem Yh9 {x y : Y9m} : ∀ {s : List Y9m}, UpS s → (y ∈ putS s x ↔ y = x ∨ (y ∈ s ∧ ¬ eqK y x))
 | [], _ => by simp [putS]
 | e :: r, h => by
  obtain ⟨h1, h2⟩ := List.pairwise_cons.1 h
  unfold putS
  by_cases hlt : ltK e x
  ·
   rw [if_pos hlt, List.mem_cons, Yh9 h2, List.mem_cons]
   constructor
   ·
    rintro (rfl | rfl | ⟨h3, h4⟩)
    ·
     exact .inr ⟨.inl rfl, by unfold ltK at hlt; unfold eqK; omega⟩
    ·
     exact .inl rfl
    ·
     exact .inr ⟨.inr h3, h4⟩
   ·
    rintro (rfl | ⟨rfl | h3, h4⟩)
    ·
     exact .inr (.inl rfl)
    ·
     exact .inl rfl
    ·
     exact .inr (.inr ⟨h3, h4⟩)
  ·
   rw [if_neg hlt]
   have hgt : ∀ z ∈ r, ¬ eqK z x := fun z hz => by have := h1 z hz; unfold ltK eqK at *; omega
   by_cases he : eqK e x
   ·
    rw [if_pos he, List.mem_cons, List.mem_cons]
    constructor
    ·
     rintro (rfl | h3)
     ·
      exact .inl rfl
     ·
      exact .inr ⟨.inr h3, hgt y h3⟩
    ·
     rintro (rfl | ⟨rfl | h3, h4⟩)
     ·
      exact .inl rfl
     ·
      exact absurd he h4
     ·
      exact .inr h3
   ·
    rw [if_neg he, List.mem_cons]
    constructor
    ·
     rintro (rfl | h3)
     ·
      exact .inl rfl
     ·
      rcases List.mem_cons.1 h3 with rfl | h4
      ·
       exact .inr ⟨h3, he⟩
      ·
       exact .inr ⟨h3, hgt y h4⟩
    ·
     rintro (rfl | ⟨h3, _⟩)
     ·
      exact .inl rfl
     ·
      exact .inr h3
theorem Yha {x : Y9m} : ∀ {s : List Y9m}, UpS s → UpS (putS s x)
 | [], _ => List.pairwise_singleton _ _
 | e :: r, h => by
  obtain ⟨h1, h2⟩ := List.pairwise_cons.1 h
  unfold putS
  by_cases hlt : ltK e x
  ·
   rw [if_pos hlt]
   refine List.pairwise_cons.2 ⟨fun y hy => ?_, Yha h2⟩
   rcases (Yh9 h2).1 hy with rfl | ⟨hy, _⟩
   ·
    exact hlt
   ·
    exact h1 y hy
  ·
   rw [if_neg hlt]
   by_cases he : eqK e x
   ·
    rw [if_pos he]
    exact List.pairwise_cons.2 ⟨fun y hy => by have := h1 y hy; unfold ltK eqK at *; omega, h2⟩
   ·
    rw [if_neg he]
    refine List.pairwise_cons.2 ⟨fun y hy => ?_, h⟩
    rcases List.mem_cons.1 hy with rfl | hy
    ·
     unfold ltK eqK at *; omega
    ·
     have := h1 y hy; unfold ltK eqK at *; omega
theorem StOk.put {l : List Y9j} {s : List Y9m} (h : StOk l s) {e : Y9j} (he : evAt l e.id = some e) : StOk l (putS s (Y9m.mk e.kind e.key e.id)) := by
 refine ⟨Yha h.up, fun x hx => ?_⟩
 rcases (Yh9 h.up).1 hx with rfl | ⟨hx, _⟩
 ·
  exact ⟨e, he, rfl, rfl⟩
 ·
  exact h.ev x hx
theorem StOk.nil (l : List Y9j) : StOk l [] := ⟨.nil, fun x hx => by cases hx⟩
theorem StOk.eq {l : List Y9j} {s t : List Y9m} (h1 : StOk l s) (h2 : StOk l t) {x y : Y9m} (hx : x ∈ s) (hy : y ∈ t) (hid : x.id = y.id) : x = y := by
 obtain ⟨e, a1, a2, a3⟩ := h1.ev x hx
 obtain ⟨f, b1, b2, b3⟩ := h2.ev y hy
 rw [← hid, a1] at b1
 cases b1
 cases x; cases y
 simp_all
theorem StOk.len {l : List Y9j} {s : List Y9m} (h : StOk l s) : s.length ≤ l.length := by
 have h1 : (s.map (·.id)).Nodup := by
  rw [List.nodup_iff_pairwise_ne, List.pairwise_map]
  refine List.Pairwise.imp_of_mem (fun {a b} ha hb hab hid => ?_) h.up
  have := h.eq h ha hb hid
  subst this
  unfold ltK at hab; omega
 have h2 : ∀ x ∈ s.map (·.id), x ∈ l.map (·.id) := fun x hx => by
  obtain ⟨y, hy, rfl⟩ := List.mem_map.1 hx
  obtain ⟨e, he, _⟩ := h.ev y hy
  have := Ye0 he
  exact List.mem_map.2 ⟨e, this.1, this.2⟩
 have := h1.length_le_of_subset h2
 simpa using this

theorem Yhb {s t : List Y9m} (hs : UpS s) (ht : UpS t) (h : ∀ x, x ∈ s ↔ x ∈ t) : s = t := by
 have n1 : s.Nodup := by rw [List.nodup_iff_pairwise_ne]; exact hs.imp fun {a b} hab e => by subst e; unfold ltK at hab; omega
 have n2 : t.Nodup := by rw [List.nodup_iff_pairwise_ne]; exact ht.imp fun {a b} hab e => by subst e; unfold ltK at hab; omega
 exact List.Perm.eq_of_pairwise (fun a b _ _ h1 h2 => by unfold ltK at h1 h2; omega) hs ht ((List.perm_ext_iff_of_nodup n1 n2).2 h)
end Go.Proofs.YtomachnjepgpbaaGreat
namespace Go.Proofs.YtomachnjepgpbaaGreat
open Go Go.Abs

structure Mrg (g : Y9k) (ls : List (List Y9m)) : Prop where
 fits : Fits g.events
 ev : ∀ e ∈ g.events, EvOk e
 deep : Deep g.events
 ok : ∀ s ∈ ls, StOk g.events s
 len : ls.length ≤ 1000

theorem Mrg.ids {g : Y9k} {ls : List (List Y9m)} (h : Mrg g ls) : Ids1 g.events := fun e he => (h.ev e he).id.1
theorem Mrg.slen {g : Y9k} {ls : List (List Y9m)} (h : Mrg g ls) {s : List Y9m} (hs : StOk g.events s) : s.length ≤ 60 := Nat.le_trans hs.len h.fits.len
theorem Mrg.sts {g : Y9k} {ls : List (List Y9m)} (h : Mrg g ls) {s : List Y9m} (hs : StOk g.events s) : Sts g s := ⟨h.fits.up, by have := h.fits.len; omega, h.ids, hs, by have := h.slen hs; omega⟩
theorem Mrg.ne0 {g : Y9k} {ls : List (List Y9m)} (h : Mrg g ls) {s : List Y9m} (hs : StOk g.events s) {x : Y9m} (hx : x ∈ s) : 1 ≤ x.id := by
 obtain ⟨e, he, _⟩ := hs.ev x hx
 have h1 := Ye0 he
 have := h.ids e h1.1
 omega

def Yhc (ls : List (List Y9m)) (x : Y9m) : Bool := ls.all fun s => decide (idS s x.kind x.key = x.id)
def memS (s : List Y9m) (x : Y9m) : Bool := s.any fun e => decide (x.kind = e.kind) && (decide (x.key = e.key) && decide (x.id = e.id))
theorem Yhd {s : List Y9m} {x : Y9m} : memS s x = true ↔ x ∈ s := by
 unfold memS
 rw [List.any_eq_true]
 constructor
 ·
  rintro ⟨e, he, h⟩
  simp only [Bool.and_eq_true, decide_eq_true_eq] at h
  have : x = e := by cases x; cases e; simp_all
  exact this ▸ he
 ·
  intro h
  exact ⟨x, h, by simp⟩

theorem Yhe (ls : List (List Y9m)) (x : Y9m) (hl : ls.length < 1000000) (hs : ∀ s ∈ ls, s.length < 1000000) : Zet ls x = some (Yhc ls x) := by
 unfold Zet
 rw [Ydc (l := ls) (fun s => decide (idS s x.kind x.key = x.id)) (.inl false) (.inr ()) (by omega) (fun i hi => by
  have := hs _ (Wm hi)
  simp only [Zes]
  rw [dlt hi, Wu, Ycw hi, Wb, Yg5 _ _ _ (by omega), Wb, bned, Ycx hi (by omega)]
  cases decide (idS ls[i] x.kind x.key = x.id) <;> rfl) (by simp only [Zes]; rw [dnlt, Wv])]
 unfold Yhc
 cases ls.all fun s => decide (idS s x.kind x.key = x.id) <;> rfl

theorem Yhf (s : List Y9m) (x : Y9m) (hl : s.length < 1000000) : Z9v s x = some (memS s x) := by
 unfold Z9v Z9t
 rw [Ydf (Yda (l := s) (step := Z9s s x) (fun e => decide (x.kind = e.kind) && (decide (x.key = e.key) && decide (x.id = e.id))) (by omega) (fun i hi => by
  simp only [Z9s]
  rw [dlt hi, Wu, Ycw hi, Wb, Ycx hi (by omega), beqd, beqd, beqd, Bool.and_true]
  cases (decide (x.kind = s[i].kind) && (decide (x.key = s[i].key) && decide (x.id = s[i].id))) <;> rfl) (by simp only [Z9s]; rw [dnlt, Wv])) (fun _ => rfl) rfl]
 rw [Wb, Yde]; rfl

theorem Yhg {s : List Y9m} (h : UpS s) {x : Y9m} (hx : x ∈ s) : idS s x.kind x.key = x.id := by
 rcases Ygo s x.kind x.key with ⟨_, h0⟩ | ⟨y, hy, h1, h2, h3⟩
 ·
  exact absurd ⟨rfl, rfl⟩ (h0 x hx)
 ·
  obtain ⟨i, hi, rfl⟩ := List.mem_iff_getElem.1 hx
  obtain ⟨j, hj, rfl⟩ := List.mem_iff_getElem.1 hy
  rw [h3]
  rcases Nat.lt_trichotomy i j with h4 | h4 | h4
  ·
   have := h.lt hj h4; unfold ltK at this; omega
  ·
   subst h4; rfl
  ·
   have := h.lt hi h4; unfold ltK at this; omega

theorem Yhh {g : Y9k} {ls : List (List Y9m)} (h : Mrg g ls) {s : List Y9m} (hs : s ∈ ls) {x : Y9m} (hx : x ∈ s) : Yhc ls x = true ↔ ∀ t ∈ ls, x ∈ t := by
 unfold Yhc
 rw [List.all_eq_true]
 constructor
 ·
  intro ha t ht
  have h1 := Wo (ha t ht)
  have h0 := h.ne0 (h.ok s hs) hx
  rcases Ygo t x.kind x.key with ⟨h2, _⟩ | ⟨y, hy, _, _, h4⟩
  ·
   omega
  ·
   have := (h.ok t ht).eq (h.ok s hs) hy hx (by omega)
   exact this ▸ hy
 ·
  intro ha t ht
  exact Wt (Yhg (h.ok t ht).up (ha t ht))


def Yhi (ls : List (List Y9m)) (q : List Y9m × List Int) (x : Y9m) : List Y9m × List Int := if Yhc ls x = true then (putS q.1 x, q.2) else (q.1, setI q.2 x.id)
def Yhj (ls : List (List Y9m)) : List Y9m × List Int := ls.foldl (fun q s => s.foldl (Yhi ls) q) ([], [])

theorem Yhk {α β : Type} (f : β → α → β) : ∀ (ls : List (List α)) (q : β), ls.foldl (fun q s => s.foldl f q) q = ls.flatten.foldl f q
 | [], _ => rfl
 | s :: ls, q => by rw [List.foldl_cons, Yhk f ls, List.flatten_cons, List.foldl_append]

structure RInv (g : Y9k) (q : List Y9m × List Int) : Prop where
 ok : StOk g.events q.1
 up : UpI q.2
 ids : ∀ n ∈ q.2, n ∈ g.events.map (·.id)

theorem Yhl {l : List Int} {m : List Int} (h : UpI l) (hs : ∀ n ∈ l, n ∈ m) : l.length ≤ m.length :=
 List.Nodup.length_le_of_subset (by rw [List.nodup_iff_pairwise_ne]; exact h.imp fun {a b} hab => by omega) hs

theorem RInv.step {g : Y9k} {ls : List (List Y9m)} {q : List Y9m × List Int} (h : RInv g q) {s : List Y9m} (hs : StOk g.events s) {x : Y9m} (hx : x ∈ s) : RInv g (Yhi ls q x) := by
 obtain ⟨e, he, h1, h2⟩ := hs.ev x hx
 have h3 := Ye0 he
 unfold Yhi
 split
 ·
  refine ⟨?_, h.up, h.ids⟩
  have e1 : x = Y9m.mk e.kind e.key e.id := by cases x; simp_all
  have := h.ok.put (e := e) (by rw [h3.2]; exact he)
  rw [← e1] at this
  exact this
 ·
  refine ⟨h.ok, Yh7 h.up, fun n hn => ?_⟩
  rcases Yh6.1 hn with hn | rfl
  ·
   exact h.ids n hn
  ·
   exact List.mem_map.2 ⟨e, h3.1, h3.2⟩

theorem RInv.fold {g : Y9k} {ls : List (List Y9m)} : ∀ {xs : List Y9m} {q : List Y9m × List Int}, RInv g q → (∀ x ∈ xs, ∃ s, StOk g.events s ∧ x ∈ s) → RInv g (xs.foldl (Yhi ls) q)
 | [], _, h, _ => h
 | x :: xs, q, h, hx => by
  obtain ⟨s, h1, h2⟩ := hx x (by simp)
  show RInv g (xs.foldl (Yhi ls) (Yhi ls q x))
  exact RInv.fold (h.step h1 h2) fun y hy => hx y (by simp [hy])

theorem RInv.len {g : Y9k} {q : List Y9m × List Int} (h : RInv g q) (hl : g.events.length ≤ 60) : q.1.length ≤ 60 ∧ q.2.length ≤ 60 := by
 refine ⟨Nat.le_trans h.ok.len hl, ?_⟩
 have := Yhl h.up h.ids
 simp at this
 omega

theorem RInv.zero (g : Y9k) : RInv g ([], []) := ⟨.nil _, .nil, fun n hn => by cases hn⟩

theorem Yhm {g : Y9k} {ls : List (List Y9m)} (h : Mrg g ls) : iter (fun z : List Y9m × List Int × Int => Zgg ls z.1 z.2.1 z.2.2) big ([], [], 0) = some (Yhj ls) ∧ RInv g (Yhj ls) := by
 have hlen := h.len
 have hfl := h.fits.len
 have := Ydd (l := ls) (step := fun z : List Y9m × List Int × Int => Zgg ls z.1 z.2.1 z.2.2) (fun (q : List Y9m × List Int) j => (q.1, q.2, j)) (fun q => q) (fun q s => s.foldl (Yhi ls) q) (fun _ q => RInv g q) (by omega) (fun i q hi hq => by
  have hs := h.ok _ (Wm hi)
  have hsl := h.slen hs
  refine ⟨?_, RInv.fold hq fun x hx => ⟨_, hs, hx⟩⟩
  simp only [Zgg]
  have inner := Ydd (l := ls[i]) (step := fun z : List Y9m × List Int × Int => Zgf ls (i : Int) z.1 z.2.1 z.2.2) (fun (q : List Y9m × List Int) j => (q.1, q.2, j)) (fun q => q) (Yhi ls) (fun _ q => RInv g q) (by omega) (fun j q hj hq => by
   refine ⟨?_, hq.step hs (Wm hj)⟩
   have hql := hq.len hfl
   simp only [Zgf]
   rw [Ycw hi, Wb, dlt hj, Wu, Ycw hj, Wb, Yhe _ _ (by omega) (fun s hs => by have := h.slen (h.ok s hs); omega), Wb]
   simp only [Zge, Ycx hj (by omega : ls[i].length < 9223372036854775807)]
   unfold Yhi
   cases Yhc ls ls[i][j] with
   | true => rw [Wu, Ygc hq.ok.up _ (by omega)]; rfl
   | false => rw [Wv, Yh5 hq.up _ (by omega)]; rfl)
   (fun q _ => by simp only [Zgf]; rw [Ycw hi, Wb, dnlt, Wv]) (s := q) hq
  rw [dlt hi, Wu, inner.1, Wb]
  simp only [Zgd, Ycx hi (by omega : ls.length < 9223372036854775807)])
  (fun q _ => by simp only [Zgg]; rw [dnlt, Wv]) (s := ([], [])) (RInv.zero g)
 exact this

theorem Yhn {g : Y9k} {ls : List (List Y9m)} (h : Mrg g ls) : (∀ y, y ∈ (Yhj ls).1 ↔ (∃ s ∈ ls, y ∈ s) ∧ Yhc ls y = true) ∧ (∀ n, n ∈ (Yhj ls).2 ↔ ∃ s ∈ ls, ∃ x ∈ s, Yhc ls x = false ∧ x.id = n) := by
 have hx : ∀ x ∈ ls.flatten, ∃ s ∈ ls, x ∈ s := fun x hx => by obtain ⟨s, h1, h2⟩ := List.mem_flatten.1 hx; exact ⟨s, h1, h2⟩
 have hsame : ∀ x y, (∃ s ∈ ls, x ∈ s) → (∃ s ∈ ls, y ∈ s) → Yhc ls x = true → Yhc ls y = true → eqK x y → x = y := by
  rintro x y ⟨s, hs, hxs⟩ ⟨t, ht, hyt⟩ h1 h2 ⟨h3, h4⟩
  have h5 := (Yhh h hs hxs).1 h1 t ht
  have e1 := Yhg (h.ok t ht).up h5
  have e2 := Yhg (h.ok t ht).up hyt
  rw [h3, h4, e2] at e1
  exact ((h.ok t ht).eq (h.ok t ht) h5 hyt e1.symm)
 have key : ∀ (xs : List Y9m) (q : List Y9m × List Int), (∀ x ∈ xs, ∃ s ∈ ls, x ∈ s) → (∀ x ∈ q.1, (∃ s ∈ ls, x ∈ s) ∧ Yhc ls x = true) → RInv g q →
   (∀ y, y ∈ (xs.foldl (Yhi ls) q).1 ↔ y ∈ q.1 ∨ y ∈ xs ∧ Yhc ls y = true) ∧ (∀ n, n ∈ (xs.foldl (Yhi ls) q).2 ↔ n ∈ q.2 ∨ ∃ x ∈ xs, Yhc ls x = false ∧ x.id = n) := by
  intro xs
  induction xs with
  | nil => intro q _ _ _; exact ⟨fun y => by simp, fun n => by simp⟩
  | cons x xs ih =>
   intro q h1 h2 h3
   obtain ⟨s, hs, hxs⟩ := h1 x (by simp)
   have h3' := h3.step (ls := ls) (h.ok s hs) hxs
   rw [List.foldl_cons]
   cases ha : Yhc ls x with
   | true =>
    have e1 : Yhi ls q x = (putS q.1 x, q.2) := by unfold Yhi; rw [if_pos ha]
    have hm : ∀ y, y ∈ putS q.1 x ↔ y = x ∨ y ∈ q.1 := fun y => by
     rw [Yh9 h3.ok.up]
     constructor
     ·
      rintro (h | ⟨h, _⟩)
      ·
       exact .inl h
      ·
       exact .inr h
     ·
      rintro (h4 | h4)
      ·
       exact .inl h4
      ·
       by_cases h5 : eqK y x
       ·
        exact .inl (hsame y x (h2 y h4).1 ⟨s, hs, hxs⟩ (h2 y h4).2 ha h5)
       ·
        exact .inr ⟨h4, h5⟩
    rw [e1] at h3' ⊢
    obtain ⟨i1, i2⟩ := ih (putS q.1 x, q.2) (fun y hy => h1 y (by simp [hy])) (fun y hy => by
     rcases (hm y).1 hy with rfl | hy
     ·
      exact ⟨⟨s, hs, hxs⟩, ha⟩
     ·
      exact h2 y hy) h3'
    refine ⟨fun y => ?_, fun n => ?_⟩
    ·
     rw [i1]
     simp only [hm, List.mem_cons]
     constructor
     ·
      rintro ((rfl | h4) | ⟨h4, h5⟩)
      ·
       exact .inr ⟨.inl rfl, ha⟩
      ·
       exact .inl h4
      ·
       exact .inr ⟨.inr h4, h5⟩
     ·
      rintro (h4 | ⟨rfl | h4, h5⟩)
      ·
       exact .inl (.inr h4)
      ·
       exact .inl (.inl rfl)
      ·
       exact .inr ⟨h4, h5⟩
    ·
     rw [i2]
     constructor
     ·
      rintro (h4 | ⟨y, h4, h5⟩)
      ·
       exact .inl h4
      ·
       exact .inr ⟨y, by simp [h4], h5⟩
     ·
      rintro (h4 | ⟨y, h4, h5, h6⟩)
      ·
       exact .inl h4
      ·
       rcases List.mem_cons.1 h4 with rfl | h4
       ·
        rw [ha] at h5; cases h5
       ·
        exact .inr ⟨y, h4, h5, h6⟩
   | false =>
    have e1 : Yhi ls q x = (q.1, setI q.2 x.id) := by unfold Yhi; rw [if_neg (by simp [ha])]
    rw [e1] at h3' ⊢
    obtain ⟨i1, i2⟩ := ih (q.1, setI q.2 x.id) (fun y hy => h1 y (by simp [hy])) h2 h3'
    refine ⟨fun y => ?_, fun n => ?_⟩
    ·
     rw [i1]
     simp only [List.mem_cons]
     constructor
     ·
      rintro (h4 | ⟨h4, h5⟩)
      ·
       exact .inl h4
      ·
       exact .inr ⟨.inr h4, h5⟩
     ·
      rintro (h4 | ⟨rfl | h4, h5⟩)
      ·
       exact .inl h4
      ·
       rw [ha] at h5; cases h5
      ·
       exact .inr ⟨h4, h5⟩
    ·
     rw [i2]
     simp only [Yh6]
     constructor
     ·
      rintro ((h4 | rfl) | ⟨y, h4, h5⟩)
      ·
       exact .inl h4
      ·
       exact .inr ⟨x, by simp, ha, rfl⟩
      ·
       exact .inr ⟨y, by simp [h4], h5⟩
     ·
      rintro (h4 | ⟨y, h4, h5, h6⟩)
      ·
       exact .inl (.inl h4)
      ·
       rcases List.mem_cons.1 h4 with rfl | h4
       ·
        exact .inl (.inr h6.symm)
       ·
        exact .inr ⟨y, h4, h5, h6⟩
 obtain ⟨k1, k2⟩ := key ls.flatten ([], []) hx (fun x hx => by cases hx) (RInv.zero g)
 have e : Yhj ls = ls.flatten.foldl (Yhi ls) ([], []) := Yhk _ _ _
 rw [e]
 refine ⟨fun y => ?_, fun n => ?_⟩
 ·
  rw [k1]
  constructor
  ·
   rintro (h1 | ⟨h1, h2⟩)
   ·
    cases h1
   ·
    exact ⟨hx y h1, h2⟩
  ·
   rintro ⟨⟨s, h1, h2⟩, h3⟩
   exact .inr ⟨List.mem_flatten.2 ⟨s, h1, h2⟩, h3⟩
 ·
  rw [k2]
  constructor
  ·
   rintro (h1 | ⟨x, h1, h2, h3⟩)
   ·
    cases h1
   ·
    obtain ⟨s, h4, h5⟩ := hx x h1
    exact ⟨s, h4, x, h5, h2, h3⟩
  ·
   rintro ⟨s, h1, x, h2, h3, h4⟩
   exact .inr ⟨x, List.mem_flatten.2 ⟨s, h1, h2⟩, h3, h4⟩


def comI (ls : List (List Y9m)) : List Y9m := (ls.head?.getD []).filter fun x => ls.all fun t => memS t x

theorem Yho {g : Y9k} {ls : List (List Y9m)} (h : Mrg g ls) : comI ls = (Yhj ls).1 := by
 have hR := (Yhm h).2
 refine Yhb ?_ hR.ok.up fun x => ?_
 ·
  unfold comI
  cases ls with
  | nil => exact .nil
  | cons s ls => exact (h.ok s (by simp)).up.filter _
 ·
  rw [(Yhn h).1]
  unfold comI
  rw [List.mem_filter, List.all_eq_true]
  cases ls with
  | nil => simp
  | cons s ls =>
   simp only [List.head?_cons, Option.getD_some]
   constructor
   ·
    rintro ⟨h1, h2⟩
    exact ⟨⟨s, by simp, h1⟩, (Yhh h (s := s) (by simp) h1).2 fun t ht => Yhd.1 (h2 t ht)⟩
   ·
    rintro ⟨⟨t, h1, h2⟩, h3⟩
    have h4 := (Yhh h h1 h2).1 h3
    exact ⟨h4 s (by simp), fun t ht => Yhd.2 (h4 t ht)⟩
end Go.Proofs.YtomachnjepgpbaaGreat
namespace Go.Proofs.YtomachnjepgpbaaGreat
open Go Go.Abs

theorem Yhp {n : Nat} (h : n < 1000000000) : chk (decide (n * 96 ≤ 140737488355328)) = some () := Y4z (Wt (by omega))


def hv (e : Y9j) : Bool := decide (e.kind = 1) || (decide (e.kind = 3) || (decide (e.kind = 5) || (decide (e.kind = 2) && !decide (e.key = e.author))))
def hn (e : Y9j) : Int := if hv e = true then 0 else 1
theorem Yhq (e : Y9j) : Z9y e = some (hv e) := by
 unfold Z9y Z9x hv
 rw [beqd, beqd, beqd, beqd, bned]
 by_cases h1 : e.kind = 1
 ·
  simp [h1]
 ·
  by_cases h2 : e.kind = 3
  ·
   simp [h2]
  ·
   by_cases h3 : e.kind = 5
   ·
    simp [h3]
   ·
    by_cases h4 : e.kind = 2 <;> simp [h1, h2, h3, h4]
theorem Yhr (e : Y9j) : Zfa e = some (hv e) := by
 rw [← Yhq]; rfl

def Lt3 (dm : Y9j → Int) (a b : Y9j) : Prop := hn a < hn b ∨ hn a = hn b ∧ (dm a < dm b ∨ dm a = dm b ∧ (a.time < b.time ∨ a.time = b.time ∧ a.id < b.id))
instance (dm : Y9j → Int) (a b : Y9j) : Decidable (Lt3 dm a b) := by unfold Lt3; infer_instance

theorem or3 (x y z : Int) : ([x, y, z].find? fun z => !decide (z = 0)).getD 0 = if x = 0 then (if y = 0 then z else y) else x := by
 by_cases h : x = 0
 ·
  rw [List.find?_cons_of_neg (by simp [h]), or2, if_pos h]
 ·
  rw [List.find?_cons_of_pos (by simp [h]), if_neg h]; rfl

def dmI (h : Y9n) (e : Y9j) : Int := Option.getD (mget h.depth e.id) 0

theorem Yhs (h : Y9n) (a b : Y9j) : ∃ r, Zbp a b h = some r ∧ ((Lt3 (dmI h) a b ∧ r < 0) ∨ (¬ Lt3 (dmI h) a b ∧ 0 ≤ r)) := by
 unfold Zbp
 rw [Yhq, Yhq, Wb, Wb, Ye5, Wb, Ye5, Wb, Ye5, Wb, Ygd _ (by simp), Wb, or3, Wb]
 have hnn : ∀ e, (hv e = true ∧ hn e = 0) ∨ (hv e = false ∧ hn e = 1) := fun e => by unfold hn; cases hv e <;> simp
 have hs : hv a = hv b → hn a = hn b := fun h => by unfold hn; rw [h]
 show ∃ r, cond (hv a == hv b) (some (if cmpI (dmI h a) (dmI h b) = 0 then (if cmpI a.time b.time = 0 then cmpI a.id b.id else cmpI a.time b.time) else cmpI (dmI h a) (dmI h b))) _ = some r ∧ _
 unfold Lt3
 rcases hnn a with ⟨a1, a2⟩ | ⟨a1, a2⟩ <;> rcases hnn b with ⟨b1, b2⟩ | ⟨b1, b2⟩ <;> rw [a1, b1]
 ·
  refine ⟨_, rfl, ?_⟩
  rcases Ygf (dmI h a) (dmI h b) with ⟨h1, h2⟩ | ⟨h1, h2⟩ | ⟨h1, h2⟩ <;> rcases Ygf a.time b.time with ⟨h3, h4⟩ | ⟨h3, h4⟩ | ⟨h3, h4⟩ <;> rcases Ygf a.id b.id with ⟨h5, h6⟩ | ⟨h5, h6⟩ | ⟨h5, h6⟩ <;> rw [h2, h4, h6] <;> simp <;> omega
 ·
  exact ⟨-1, rfl, .inl ⟨.inl (by omega), by omega⟩⟩
 ·
  exact ⟨1, rfl, .inr ⟨by omega, by omega⟩⟩
 ·
  refine ⟨_, rfl, ?_⟩
  rcases Ygf (dmI h a) (dmI h b) with ⟨h1, h2⟩ | ⟨h1, h2⟩ | ⟨h1, h2⟩ <;> rcases Ygf a.time b.time with ⟨h3, h4⟩ | ⟨h3, h4⟩ | ⟨h3, h4⟩ <;> rcases Ygf a.id b.id with ⟨h5, h6⟩ | ⟨h5, h6⟩ | ⟨h5, h6⟩ <;> rw [h2, h4, h6] <;> simp <;> omega

theorem Yht (h : Y9n) (a b : Y9j) : ltc (fun z1 z2 => Zbp z1 z2 h) a b = decide (Lt3 (dmI h) a b) := by
 obtain ⟨r, h1, h2⟩ := Yhs h a b
 show decide ((Zbp a b h).getD 0 < 0) = _
 rw [h1, Option.getD_some]
 rcases h2 with ⟨h2, h3⟩ | ⟨h2, h3⟩
 ·
  rw [Wt h2, Wt h3]
 ·
  rw [Wf h2, Wf (by omega)]

abbrev Yhu (l : List Y9j) : Prop := l.Pairwise fun a b => a.id ≠ b.id

theorem Zjw (h : Y9n) {l : List Y9j} (ho : Yhu l) (hl : l.length ≤ 1000) : ∃ r, Y80 (fun z1 z2 => Zbp z1 z2 h) l = some r ∧ r.Perm l ∧ r.Pairwise (Lt3 (dmI h)) := by
 unfold Y80
 have hok : Y7z (fun z1 z2 => Zbp z1 z2 h) l := by
  refine ⟨fun x _ y _ => ?_, fun x _ => ?_, fun x _ y _ z _ h1 h2 => ?_, ho.imp fun {a b} hab => ?_, by omega⟩
  ·
   obtain ⟨r, h1, _⟩ := Yhs h x y; simp only; rw [h1]; rfl
  ·
   rw [Yht]; exact Wf (by unfold Lt3; omega)
  ·
   rw [Yht, decide_eq_true_eq] at *; unfold Lt3 at *; omega
  ·
   rw [Yht, Yht]
   by_cases h1 : Lt3 (dmI h) a b
   ·
    rw [Wt h1, Wf (by unfold Lt3 at *; omega)]; rfl
   ·
    rw [Wf h1, Wt (by unfold Lt3 at *; omega)]; rfl
 rw [if_pos hok]
 have hp : (l.mergeSort fun x y => !ltc (fun z1 z2 => Zbp z1 z2 h) y x).Perm l := List.mergeSort_perm _ _
 refine ⟨_, rfl, hp, ?_⟩
 have hs := List.pairwise_mergeSort (le := fun x y => !ltc (fun z1 z2 => Zbp z1 z2 h) y x) (fun a b c h1 h2 => by
  rw [Yht, Bool.not_eq_true', decide_eq_false_iff_not] at *; unfold Lt3 at *; omega) (fun a b => by
  rw [Yht, Yht]
  by_cases h1 : Lt3 (dmI h) b a
  ·
   rw [Wt h1, Wf (by unfold Lt3 at *; omega)]; rfl
  ·
   rw [Wf h1]; rfl) l
 have ho2 : Yhu (l.mergeSort fun x y => !ltc (fun z1 z2 => Zbp z1 z2 h) y x) := hp.symm.pairwise ho fun h => h.symm
 have := hs.and ho2
 refine this.imp fun {a b} hab => ?_
 obtain ⟨h1, h2⟩ := hab
 rw [Yht, Bool.not_eq_true', decide_eq_false_iff_not] at h1
 unfold Lt3 at *; omega


def Yhv (l : List Y9j) (q : List Y9j × List (Int × Bool)) (x : Y9m) : List Y9j × List (Int × Bool) :=
 if Option.getD (mget q.2 x.id) false = true then q else (q.1 ++ [(evAt l x.id).getD zEv], mset q.2 x.id true)

structure OInv (l : List Y9j) (q : List Y9j × List (Int × Bool)) : Prop where
 own : Yhu q.1
 ev : ∀ e ∈ q.1, e ∈ l ∧ Option.getD (mget q.2 e.id) false = true

theorem OInv.step {l : List Y9j} {q : List Y9j × List (Int × Bool)} (h : OInv l q) {x : Y9m} {e : Y9j} (hx : evAt l x.id = some e) : OInv l (Yhv l q x) ∧
  (∀ id, Option.getD (mget (Yhv l q x).2 id) false = true ↔ Option.getD (mget q.2 id) false = true ∨ x.id = id) ∧ (∀ e', e' ∈ (Yhv l q x).1 ↔ e' ∈ q.1 ∨ (evAt l x.id = some e' ∧ ¬ Option.getD (mget q.2 x.id) false = true)) := by
 have h1 := Ye0 hx
 unfold Yhv
 by_cases hm : Option.getD (mget q.2 x.id) false = true
 ·
  rw [if_pos hm]
  refine ⟨h, fun id => ⟨.inl, ?_⟩, fun e' => ⟨.inl, ?_⟩⟩
  ·
   rintro (h2 | rfl)
   ·
    exact h2
   ·
    exact hm
  ·
   rintro (h2 | ⟨_, h2⟩)
   ·
    exact h2
   ·
    exact absurd hm h2
 ·
  rw [if_neg hm, hx, Option.getD_some]
  have hget : ∀ id, Option.getD (mget (mset q.2 x.id true) id) false = true ↔ Option.getD (mget q.2 id) false = true ∨ x.id = id := fun id => by
   rw [Y6b]
   by_cases h2 : id = x.id
   ·
    rw [if_pos h2]; exact ⟨fun _ => .inr h2.symm, fun _ => rfl⟩
   ·
    rw [if_neg h2]; exact ⟨.inl, fun h3 => h3.resolve_right fun h4 => h2 h4.symm⟩
  refine ⟨⟨Yeu.2 ⟨h.own, List.pairwise_singleton _ _, fun a ha b hb hab => ?_⟩, fun e' he' => ?_⟩, hget, fun e' => ?_⟩
  ·
   rw [List.mem_singleton] at hb
   subst hb
   have := (h.ev a ha).2
   rw [hab, h1.2] at this
   exact hm this
  ·
   rcases List.mem_append.1 he' with he' | he'
   ·
    exact ⟨(h.ev e' he').1, (hget _).2 (.inl (h.ev e' he').2)⟩
   ·
    rw [List.mem_singleton] at he'
    subst he'
    exact ⟨h1.1, (hget _).2 (.inr h1.2.symm)⟩
  ·
   simp only [List.mem_append, List.mem_singleton]
   constructor
   ·
    rintro (h2 | rfl)
    ·
     exact .inl h2
    ·
     exact .inr ⟨rfl, hm⟩
   ·
    rintro (h2 | ⟨h2, _⟩)
    ·
     exact .inl h2
    ·
     cases h2; exact .inr rfl

theorem OInv.fold {l : List Y9j} : ∀ {xs : List Y9m} {q : List Y9j × List (Int × Bool)}, OInv l q → (∀ x ∈ xs, ∃ e, evAt l x.id = some e) → OInv l (xs.foldl (Yhv l) q) ∧
  (∀ id, Option.getD (mget (xs.foldl (Yhv l) q).2 id) false = true ↔ Option.getD (mget q.2 id) false = true ∨ ∃ x ∈ xs, x.id = id) ∧ (∀ e', e' ∈ (xs.foldl (Yhv l) q).1 ↔ e' ∈ q.1 ∨ ∃ x ∈ xs, evAt l x.id = some e' ∧ ¬ Option.getD (mget q.2 x.id) false = true)
 | [], q, h, _ => ⟨h, fun id => by simp, fun e' => by simp⟩
 | x :: xs, q, h, hx => by
  obtain ⟨e, he⟩ := hx x (by simp)
  obtain ⟨h1, h2, h3⟩ := h.step he
  obtain ⟨i1, i2, i3⟩ := OInv.fold (xs := xs) h1 fun y hy => hx y (by simp [hy])
  rw [List.foldl_cons]
  refine ⟨i1, fun id => ?_, fun e' => ?_⟩
  ·
   rw [i2, h2]
   simp only [List.mem_cons, exists_eq_or_imp, or_assoc]
  ·
   rw [i3, h3]
   constructor
   ·
    rintro ((h4 | ⟨h4, h5⟩) | ⟨y, h4, h5, h6⟩)
    ·
     exact .inl h4
    ·
     exact .inr ⟨x, by simp, h4, h5⟩
    ·
     rw [h2] at h6
     exact .inr ⟨y, by simp [h4], h5, fun h7 => h6 (.inl h7)⟩
   ·
    rintro (h4 | ⟨y, h4, h5, h6⟩)
    ·
     exact .inl (.inl h4)
    ·
     rcases List.mem_cons.1 h4 with rfl | h4
     ·
      exact .inl (.inr ⟨h5, h6⟩)
     ·
      by_cases h7 : x.id = y.id
      ·
       rw [← h7] at h5 h6
       exact .inl (.inr ⟨h5, h6⟩)
      ·
       refine .inr ⟨y, h4, h5, fun h8 => ?_⟩
       rcases (h2 _).1 h8 with h8 | h8
       ·
        exact h6 h8
       ·
        exact h7 h8

theorem OInv.len {l : List Y9j} {q : List Y9j × List (Int × Bool)} (h : OInv l q) : q.1.length ≤ l.length := by
 have h1 : (q.1.map (·.id)).Nodup := by rw [List.nodup_iff_pairwise_ne, List.pairwise_map]; exact h.own
 have := h1.length_le_of_subset (l₂ := l.map (·.id)) fun n hn => by
  obtain ⟨e, he, rfl⟩ := List.mem_map.1 hn
  exact List.mem_map.2 ⟨e, (h.ev e he).1, rfl⟩
 simpa using this

def metI (com : List Y9m) : List (Int × Bool) := com.foldl (fun m x => mset m x.id true) []
theorem Yhw (com : List Y9m) (id : Int) : Option.getD (mget (metI com) id) false = true ↔ ∃ x ∈ com, x.id = id := by
 have : ∀ (xs : List Y9m) (m : List (Int × Bool)), Option.getD (mget (xs.foldl (fun m x => mset m x.id true) m) id) false = true ↔ Option.getD (mget m id) false = true ∨ ∃ x ∈ xs, x.id = id := by
  intro xs
  induction xs with
  | nil => intro m; simp
  | cons x xs ih =>
   intro m
   rw [List.foldl_cons, ih, Y6b]
   by_cases h : id = x.id
   ·
    rw [if_pos h]; simp [h]
   ·
    rw [if_neg h]
    constructor
    ·
     rintro (h1 | ⟨y, h1, h2⟩)
     ·
      exact .inl h1
     ·
      exact .inr ⟨y, by simp [h1], h2⟩
    ·
     rintro (h1 | ⟨y, h1, h2⟩)
     ·
      exact .inl h1
     ·
      rcases List.mem_cons.1 h1 with rfl | h1
      ·
       exact absurd h2.symm h
      ·
       exact .inr ⟨y, h1, h2⟩
 unfold metI
 rw [this]
 constructor
 ·
  rintro (h | h)
  ·
   cases h
  ·
   exact h
 ·
  exact .inr

def Yhx (l : List Y9j) (ls : List (List Y9m)) : List Y9j := (ls.flatten.foldl (Yhv l) ([], metI (comI ls))).1

theorem Yhy {g : Y9k} {ls : List (List Y9m)} (h : Mrg g ls) : Yhu (Yhx g.events ls) ∧ (Yhx g.events ls).length ≤ 60 ∧ ∀ e, e ∈ Yhx g.events ls ↔ e ∈ g.events ∧ e.id ∈ (Yhj ls).2 := by
 have hx : ∀ x ∈ ls.flatten, ∃ s ∈ ls, x ∈ s := fun x hx => by obtain ⟨s, h1, h2⟩ := List.mem_flatten.1 hx; exact ⟨s, h1, h2⟩
 obtain ⟨h1, _, h3⟩ := OInv.fold (l := g.events) (xs := ls.flatten) (q := ([], metI (comI ls))) ⟨.nil, fun e he => by cases he⟩ fun x hx' => by
  obtain ⟨s, h4, h5⟩ := hx x hx'
  obtain ⟨e, he, _⟩ := (h.ok s h4).ev x h5
  exact ⟨e, he⟩
 refine ⟨h1.own, Nat.le_trans h1.len h.fits.len, fun e => ?_⟩
 unfold Yhx
 rw [h3]
 obtain ⟨p1, p2⟩ := Yhn h
 constructor
 ·
  rintro (h4 | ⟨x, h4, h5, h6⟩)
  ·
   cases h4
  ·
   obtain ⟨s, h7, h8⟩ := hx x h4
   have h9 := Ye0 h5
   refine ⟨h9.1, (p2 _).2 ⟨s, h7, x, h8, ?_, h9.2.symm⟩⟩
   rw [Bool.eq_false_iff]
   intro ha
   refine h6 ((Yhw _ _).2 ⟨x, ?_, rfl⟩)
   rw [Yho h]
   exact (p1 x).2 ⟨⟨s, h7, h8⟩, ha⟩
 ·
  rintro ⟨h4, h5⟩
  obtain ⟨s, h6, x, h7, h8, h9⟩ := (p2 _).1 h5
  refine .inr ⟨x, List.mem_flatten.2 ⟨s, h6, h7⟩, ?_, fun hm => ?_⟩
  ·
   rw [h9]; exact h.fits.up.evAt_mem h4
  ·
   obtain ⟨y, hy, hyx⟩ := (Yhw _ _).1 hm
   rw [Yho h] at hy
   obtain ⟨⟨t, ht, hyt⟩, ha⟩ := (p1 y).1 hy
   have := (h.ok t ht).eq (h.ok s h6) hyt h7 hyx
   subst this
   rw [ha] at h8; cases h8

def putE (s : List Y9m) (e : Y9j) : List Y9m := putS s (Y9m.mk e.kind e.key e.id)
def layE (g : Y9k) (s : List Y9m) (e : Y9j) : List Y9m := if alw g s e = 0 then putE s e else s

theorem Yhz {g : Y9k} (hu : Up2 g.events) : ∀ {es : List Y9j} {s : List Y9m}, StOk g.events s → (∀ e ∈ es, e ∈ g.events) → StOk g.events (es.foldl (layE g) s)
 | [], _, h, _ => h
 | e :: es, s, h, he => by
  show StOk g.events (es.foldl (layE g) (layE g s e))
  refine Yhz hu ?_ fun e' h' => he e' (by simp [h'])
  unfold layE
  split
  ·
   exact h.put (hu.evAt_mem (he e (by simp)))
  ·
   exact h
end Go.Proofs.YtomachnjepgpbaaGreat
namespace Go.Proofs.YtomachnjepgpbaaGreat
open Go Go.Abs

theorem Zjx {h : Y9n} {ls : List (List Y9m)} (hm : Mrg h.graph ls) {es : List Y9j} (hes : ∀ e ∈ es, e ∈ h.graph.events) (hel : es.length ≤ 1000) {s : List Y9m} (hs : StOk h.graph.events s) :
  iter (fun z : List Y9m × Int => Zbt h es z.1 z.2) big (s, 0) = some (es.foldl (layE h.graph) s) := by
 have := Ydd (l := es) (step := fun z : List Y9m × Int => Zbt h es z.1 z.2) (fun q j => (q, j)) (fun q => q) (layE h.graph) (fun _ q => StOk h.graph.events q) (by omega) (fun i q hi hq => by
  have he := hes _ (Wm hi)
  refine ⟨?_, Yhz (es := [es[i]]) hm.fits.up hq (by simpa using he)⟩
  have hql := hm.slen hq
  simp only [Zbt]
  rw [dlt hi, Wu, Ycw hi, Wb, (Yh3 (hm.sts hq) (hm.ev _ he).ask).2, Wb, beqd]
  simp only [Zbs, Ycx hi (by omega : es.length < 9223372036854775807)]
  have h1 := (hm.ev _ he).id.1
  unfold layE putE
  by_cases ha : alw h.graph q es[i] = 0
  ·
   rw [Wt ha, Wu, if_pos ha, Ygn hq.up _ (by simp only; omega) (by omega)]; rfl
  ·
   rw [Wf ha, Wv, if_neg ha])
  (fun q _ => by simp only [Zbt]; rw [dnlt, Wv]) (s := s) hs
 exact this.1

theorem Yi0 {α : Type} (p : α → Bool) (l : List α) : l.any (fun x => !p x) = !l.all p := by simp [List.all_eq_not_any_not]

theorem Yi1 {ls : List (List Y9m)} (x : Y9m) (hl : ls.length ≤ 1000) (hs : ∀ s ∈ ls, s.length < 1000000) : Zbn ls x = some (!ls.all fun t => memS t x) := by
 unfold Zbn Zbl
 rw [Ydf (Yda (l := ls) (step := Zbk ls x) (fun t => !memS t x) (by omega) (fun i hi => by
  simp only [Zbk, Zbh]
  rw [dlt hi, Wu, Ycw hi, Wb, Yhf _ _ (hs _ (Wm hi)), Wb, Wb, Ycx hi (by omega)]
  cases memS ls[i] x <;> rfl) (by simp only [Zbk]; rw [dnlt, Wv])) (fun _ => rfl) rfl]
 rw [Wb, Yde, Yi0]

theorem Yi2 {α : Type} (p : α → Bool) : ∀ (l q : List α), l.foldl (fun q x => if p x = true then q ++ [x] else q) q = q ++ l.filter p
 | [], q => by simp
 | x :: l, q => by
  rw [List.foldl_cons, Yi2 p l]
  cases h : p x with
  | true => rw [if_pos rfl, List.filter_cons_of_pos h]; simp
  | false => rw [if_neg (by simp), List.filter_cons_of_neg (by simp [h])]

theorem Zjy {h : Y9n} {ls : List (List Y9m)} (hm : Mrg h.graph ls) : ∃ r : List Y9j, Zc5 h ls = some (r.foldl (layE h.graph) (Yhj ls).1) ∧ r.Perm (Yhx h.graph.events ls) ∧ r.Pairwise (Lt3 (dmI h)) := by
 have hR := (Yhm hm).2
 have hlen := hm.len
 have hsl : ∀ s ∈ ls, s.length ≤ 60 := fun s hs => hm.slen (hm.ok s hs)
 obtain ⟨o1, o2, o3⟩ := Yhy hm
 obtain ⟨r, r1, r2, r3⟩ := Zjw h o1 (by omega)
 refine ⟨r, ?_, r2, r3⟩
 have hcom : Zc5 h ls = Zc2 h ls (comI ls) := by
  unfold Zc5
  cases ls with
  | nil => rfl
  | cons s ls =>
   have hs := hsl s (by simp)
   rw [Wt (by simp), Wu, show (0 : Int) = ((0 : Nat) : Int) from rfl, Ycw (by simp), Wb]
   simp only [List.getElem_cons_zero]
   have := Ydd (l := s) (step := fun z : List Y9m × Int => Zc4 (s :: ls) s z.1 z.2) (fun q j => (q, j)) (fun q => q) (fun q x => if ((s :: ls).all fun t => memS t x) = true then q ++ [x] else q) (fun i q => q.length ≤ i) (by omega) (fun i q hi hq => by
    refine ⟨?_, by split <;> first | omega | (rw [List.length_append, List.length_singleton]; omega)⟩
    simp only [Zc4]
    rw [dlt hi, Wu, Ycw hi, Wb, Yi1 _ hlen (fun s hs => by have := hsl s hs; omega), Wb, Yg9 (by simp; omega), Wb]
    simp only [Zc3, Ycx hi (by omega : s.length < 9223372036854775807)]
    cases (s :: ls).all fun t => memS t s[i] <;> rfl)
    (fun q _ => by simp only [Zc4]; rw [dnlt, Wv]) (s := []) (by simp)
   rw [Yi2 (fun x => (s :: ls).all fun t => memS t x), List.nil_append] at this
   rw [show ((0 : Nat) : Int) = 0 from rfl, this.1]
   rfl
 rw [hcom]
 have hc60 : (comI ls).length ≤ 60 := by rw [Yho hm]; exact (hR.len hm.fits.len).1
 unfold Zc2
 have h2 := Ydd (l := comI ls) (step := fun z : List (Int × Bool) × Int => Zc1 (comI ls) z.1 z.2) (fun q j => (q, j)) (fun q => q) (fun m x => mset m x.id true) (fun _ _ => True) (by omega) (fun i q hi _ => by
  refine ⟨?_, trivial⟩
  simp only [Zc1]
  rw [dlt hi, Wu, Ycw hi, Wb, Ycx hi (by omega)])
  (fun q _ => by simp only [Zc1]; rw [dnlt, Wv]) (s := []) trivial
 rw [h2.1, Wb]
 unfold Zc0
 have h3 := Ydd (l := ls) (step := fun z : List Y9j × List (Int × Bool) × Int => Zbz h ls z.1 z.2.1 z.2.2) (fun (q : List Y9j × List (Int × Bool)) j => (q.1, q.2, j)) (fun q => q.1) (fun q s => s.foldl (Yhv h.graph.events) q) (fun _ q => OInv h.graph.events q) (by omega) (fun i q hi hq => by
  have hs := hm.ok _ (Wm hi)
  have hs6 := hm.slen hs
  have hev : ∀ x ∈ ls[i], ∃ e, evAt h.graph.events x.id = some e := fun x hx => by obtain ⟨e, he, _⟩ := hs.ev x hx; exact ⟨e, he⟩
  refine ⟨?_, (OInv.fold hq hev).1⟩
  simp only [Zbz]
  have inner := Ydd (l := ls[i]) (step := fun z : List Y9j × List (Int × Bool) × Int => Zby h ls[i] z.1 z.2.1 z.2.2) (fun (q : List Y9j × List (Int × Bool)) j => (q.1, q.2, j)) (fun q => q) (Yhv h.graph.events) (fun _ q => OInv h.graph.events q) (by omega) (fun j q hj hq => by
   obtain ⟨e, he⟩ := hev _ (Wm hj)
   refine ⟨?_, (hq.step he).1⟩
   have hql := hq.len
   have := hm.fits.len
   simp only [Zby]
   rw [dlt hj, Wu, Ycw hj, Wb]
   simp only [Zbw, Zbx, Ycx hj (by omega : ls[i].length < 9223372036854775807)]
   unfold Yhv
   cases Option.getD (mget q.2 ls[i][j].id) false with
   | true => rfl
   | false =>
    rw [Wv, c_at _ _ hm.fits.up (by omega), Wb, Yhp (by simp; omega), Wb]; rfl)
   (fun q _ => by simp only [Zby]; rw [dnlt, Wv]) (s := q) hq
  rw [dlt hi, Wu, Ycw hi, Wb, inner.1, Wb]
  simp only [Zbv, Ycx hi (by omega : ls.length < 9223372036854775807)])
  (fun q _ => by simp only [Zbz]; rw [dnlt, Wv]) (s := ([], metI (comI ls))) ⟨.nil, fun e he => by cases he⟩
 have h3' := h3.1
 simp only at h3'
 rw [show (comI ls).foldl (fun m x => mset m x.id true) [] = metI (comI ls) from rfl, h3', Wb]
 have e4 : (ls.foldl (fun q s => s.foldl (Yhv h.graph.events) q) ([], metI (comI ls))).1 = Yhx h.graph.events ls := by unfold Yhx; rw [Yhk]
 rw [e4]
 unfold Zbu
 rw [r1, Wb, Yho hm]
 have hrl : r.length ≤ 60 := by rw [r2.length_eq]; exact o2
 rw [Zjx hm (fun e he => ((o3 e).1 (r2.mem_iff.1 he)).1) (by omega) hR.ok]
 rfl


def dmR (l : List Y9j) (e : Y9j) : Int := dOf l (Yed l) e.id
def evD (l : List Y9j) (id : Int) : Y9j := (evAt l id).getD zEv

theorem Yi3 {l : List Y9j} {id : Int} (h : id ∈ l.map (·.id)) (hu : Up2 l) : evAt l id = some (evD l id) ∧ evD l id ∈ l ∧ (evD l id).id = id := by
 obtain ⟨e, he, rfl⟩ := List.mem_map.1 h
 have := hu.evAt_mem he
 unfold evD
 rw [this]
 exact ⟨rfl, he, rfl⟩

theorem Yi4 {dm : Y9j → Int} {x y : Int} {ea eb : Y9j} (hx : dm ea = x) (hy : dm eb = y) :
  cond (hv ea == hv eb) (cond (x != y) (some (decide (x < y))) (cond (ea.time != eb.time) (some (decide (ea.time < eb.time))) (some (decide (ea.id < eb.id))))) ((some (hv ea)).bind fun r => some r) = some (decide (Lt3 dm ea eb)) := by
 have hnn : ∀ e, (hv e = true ∧ hn e = 0) ∨ (hv e = false ∧ hn e = 1) := fun e => by unfold hn; cases hv e <;> simp
 have hc : hn ea = hn eb → cond (x != y) (some (decide (x < y))) (cond (ea.time != eb.time) (some (decide (ea.time < eb.time))) (some (decide (ea.id < eb.id)))) = some (decide (Lt3 dm ea eb)) := fun he => by
  rw [bned, bned]
  by_cases h1 : x = y
  ·
   rw [Wt h1]
   by_cases h2 : ea.time = eb.time
   ·
    rw [Wt h2]
    exact congrArg some (decide_eq_decide.2 (by unfold Lt3; omega))
   ·
    rw [Wf h2]
    exact congrArg some (decide_eq_decide.2 (by unfold Lt3; omega))
  ·
   rw [Wf h1]
   exact congrArg some (decide_eq_decide.2 (by unfold Lt3; omega))
 rcases hnn ea with ⟨p1, p2⟩ | ⟨p1, p2⟩ <;> rcases hnn eb with ⟨q1, q2⟩ | ⟨q1, q2⟩ <;> rw [p1, q1]
 ·
  exact hc (by omega)
 ·
  exact congrArg some (Wt (by unfold Lt3; omega)).symm
 ·
  exact congrArg some (Wf (by unfold Lt3; omega)).symm
 ·
  exact hc (by omega)

theorem Yi5 {g : Y9k} {ls : List (List Y9m)} (hm : Mrg g ls) {a b : Int} (ha : a ∈ g.events.map (·.id)) (hb : b ∈ g.events.map (·.id)) : Zfd g (Yed g.events) a b = some (decide (Lt3 (dmR g.events) (evD g.events a) (evD g.events b))) := by
 have hfl := hm.fits.len
 obtain ⟨a1, a2, a3⟩ := Yi3 ha hm.fits.up
 obtain ⟨b1, b2, b3⟩ := Yi3 hb hm.fits.up
 have hd := (Yej hm.fits).2.len
 have da := (Yee hd (Ydy a2)).1
 have db := (Yee hd (Ydy b2)).1
 rw [a3] at da; rw [b3] at db
 unfold Zfd
 rw [Ydt _ _ (by omega), Wb, Ydt _ _ (by omega), Wb, (Ygs a1).1, Wb, (Ygs b1).1, Wb]
 unfold Zfc
 rw [show ∀ e : Y9j, Y9j.mk e.id e.room e.author e.kind e.key e.n e.text e.prev e.time = e from fun _ => rfl, show ∀ e : Y9j, Y9j.mk e.id e.room e.author e.kind e.key e.n e.text e.prev e.time = e from fun _ => rfl]
 rw [Yhr, Wb, Yhr, Wb, da, Wb, db, Wb]
 exact Yi4 (by unfold dmR; rw [a3]) (by unfold dmR; rw [b3])

theorem Yi6 {g : Y9k} {ls : List (List Y9m)} (hm : Mrg g ls) {ids : List Int} (hids : ∀ n ∈ ids, n ∈ g.events.map (·.id)) (hup : UpI ids) (hl : ids.length ≤ 1000) :
  ∃ od : List Int, iter (fun z : List Int × Int => Zgb g (Yed g.events) ids z.1 z.2) big ([], 0) = some od ∧ od.Perm ids ∧ od.Pairwise fun a b => Lt3 (dmR g.events) (evD g.events a) (evD g.events b) := by
 obtain ⟨o, h1, h2⟩ := Ycu (τ := List Int × Int) (ω := List Int) (σ := List Int) (step := fun z : List Int × Int => Zgb g (Yed g.events) ids z.1 z.2) (n := ids.length) (fun s j => (s, j))
  (fun i s => s.Perm (ids.take i) ∧ s.Pairwise fun a b => Lt3 (dmR g.events) (evD g.events a) (evD g.events b)) (fun od => od.Perm ids ∧ od.Pairwise fun a b => Lt3 (dmR g.events) (evD g.events a) (evD g.events b)) (by omega) (by
  rintro i s hi ⟨hp, hs⟩
  have hsl : s.length = i := by rw [hp.length_eq]; simp; omega
  have hx := hids _ (Wm hi)
  have hsm : ∀ n ∈ s, n ∈ g.events.map (·.id) := fun n hn => hids n (List.mem_of_mem_take (hp.mem_iff.1 hn))
  have hne : ∀ n ∈ s, n < ids[i] := fun n hn => by
   obtain ⟨j, hj, hji, rfl⟩ := Yf1 (hp.mem_iff.1 hn)
   exact List.pairwise_iff_getElem.1 hup j i hj hi hji
  obtain ⟨k, k1, k2, k3, k4⟩ := Y51 (step := Zga g (Yed g.events) ids s (i : Int)) (p := fun o => ∃ k : Nat, o = (k : Int) ∧ k ≤ s.length ∧ (∀ y ∈ s.take k, Lt3 (dmR g.events) (evD g.events y) (evD g.events ids[i])) ∧ ∀ y ∈ s.drop k, Lt3 (dmR g.events) (evD g.events ids[i]) (evD g.events y))
   (fun m (z : Int) => ∃ k : Nat, z = (k : Int) ∧ k ≤ s.length ∧ (∀ y ∈ s.drop k, Lt3 (dmR g.events) (evD g.events ids[i]) (evD g.events y)) ∧ m = k) (by
   rintro k z ⟨k', rfl, hk, hd, rfl⟩
   simp only [Zga, Zg9]
   cases k with
   | zero =>
    left
    exact ⟨_, rfl, 0, rfl, by omega, by simp, hd⟩
   | succ k =>
    have hks : k < s.length := by omega
    rw [Wt (by omega), Wu, Ycw hi, Wb, Ycy (by omega) (by omega), Nat.add_sub_cancel, Ycw hks, Wb, Yi5 hm hx (hsm _ (Wm hks)), Wb]
    by_cases hlt : Lt3 (dmR g.events) (evD g.events ids[i]) (evD g.events s[k])
    ·
     right
     rw [Wt hlt, Wu]
     refine ⟨_, k, rfl, by omega, k, rfl, by omega, fun y hy => ?_, rfl⟩
     rw [List.drop_eq_getElem_cons hks] at hy
     rcases List.mem_cons.1 hy with rfl | hy
     ·
      exact hlt
     ·
      exact hd y hy
    ·
     left
     rw [Wf hlt, Wv]
     refine ⟨_, rfl, k + 1, rfl, hk, fun y hy => ?_, hd⟩
     have hkx : Lt3 (dmR g.events) (evD g.events s[k]) (evD g.events ids[i]) := by
      have h4 := hne _ (Wm hks)
      have e1 := (Yi3 hx hm.fits.up).2.2
      have e2 := (Yi3 (hsm _ (Wm hks)) hm.fits.up).2.2
      unfold Lt3 at hlt ⊢
      omega
     obtain ⟨j, hj, hjk, rfl⟩ := Yf1 hy
     by_cases hjk2 : j = k
     ·
      subst hjk2; exact hkx
     ·
      have h5 := List.pairwise_iff_getElem.1 hs j k hj hks (by omega)
      unfold Lt3 at h5 hkx ⊢; omega) big s.length (s.length : Int) ⟨s.length, rfl, Nat.le_refl _, by simp, rfl⟩ (Ycr (by omega))
  obtain ⟨k, rfl, k5, k6⟩ : ∃ k', k = ((k' : Nat) : Int) ∧ k' = k2 ∧ True := ⟨k2, k3, rfl, trivial⟩
  subst k5
  obtain ⟨hk, hb, ha⟩ := k4
  refine ⟨s.take k ++ ids[i] :: s.drop k, ?_, ?_, ?_⟩
  ·
   simp only [Zgb]
   rw [dlt hi, Wu, k1, Wb]
   simp only [Zg8, Int.toNat_natCast]
   rw [Y4z (Wt (by omega)), Wb, Y4z (Wt (by omega)), Wb, chk8 (by simp; omega), Wb, Ycw hi, Wb, chk8 (by simp; omega), Wb, Wb, Wb, chk8 (by simp; omega), Wb, Ycx hi (by omega)]
   simp
  ·
   refine List.perm_middle.trans ?_
   rw [List.take_append_drop, List.take_add_one, We hi]
   refine (hp.cons _).trans ?_
   exact (List.perm_append_comm (l₁ := [ids[i]]) (l₂ := ids.take i))
  ·
   have hs' := hs
   rw [← List.take_append_drop k s] at hs'
   obtain ⟨s1, s2, s3⟩ := Yeu.1 hs'
   refine Yeu.2 ⟨s1, List.pairwise_cons.2 ⟨ha, s2⟩, fun y hy z hz => ?_⟩
   rcases List.mem_cons.1 hz with rfl | hz
   ·
    exact hb y hy
   ·
    exact s3 y hy z hz) (by
  rintro s ⟨hp, hs⟩
  simp only [Zgb]
  rw [dnlt, Wv]
  rw [List.take_length] at hp
  exact ⟨s, rfl, hp, hs⟩) (s := []) ⟨by simp, .nil⟩
 exact ⟨o, h1, h2.1, h2.2⟩

def resOf (g : Y9k) (ls : List (List Y9m)) : List Y9m := (Zgh g (Yed g.events) ls).getD []

def Yi7 (h : Y9n) : Prop := ∀ e ∈ h.graph.events, mget h.depth e.id = some (dmR h.graph.events e)

theorem Zjz {g : Y9k} {ls : List (List Y9m)} (hm : Mrg g ls) : ∃ od : List Int, Zgh g (Yed g.events) ls = some ((od.map (evD g.events)).foldl (layE g) (Yhj ls).1) ∧ od.Perm (Yhj ls).2 ∧ od.Pairwise fun a b => Lt3 (dmR g.events) (evD g.events a) (evD g.events b) := by
 obtain ⟨e1, hR⟩ := Yhm hm
 have hl := hR.len hm.fits.len
 have hfl := hm.fits.len
 obtain ⟨od, o1, o2, o3⟩ := Yi6 hm hR.ids hR.up (by omega)
 refine ⟨od, ?_, o2, o3⟩
 unfold Zgh
 rw [e1, Wb]
 simp only [Zgc]
 rw [o1, Wb]
 simp only [Zg7]
 have hodl : od.length ≤ 60 := by rw [o2.length_eq]; exact hl.2
 have := Ydd (l := od) (step := fun z : List Y9m × Int => Zg6 g od z.1 z.2) (fun q j => (q, j)) (fun q => q) (fun q n => layE g q (evD g.events n)) (fun _ q => StOk g.events q) (by omega) (fun i q hi hq => by
  have hn := hR.ids _ (o2.mem_iff.1 (Wm hi))
  obtain ⟨a1, a2, a3⟩ := Yi3 hn hm.fits.up
  refine ⟨?_, Yhz (es := [evD g.events od[i]]) hm.fits.up hq (by simpa using a2)⟩
  have hql := hm.slen hq
  simp only [Zg6]
  rw [dlt hi, Wu, Ycw hi, Wb, Ydt _ _ (by omega), Wb, (Ygs a1).1, Wb]
  simp only [Zg5]
  rw [show ∀ e : Y9j, Y9j.mk e.id e.room e.author e.kind e.key e.n e.text e.prev e.time = e from fun _ => rfl, (Yh3 (hm.sts hq) (hm.ev _ a2).ask).1, Wb, beqd]
  simp only [Zg4, Ycx hi (by omega : od.length < 9223372036854775807)]
  unfold layE putE
  by_cases ha : alw g q (evD g.events od[i]) = 0
  ·
   rw [Wt ha, Wu, if_pos ha, Ygc hq.up _ (by omega)]; rfl
  ·
   rw [Wf ha, Wv, if_neg ha])
  (fun q _ => by simp only [Zg6]; rw [dnlt, Wv]) (s := (Yhj ls).1) hR.ok
 rw [this.1, Wb]
 simp only [Zg3]
 rw [List.foldl_map]

theorem Yi8 {h : Y9n} {ls : List (List Y9m)} (hm : Mrg h.graph ls) (hk : Yi7 h) : Zgh h.graph (Yed h.graph.events) ls = some (resOf h.graph ls) ∧ Zc5 h ls = some (resOf h.graph ls) ∧ StOk h.graph.events (resOf h.graph ls) := by
 obtain ⟨od, a1, a2, a3⟩ := Zjz hm
 obtain ⟨r, b1, b2, b3⟩ := Zjy hm
 have hR := (Yhm hm).2
 obtain ⟨o1, o2, o3⟩ := Yhy hm
 have hrm : ∀ e ∈ r, e ∈ h.graph.events := fun e he => ((o3 e).1 (b2.mem_iff.1 he)).1
 have hod : ∀ n ∈ od, n ∈ h.graph.events.map (·.id) := fun n hn => hR.ids n (a2.mem_iff.1 hn)
 have hsame : od.map (evD h.graph.events) = r := by
  refine List.Perm.eq_of_pairwise (le := Lt3 (dmR h.graph.events)) (fun a b _ _ h1 h2 => by unfold Lt3 at h1 h2; omega) (List.pairwise_map.2 a3) ?_ ?_
  ·
   refine List.Pairwise.imp_of_mem (fun {a b} ha hb hab => ?_) b3
   have e1 : ∀ e ∈ r, dmI h e = dmR h.graph.events e := fun e he => by unfold dmI; rw [hk e (hrm e he)]; rfl
   unfold Lt3 at hab ⊢
   rw [e1 a ha, e1 b hb] at hab
   exact hab
  ·
   have n1 : (od.map (evD h.graph.events)).Nodup := by
    rw [List.nodup_iff_pairwise_ne, List.pairwise_map]
    refine a3.imp fun {a b} hab he => ?_
    rw [he] at hab
    unfold Lt3 at hab; omega
   have n2 : r.Nodup := by
    rw [List.nodup_iff_pairwise_ne]
    refine b3.imp fun {a b} hab he => ?_
    rw [he] at hab
    unfold Lt3 at hab; omega
   rw [List.perm_ext_iff_of_nodup n1 n2]
   intro e
   rw [b2.mem_iff, o3, List.mem_map]
   constructor
   ·
    rintro ⟨n, hn, rfl⟩
    obtain ⟨_, c2, c3⟩ := Yi3 (hod n hn) hm.fits.up
    exact ⟨c2, by rw [c3]; exact a2.mem_iff.1 hn⟩
   ·
    rintro ⟨h1, h2⟩
    refine ⟨e.id, a2.mem_iff.2 h2, ?_⟩
    unfold evD
    rw [hm.fits.up.evAt_mem h1]; rfl
 have e : resOf h.graph ls = r.foldl (layE h.graph) (Yhj ls).1 := by unfold resOf; rw [a1, hsame]; rfl
 rw [e]
 exact ⟨by rw [a1, hsame], b1, Yhz hm.fits.up hR.ok hrm⟩
end Go.Proofs.YtomachnjepgpbaaGreat
