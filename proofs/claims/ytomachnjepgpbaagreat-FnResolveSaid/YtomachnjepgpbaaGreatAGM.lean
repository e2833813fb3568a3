/- Plain laws for the graphs: rounds, numbers, events. -/
import Derived.Test.YtomachnjepgpbaaGreatAQ
import Derived.Test.YtomachnjepgpbaaGreatAX
set_option autoImplicit false
set_option linter.unusedVariables false
set_option linter.unusedSimpArgs false
namespace Go.Proofs.YtomachnjepgpbaaGreat
open Go Go.Abs


theorem Ycq {n : Nat} (h : n < 9223372036854775808) : n < big := Y53 (by omega)

theorem Ycr {ω : Type} {step : Int → Option (Int ⊕ ω)} {n : Nat} (out : Nat → Option ω) (fin : ω) (hn : n < 9223372036854775807)
  (h1 : ∀ i : Nat, i < n → step (i : Int) = some (match out i with | some o => .inr o | none => .inl ((i + 1 : Nat) : Int))) (h2 : step (n : Int) = some (.inr fin)) :
  (∃ i o, i < n ∧ out i = some o ∧ (∀ j, j < i → out j = none) ∧ iter step big 0 = some o) ∨ ((∀ i, i < n → out i = none) ∧ iter step big 0 = some fin) := by
 have key : ∀ m i k : Nat, i + m = n → m < k → (∀ j, j < i → out j = none) →
   (∃ i' o, i' < n ∧ out i' = some o ∧ (∀ j, j < i' → out j = none) ∧ iter step k (i : Int) = some o) ∨ ((∀ i, i < n → out i = none) ∧ iter step k (i : Int) = some fin) := by
  intro m
  induction m with
  | zero =>
   intro i k hm hk hj
   obtain ⟨k, rfl⟩ : ∃ k', k = k' + 1 := ⟨k - 1, by omega⟩
   obtain rfl : i = n := by omega
   exact .inr ⟨hj, by rw [iter, h2]; rfl⟩
  | succ m ih =>
   intro i k hm hk hj
   obtain ⟨k, rfl⟩ : ∃ k', k = k' + 1 := ⟨k - 1, by omega⟩
   have hs := h1 i (by omega)
   cases ho : out i with
   | some o =>
    rw [ho] at hs
    exact .inl ⟨i, o, by omega, ho, hj, by rw [iter, hs]; rfl⟩
   | none =>
    rw [ho] at hs
    have hj' : ∀ j, j < i + 1 → out j = none := fun j hji => by
     by_cases h : j < i
     ·
      exact hj j h
     ·
      obtain rfl : j = i := by omega
      exact ho
    have hit : iter step (k + 1) (i : Int) = iter step k ((i + 1 : Nat) : Int) := by rw [iter, hs]; rfl
    rw [hit]
    exact ih (i + 1) k (by omega) (by omega) hj'
 exact key n 0 big (by omega) (Ycq (by omega)) fun j hj => by omega

theorem Ycs {ω : Type} {step : Int → Option (Int ⊕ ω)} {n : Nat} (ok : Nat → Bool) (bad fin : ω) (hn : n < 9223372036854775807)
  (h1 : ∀ i : Nat, i < n → step (i : Int) = some (cond (ok i) (.inl ((i + 1 : Nat) : Int)) (.inr bad))) (h2 : step (n : Int) = some (.inr fin)) :
  iter step big 0 = some (if ∀ i, i < n → ok i = true then fin else bad) := by
 rcases Ycr (fun i => cond (ok i) none (some bad)) fin hn (fun i hi => by rw [h1 i hi]; cases ok i <;> rfl) h2 with ⟨i, o, hi, ho, _, hx⟩ | ⟨h, hx⟩
 ·
  rw [hx, if_neg]
  ·
   cases hk : ok i with
   | true => simp [hk] at ho
   | false => simp [hk] at ho; rw [ho]
  ·
   intro h
   simp [h i hi] at ho
 ·
  rw [hx, if_pos]
  intro i hi
  have := h i hi
  cases hk : ok i with
  | true => rfl
  | false => simp [hk] at this

theorem Yct {τ ω σ : Type} {step : τ → Option (τ ⊕ ω)} {n : Nat} (emb : σ → Int → τ) (I : Nat → σ → Prop) (Q : ω → Prop) (hn : n < 9223372036854775807)
  (h1 : ∀ (i : Nat) (s : σ), i < n → I i s → ∃ s', step (emb s i) = some (.inl (emb s' ((i + 1 : Nat) : Int))) ∧ I (i + 1) s') (h2 : ∀ s, I n s → ∃ o, step (emb s n) = some (.inr o) ∧ Q o)
  {s : σ} (h0 : I 0 s) : ∃ o, iter step big (emb s 0) = some o ∧ Q o := by
 refine Y51 (fun m (x : τ) => ∃ (i : Nat) (s : σ), x = emb s i ∧ i + m = n ∧ I i s) ?_ big n _ ⟨0, s, rfl, by omega, h0⟩ (Ycq (by omega))
 rintro m x ⟨i, s, rfl, hm, hi⟩
 by_cases hin : i < n
 ·
  obtain ⟨s', h3, h4⟩ := h1 i s hin hi
  exact .inr ⟨_, m - 1, h3, by omega, i + 1, s', rfl, by omega, h4⟩
 ·
  obtain rfl : i = n := by omega
  exact .inl (h2 s hi)

theorem Ycu {τ ω σ : Type} {step : τ → Option (τ ⊕ ω)} {n : Nat} (emb : σ → Int → τ) (I : Nat → σ → Prop) (Q : ω → Prop) (hn : n < 9223372036854775807)
  (h1 : ∀ (i : Nat) (s : σ), i < n → I i s → (∃ s', step (emb s i) = some (.inl (emb s' ((i + 1 : Nat) : Int))) ∧ I (i + 1) s') ∨ ∃ o, step (emb s i) = some (.inr o) ∧ Q o) (h2 : ∀ s, I n s → ∃ o, step (emb s n) = some (.inr o) ∧ Q o)
  {s : σ} (h0 : I 0 s) : ∃ o, iter step big (emb s 0) = some o ∧ Q o := by
 refine Y51 (fun m (x : τ) => ∃ (i : Nat) (s : σ), x = emb s i ∧ i + m = n ∧ I i s) ?_ big n _ ⟨0, s, rfl, by omega, h0⟩ (Ycq (by omega))
 rintro m x ⟨i, s, rfl, hm, hi⟩
 by_cases hin : i < n
 ·
  rcases h1 i s hin hi with ⟨s', h3, h4⟩ | h
  ·
   exact .inr ⟨_, m - 1, h3, by omega, i + 1, s', rfl, by omega, h4⟩
  ·
   exact .inl h
 ·
  obtain rfl : i = n := by omega
  exact .inl (h2 s hi)

theorem beqd (x y : Int) : (x == y) = decide (x = y) := by by_cases h : x = y <;> simp [h]
theorem bned (x y : Int) : (x != y) = !decide (x = y) := by by_cases h : x = y <;> simp [h]
theorem Ycv {α : Type} {l : List α} {i : Nat} (h : i < l.length) : getI l (i : Int) = some l[i] := Y50 (We h)
theorem dlt {i n : Nat} (h : i < n) : decide ((i : Int) < (n : Int)) = true := Wt (by omega)
theorem dnlt (n : Nat) : decide ((n : Int) < (n : Int)) = false := Wf (by omega)
theorem Ycw {i n : Nat} (h : i < n) (hn : n < 9223372036854775807) : IntKind.i64.wrap ((i : Int) + 1) = ((i + 1 : Nat) : Int) := by rw [Y4y (by omega) (by omega)]; omega
theorem Ycx {i : Nat} (h : 0 < i) (hn : i < 9223372036854775807) : IntKind.i64.wrap ((i : Int) - 1) = ((i - 1 : Nat) : Int) := by rw [Y4y (by omega) (by omega)]; omega

def Up (l : List Int) : Prop := ∀ (i j : Nat) (hi : i < l.length) (hj : j < l.length), i < j → l[i] < l[j]
theorem Up.of_next {l : List Int} (h : ∀ (i : Nat) (h : i + 1 < l.length), l[i] < l[i + 1]) : Up l := by
 intro i j hi hj hij
 induction j with
 | zero => omega
 | succ j ih =>
  by_cases hji : i = j
  ·
   subst hji; exact h i hj
  ·
   have := ih (by omega) (by omega)
   have := h j hj
   omega
theorem Ycy {l : List Int} : Up l ↔ l.Pairwise (· < ·) := by
 rw [List.pairwise_iff_getElem]
 exact ⟨fun h i j hi hj hij => h i j hi hj hij, fun h i j hi hj hij => h i j hi hj hij⟩


theorem Ycz (a b c : Int) : Z1n a b c = some (decide (b ≤ a ∧ a ≤ c)) := by
 unfold Z1n Z1m
 by_cases h : a ≥ b
 ·
  simp [h]
 ·
  simp [h]
theorem Yd0 (a : Int) : Z1p a = some (decide (1 ≤ a ∧ a ≤ 1000000)) := by unfold Z1p; rw [Ycz]; rfl
theorem Yd1 (a : Int) : Z1r a = some (decide (1 ≤ a ∧ a ≤ 6)) := by unfold Z1r; rw [Ycz]; rfl
theorem Yd2 (a : Int) : Z1t a = some (decide (0 ≤ a ∧ a ≤ 1000000)) := by unfold Z1t; rw [Ycz]; rfl
theorem c_in (a b c : Int) : Z8w a b c = some (decide (b ≤ a ∧ a ≤ c)) := by
 unfold Z8w
 by_cases h : b ≤ a
 ·
  simp [h, Z8v]
 ·
  simp [h, Z8v]
theorem Yd3 (a : Int) : Z8y a = some (decide (1 ≤ a ∧ a ≤ 3)) := by unfold Z8y; rw [c_in]; rfl
theorem Yd4 (a : Int) : Z90 a = some (decide (1 ≤ a ∧ a ≤ 1000000)) := by unfold Z90; rw [c_in]; rfl
theorem Yd5 (a : Int) : Z92 a = some (decide (1 ≤ a ∧ a ≤ 6)) := by unfold Z92; rw [c_in]; rfl
theorem Yd6 (a : Int) : Z94 a = some (decide (0 ≤ a ∧ a ≤ 1000000)) := by unfold Z94; rw [c_in]; rfl


def Yd7 (l : List Int) (id : Int) : Prop := l.length ≤ 4 ∧ (∀ x ∈ l, 1 ≤ x ∧ x ≤ 1000000 ∧ x ≠ id) ∧ l.Pairwise (· < ·)
instance (l : List Int) (id : Int) : Decidable (Yd7 l id) := by unfold Yd7; infer_instance

theorem Yd8 (l : List Int) (id : Int) : Z1y l id = some (decide (Yd7 l id)) := by
 unfold Z1y
 by_cases h4 : (l.length : Int) > 4
 ·
  rw [Wt h4, Wu, Wf (fun h => by have := h.1; omega)]
 rw [Wf h4, Wv]
 let ok : Nat → Bool := fun i => if h : i < l.length then decide ((1 ≤ l[i] ∧ l[i] ≤ 1000000) ∧ l[i] ≠ id ∧ (0 < i → ∀ h : i - 1 < l.length, l[i - 1] < l[i])) else true
 rw [Ycs ok (.inl false) (.inr ()) (n := l.length) (by omega) ?_ (by unfold Z1x; rw [dnlt, Wv])]
 ·
  have : (∀ i, i < l.length → ok i = true) ↔ Yd7 l id := by
   constructor
   ·
    intro h
    have hx : ∀ (i : Nat) (hi : i < l.length), (1 ≤ l[i] ∧ l[i] ≤ 1000000) ∧ l[i] ≠ id ∧ (0 < i → ∀ h : i - 1 < l.length, l[i - 1] < l[i]) := fun i hi => by
     have := h i hi
     simp only [ok, hi, dif_pos, decide_eq_true_eq] at this
     exact this
    refine ⟨by omega, fun x hx' => ?_, Ycy.1 (Up.of_next fun i hi => ?_)⟩
    ·
     obtain ⟨i, hi, rfl⟩ := List.mem_iff_getElem.1 hx'
     exact ⟨(hx i hi).1.1, (hx i hi).1.2, (hx i hi).2.1⟩
    ·
     exact (hx (i + 1) hi).2.2 (by omega) (by simp; omega)
   ·
    rintro ⟨_, h1, h2⟩ i hi
    simp only [ok, hi, dif_pos, decide_eq_true_eq]
    have := h1 _ (Wm hi)
    exact ⟨⟨this.1, this.2.1⟩, this.2.2, fun h0 h => Ycy.2 h2 _ _ _ _ (by omega)⟩
  by_cases hP : Yd7 l id
  ·
   rw [if_pos (this.2 hP), Wt hP]; rfl
  ·
   rw [if_neg (fun h => hP (this.1 h)), Wf hP]; rfl
 ·
  intro i hi
  unfold Z1x
  rw [dlt hi, Wu, Ycv hi, Wb, Yd0, Wb]
  simp only [Z1w, Ycw hi (by omega : l.length < _)]
  rw [beqd]
  by_cases h1 : 1 ≤ l[i] ∧ l[i] ≤ 1000000
  ·
   by_cases h2 : l[i] = id
   ·
    simp [ok, hi, h1, h2]
   ·
    by_cases h3 : i = 0
    ·
     subst h3
     simp [ok, hi, h1, h2]
    ·
     have h0 : 0 < i := by omega
     have hm : i - 1 < l.length := by omega
     rw [show decide ((i : Int) > 0) = true from Wt (by omega), Ycx h0 (by omega), Ycv hm]
     by_cases h5 : l[i - 1] < l[i]
     ·
      simp [ok, hi, h1, h2, h0, hm, h5, show ¬ l[i] ≤ l[i - 1] from by omega]
     ·
      simp [ok, hi, h1, h2, h0, hm, h5, show l[i] ≤ l[i - 1] from by omega]
  ·
   have : ok i = false := by simp only [ok, hi, dif_pos, h1, false_and, decide_false]
   simp [this, h1]
end Go.Proofs.YtomachnjepgpbaaGreat
namespace Go.Proofs.YtomachnjepgpbaaGreat
open Go Go.Abs


section
variable {α ω τ σ : Type}

theorem Yd9 {l : List α} {step : Int → Option (Int ⊕ (Int ⊕ Unit))} (p : α → Bool) (hl : l.length < 9223372036854775807)
  (h1 : ∀ (i : Nat) (hi : i < l.length), step (i : Int) = some (cond (p l[i]) (.inr (.inl (i : Int))) (.inl ((i + 1 : Nat) : Int)))) (h2 : step (l.length : Int) = some (.inr (.inr ()))) :
  iter step big 0 = some (match l.findIdx? p with | some k => .inl (k : Int) | none => .inr ()) := by
 rcases Ycr (step := step) (n := l.length) (fun i => if h : i < l.length then cond (p l[i]) (some (.inl (i : Int))) none else none) (.inr ()) hl (fun i hi => by
  rw [h1 i hi]; simp only [hi, dif_pos]; cases p l[i] <;> rfl) h2 with ⟨i, o, hi, ho, hb, hx⟩ | ⟨h, hx⟩
 ·
  rw [hx]
  simp only [hi, dif_pos] at ho
  cases hp : p l[i] with
  | false => simp [hp] at ho
  | true =>
   simp [hp] at ho
   have : l.findIdx? p = some i := List.findIdx?_eq_some_iff_getElem.2 ⟨hi, hp, fun j hj => by
    have hjl : j < l.length := by omega
    have := hb j hj
    simp only [hjl, dif_pos] at this
    cases hq : p l[j] with
    | false => simp
    | true => simp [hq] at this⟩
   rw [this, ← ho]
 ·
  rw [hx]
  have : l.findIdx? p = none := by
   rw [List.findIdx?_eq_none_iff]
   intro x hxm
   obtain ⟨i, hi, rfl⟩ := List.mem_iff_getElem.1 hxm
   have := h i hi
   simp only [hi, dif_pos] at this
   cases hq : p l[i] with
   | false => rfl
   | true => simp [hq] at this
  rw [this]

theorem Yda {l : List α} {p : α → Bool} : (∀ i, i < l.length → (if h : i < l.length then p l[i] else true) = true) ↔ l.all p = true := by
 rw [List.all_eq_true]
 constructor
 ·
  intro h x hx
  obtain ⟨i, hi, rfl⟩ := List.mem_iff_getElem.1 hx
  have := h i hi
  simpa [hi] using this
 ·
  intro h i hi
  simp only [hi, dif_pos]
  exact h _ (Wm hi)

theorem Ydb {l : List α} {step : Int → Option (Int ⊕ ω)} (p : α → Bool) (bad fin : ω) (hl : l.length < 9223372036854775807)
  (h1 : ∀ (i : Nat) (hi : i < l.length), step (i : Int) = some (cond (p l[i]) (.inl ((i + 1 : Nat) : Int)) (.inr bad))) (h2 : step (l.length : Int) = some (.inr fin)) :
  iter step big 0 = some (cond (l.all p) fin bad) := by
 rw [Ycs (fun i => if h : i < l.length then p l[i] else true) bad fin hl (fun i hi => by simp only [hi, dif_pos]; exact h1 i hi) h2]
 cases hp : l.all p with
 | true => rw [if_pos (Yda.2 hp)]; rfl
 | false => rw [if_neg (fun h => by rw [Yda.1 h] at hp; cases hp)]; rfl

theorem Ydc {l : List α} {step : τ → Option (τ ⊕ ω)} (emb : σ → Int → τ) (fin : σ → ω) (g : σ → α → σ) (I : Nat → σ → Prop) (hl : l.length < 9223372036854775807)
  (h1 : ∀ (i : Nat) (s : σ) (hi : i < l.length), I i s → step (emb s i) = some (.inl (emb (g s l[i]) ((i + 1 : Nat) : Int))) ∧ I (i + 1) (g s l[i]))
  (h2 : ∀ s, I l.length s → step (emb s l.length) = some (.inr (fin s))) {s : σ} (h0 : I 0 s) :
  iter step big (emb s 0) = some (fin (l.foldl g s)) ∧ I l.length (l.foldl g s) := by
 have key : ∀ m i k : Nat, ∀ s, i + m = l.length → m < k → I i s → iter step k (emb s i) = some (fin ((l.drop i).foldl g s)) ∧ I l.length ((l.drop i).foldl g s) := by
  intro m
  induction m with
  | zero =>
   intro i k s hm hk hi
   obtain ⟨k, rfl⟩ : ∃ k', k = k' + 1 := ⟨k - 1, by omega⟩
   obtain rfl : i = l.length := by omega
   rw [iter, h2 s hi, List.drop_length]
   exact ⟨rfl, hi⟩
  | succ m ih =>
   intro i k s hm hk hi
   obtain ⟨k, rfl⟩ : ∃ k', k = k' + 1 := ⟨k - 1, by omega⟩
   have hil : i < l.length := by omega
   obtain ⟨e1, e2⟩ := h1 i s hil hi
   rw [iter, e1, List.drop_eq_getElem_cons hil, List.foldl_cons]
   exact ih (i + 1) k _ (by omega) (by omega) e2
 have := key l.length 0 big s (by omega) (Ycq (by omega)) h0
 simpa using this

def idxP (p : α → Bool) (l : List α) : Int := match l.findIdx? p with | some k => (k : Int) | none => -1

theorem Ydd (p : α → Bool) (l : List α) : decide (idxP p l ≥ 0) = l.any p := by
 unfold idxP
 cases h : l.findIdx? p with
 | none =>
  rw [List.findIdx?_eq_none_iff] at h
  have : l.any p = false := by rw [List.any_eq_false]; intro x hx; simp [h x hx]
  rw [this]; rfl
 | some k =>
  obtain ⟨hk, hp, _⟩ := List.findIdx?_eq_some_iff_getElem.1 h
  have : l.any p = true := List.any_eq_true.2 ⟨_, Wm hk, hp⟩
  rw [this]; simp

theorem Yde {x : Option (Int ⊕ Unit)} {f : Int ⊕ Unit → Option Int} {p : α → Bool} {l : List α} (h : x = some (match l.findIdx? p with | some k => .inl (k : Int) | none => .inr ())) (f1 : ∀ y, f (.inl y) = some y) (f2 : f (.inr ()) = some (-1)) :
  x.bind f = some (idxP p l) := by
 rw [h]; unfold idxP
 cases l.findIdx? p with
 | none => exact f2
 | some k => exact f1 _
end


theorem Ydf (l : List Int) : (∀ (i : Nat) (hi : i < l.length), 0 < i → l[i - 1] < l[i]) ↔ l.Pairwise (· < ·) := by
 rw [← Ycy]
 constructor
 ·
  exact fun h => Up.of_next fun i hi => by simpa using h (i + 1) hi (by omega)
 ·
  exact fun h i hi h0 => h _ _ _ _ (by omega)

theorem Ydg (l : List Int) (lo hi : Int) (hl : l.length < 9223372036854775807) : Z99 l lo hi = some (decide ((∀ x ∈ l, lo ≤ x ∧ x ≤ hi) ∧ l.Pairwise (· < ·))) := by
 unfold Z99
 let ok : Nat → Bool := fun i => if h : i < l.length then decide ((lo ≤ l[i] ∧ l[i] ≤ hi) ∧ (0 < i → l[i - 1] < l[i])) else true
 rw [Ycs ok (.inl false) (.inr ()) hl ?_ (by unfold Z98; rw [dnlt, Wv])]
 ·
  have : (∀ i, i < l.length → ok i = true) ↔ ((∀ x ∈ l, lo ≤ x ∧ x ≤ hi) ∧ l.Pairwise (· < ·)) := by
   rw [← Ydf]
   constructor
   ·
    intro h
    have hx : ∀ (i : Nat) (hi' : i < l.length), (lo ≤ l[i] ∧ l[i] ≤ hi) ∧ (0 < i → l[i - 1] < l[i]) := fun i hi' => by
     have := h i hi'
     simp only [ok, hi', dif_pos, decide_eq_true_eq] at this
     exact this
    refine ⟨fun x hx' => ?_, fun i hi' => (hx i hi').2⟩
    obtain ⟨i, hi', rfl⟩ := List.mem_iff_getElem.1 hx'
    exact (hx i hi').1
   ·
    rintro ⟨h1, h2⟩ i hi'
    simp only [ok, hi', dif_pos, decide_eq_true_eq]
    exact ⟨h1 _ (Wm hi'), h2 i hi'⟩
  by_cases hP : (∀ x ∈ l, lo ≤ x ∧ x ≤ hi) ∧ l.Pairwise (· < ·)
  ·
   rw [if_pos (this.2 hP), Wt hP]; rfl
  ·
   rw [if_neg (fun h => hP (this.1 h)), Wf hP]; rfl
 ·
  intro i hi'
  unfold Z98
  rw [dlt hi', Wu, Ycv hi', Wb, c_in, Wb]
  simp only [Z97, Ycw hi' hl]
  by_cases h1 : lo ≤ l[i] ∧ l[i] ≤ hi
  ·
   by_cases h3 : i = 0
   ·
    subst h3
    simp [ok, hi', h1]
   ·
    have h0 : 0 < i := by omega
    have hm : i - 1 < l.length := by omega
    rw [show decide ((i : Int) > 0) = true from Wt (by omega), Ycx h0 (by omega), Ycv hm]
    by_cases h5 : l[i - 1] < l[i]
    ·
     simp [ok, hi', h1, h0, h5, show ¬ l[i] ≤ l[i - 1] from by omega]
    ·
     simp [ok, hi', h1, h0, h5, show l[i] ≤ l[i - 1] from by omega]
  ·
   have : ok i = false := by simp only [ok, hi', dif_pos, h1, false_and, decide_false]
   simp [this, h1]

theorem Ydh (l : List Int) (x : Int) (hl : l.length < 9223372036854775807) : Z9f l x = some (decide (x ∈ l)) := by
 unfold Z9f Z9d
 have := Yd9 (l := l) (step := Z9c l x) (fun y => x == y) hl (fun i hi => by
  unfold Z9c
  rw [dlt hi, Wu, Ycv hi, Wb, Ycw hi hl]
  cases x == l[i] <;> rfl) (by unfold Z9c; rw [dnlt, Wv])
 rw [Yde this (fun _ => rfl) rfl, Wb, Ydd]
 congr 1
 by_cases h : x ∈ l
 ·
  rw [Wt h]; exact List.any_eq_true.2 ⟨x, h, by simp⟩
 ·
  rw [Wf h]; rw [List.any_eq_false]; intro y hy; simp; rintro rfl; exact h hy

theorem Ydi (t : ByteArray) : (t.toList == ByteArray.empty.toList) = ((t.size : Int) == 0) := by
 have h : t.toList = t.data.toList := ByteArray.toList_eq t
 have h2 : ByteArray.empty.toList = [] := by rw [ByteArray.toList_eq]; rfl
 rw [h, h2, beqd]
 have h3 : t.size = t.data.toList.length := (Array.length_toList (xs := t.data)).symm
 rw [h3]
 cases t.data.toList with
 | nil => rfl
 | cons a r => simp; omega

def Ydj (e : Y9j) : Bool := (Z28 e).getD false

theorem Ydk (e : Y9j) : Z28 e = some (Ydj e) := by
 unfold Ydj
 unfold Z28 Z20 Z21 Z22 Z23 Z24 Z25 Z26 Z27
 simp only [Yd1, Ycz, Yd0, Wb, Bool.cond_eq_ite]
 repeat' split
 all_goals rfl

theorem Ydl (e : Y9j) : Z9p e = some (Ydj e) := by
 rw [← Ydk]
 unfold Z28 Z20 Z21 Z22 Z23 Z24 Z25 Z26 Z27
 unfold Z9p Z9h Z9i Z9j Z9k Z9l Z9m Z9n Z9o
 simp only [Yd1, Ycz, Yd0, Yd5, c_in, Yd4, Wb, Ydi]
 have : (cond (decide ((e.text.size : Int) ≥ 1)) (some (decide ((e.text.size : Int) ≤ 30))) (some false)) = some (decide (1 ≤ (e.text.size : Int) ∧ (e.text.size : Int) ≤ 30)) := by
  by_cases h1 : (e.text.size : Int) ≥ 1
  ·
   simp [h1]
  ·
   simp [h1]
 rw [this]

def evOk (e : Y9j) : Bool := (Z2b e).getD false
structure EvOk (e : Y9j) : Prop where
 id : 1 ≤ e.id ∧ e.id ≤ 1000000
 room : 1 ≤ e.room ∧ e.room ≤ 3
 author : 1 ≤ e.author ∧ e.author ≤ 6
 time : 0 ≤ e.time ∧ e.time ≤ 1000000
 prev : Yd7 e.prev e.id
 kind : (e.kind = 1 ↔ e.prev = [])
 body : Ydj e = true

theorem len0 {α : Type} (l : List α) : decide (((l.length : Nat) : Int) = 0) = decide (l = []) := by
 cases l with
 | nil => rfl
 | cons a r => simp; omega

theorem Ydm (e : Y9j) : Z2b e = some (evOk e) ∧ (evOk e = true ↔ EvOk e) := by
 have : ∃ b, Z2b e = some b ∧ (b = true ↔ EvOk e) := by
  unfold Z2b Z2a
  simp only [Yd0, Ycz, Yd1, Yd2, Yd8, Ydk, Wb, len0, beqd]
  by_cases h1 : 1 ≤ e.id ∧ e.id ≤ 1000000
  ·
   by_cases h2 : 1 ≤ e.room ∧ e.room ≤ 3
   ·
    by_cases h3 : 1 ≤ e.author ∧ e.author ≤ 6
    ·
     by_cases h4 : 0 ≤ e.time ∧ e.time ≤ 1000000
     ·
      by_cases h5 : Yd7 e.prev e.id
      ·
       by_cases h6 : e.kind = 1 ↔ e.prev = []
       ·
        refine ⟨Ydj e, ?_, ⟨fun h => ⟨h1, h2, h3, h4, h5, h6, h⟩, fun h => h.body⟩⟩
        have : (decide (e.kind = 1) == decide (e.prev = [])) = true := by
         by_cases hk : e.kind = 1
         ·
          rw [Wt hk, Wt (h6.1 hk)]; rfl
         ·
          rw [Wf hk, Wf (fun h => hk (h6.2 h))]; rfl
        rw [Wt h1, Wt h2, Wt h3, Wt h4, Wt h5, this]
        rfl
       ·
        refine ⟨false, ?_, ⟨(fun h => nomatch h), fun h => absurd h.kind h6⟩⟩
        have : (decide (e.kind = 1) == decide (e.prev = [])) = false := by
         by_cases hk : e.kind = 1
         ·
          rw [Wt hk, Wf (fun h => h6 ⟨fun _ => h, fun _ => hk⟩)]; rfl
         ·
          by_cases hp : e.prev = []
          ·
           rw [Wf hk, Wt hp]; rfl
          ·
           exact absurd ⟨fun h => absurd h hk, fun h => absurd h hp⟩ h6
        rw [Wt h1, Wt h2, Wt h3, Wt h4, Wt h5, this]
        rfl
      ·
       exact ⟨false, by rw [Wt h1, Wt h2, Wt h3, Wt h4, Wf h5]; rfl, ⟨(fun h => nomatch h), fun h => absurd h.prev h5⟩⟩
     ·
      exact ⟨false, by rw [Wt h1, Wt h2, Wt h3, Wf h4]; rfl, ⟨(fun h => nomatch h), fun h => absurd h.time h4⟩⟩
    ·
     exact ⟨false, by rw [Wt h1, Wt h2, Wf h3]; rfl, ⟨(fun h => nomatch h), fun h => absurd h.author h3⟩⟩
   ·
    exact ⟨false, by rw [Wt h1, Wf h2]; rfl, ⟨(fun h => nomatch h), fun h => absurd h.room h2⟩⟩
  ·
   exact ⟨false, by rw [Wf h1]; rfl, ⟨(fun h => nomatch h), fun h => absurd h.id h1⟩⟩
 obtain ⟨b, h1, h2⟩ := this
 have : evOk e = b := by unfold evOk; rw [h1]; rfl
 rw [this]
 exact ⟨h1, h2⟩

theorem Ydn (e : Y9j) (hl : e.prev.length < 9223372036854775807) : Z9v e = some (evOk e) := by
 have : ∃ b, Z9v e = some b ∧ (b = true ↔ EvOk e) := by
  unfold Z9v Z9s Z9u Z9r
  simp only [Yd4, Yd3, Yd5, Yd6, Ydg _ _ _ hl, Ydh _ _ hl, Ydl, Wb, len0, beqd]
  by_cases h1 : 1 ≤ e.id ∧ e.id ≤ 1000000
  ·
   by_cases h2 : 1 ≤ e.room ∧ e.room ≤ 3
   ·
    by_cases h3 : 1 ≤ e.author ∧ e.author ≤ 6
    ·
     by_cases h4 : 0 ≤ e.time ∧ e.time ≤ 1000000
     ·
      rw [Wt h1, Wt h2, Wt h3, Wt h4]
      simp only [Wu]
      by_cases h5 : e.prev.length ≤ 4
      ·
       rw [Wt (by omega : (e.prev.length : Int) ≤ 4), Wu]
       by_cases h6 : (∀ x ∈ e.prev, 1 ≤ x ∧ x ≤ 1000000) ∧ e.prev.Pairwise (· < ·)
       ·
        rw [Wt h6, Wu]
        by_cases h7 : e.id ∈ e.prev
        ·
         rw [Wt h7]
         exact ⟨false, rfl, ⟨(fun h => nomatch h), fun h => absurd rfl (h.prev.2.1 _ h7).2.2⟩⟩
        ·
         rw [Wf h7, Wv, Wb]
         have hp : Yd7 e.prev e.id := ⟨h5, fun x hx => ⟨(h6.1 x hx).1, (h6.1 x hx).2, fun h => h7 (h ▸ hx)⟩, h6.2⟩
         cases hb : Ydj e with
         | false => exact ⟨false, rfl, ⟨(fun h => nomatch h), fun h => by rw [h.body] at hb; cases hb⟩⟩
         | true =>
          simp only [Wu]
          refine ⟨_, rfl, ?_⟩
          constructor
          ·
           intro h
           refine ⟨h1, h2, h3, h4, hp, ?_, hb⟩
           have := beq_iff_eq.1 h
           rw [decide_eq_decide] at this
           exact this
          ·
           intro h
           rw [beq_iff_eq, decide_eq_decide]
           exact h.kind
       ·
        rw [Wf h6]
        exact ⟨false, rfl, ⟨(fun h => nomatch h), fun h => absurd ⟨fun x hx => ⟨(h.prev.2.1 x hx).1, (h.prev.2.1 x hx).2.1⟩, h.prev.2.2⟩ h6⟩⟩
      ·
       rw [Wf (by omega : ¬ (e.prev.length : Int) ≤ 4)]
       exact ⟨false, rfl, ⟨(fun h => nomatch h), fun h => absurd h.prev.1 h5⟩⟩
     ·
      exact ⟨false, by rw [Wt h1, Wt h2, Wt h3, Wf h4]; rfl, ⟨(fun h => nomatch h), fun h => absurd h.time h4⟩⟩
    ·
     exact ⟨false, by rw [Wt h1, Wt h2, Wf h3]; rfl, ⟨(fun h => nomatch h), fun h => absurd h.author h3⟩⟩
   ·
    exact ⟨false, by rw [Wt h1, Wf h2]; rfl, ⟨(fun h => nomatch h), fun h => absurd h.room h2⟩⟩
  ·
   exact ⟨false, by rw [Wf h1]; rfl, ⟨(fun h => nomatch h), fun h => absurd h.id h1⟩⟩
 obtain ⟨b, h1, h2⟩ := this
 rw [h1]
 have h3 := (Ydm e).2
 congr 1
 cases b with
 | true => exact (h3.2 (h2.1 rfl)).symm
 | false =>
  cases hx : evOk e with
  | false => rfl
  | true => exact absurd (h2.2 (h3.1 hx)) (by simp)
end Go.Proofs.YtomachnjepgpbaaGreat
namespace Go.Proofs.YtomachnjepgpbaaGreat
open Go Go.Abs

abbrev Up2 (l : List Y9j) : Prop := l.Pairwise fun a b => a.id < b.id
def Row (l : List Y9j) (room : Int) : Prop := (∀ e ∈ l, evOk e = true ∧ e.room = room) ∧ Up2 l
instance (l : List Y9j) (room : Int) : Decidable (Row l room) := by unfold Row; infer_instance

theorem Ydo {l : List Y9j} : (∀ (i : Nat) (hi : i < l.length), 0 < i → l[i - 1].id < l[i].id) ↔ Up2 l := by
 have h1 := Ydf (l.map (·.id))
 have h2 : Up2 l ↔ (l.map (·.id)).Pairwise (· < ·) := by rw [List.pairwise_map]
 rw [h2, ← h1]
 simp only [List.length_map, List.getElem_map]

theorem Ydp {l : List Y9j} {room : Int} {step : Int → Option (Int ⊕ (Bool ⊕ Unit))} (hl : l.length < 9223372036854775807)
  (h1 : ∀ (i : Nat) (hi : i < l.length), step (i : Int) = some (cond (evOk l[i] && (decide (l[i].room = room) && (decide (i = 0) || decide (l[i - 1].id < l[i].id)))) (.inl ((i + 1 : Nat) : Int)) (.inr (.inl false)))) (h2 : step (l.length : Int) = some (.inr (.inr ()))) :
  iter step big 0 = some (cond (decide (Row l room)) (.inr ()) (.inl false)) := by
 rw [Ycs (fun i => if h : i < l.length then (evOk l[i] && (decide (l[i].room = room) && (decide (i = 0) || decide (l[i - 1].id < l[i].id)))) else true) (.inl false) (.inr ()) hl (fun i hi => by simp only [hi, dif_pos]; exact h1 i hi) h2]
 have : (∀ i, i < l.length → (if h : i < l.length then (evOk l[i] && (decide (l[i].room = room) && (decide (i = 0) || decide (l[i - 1].id < l[i].id)))) else true) = true) ↔ Row l room := by
  unfold Row
  rw [← Ydo]
  constructor
  ·
   intro h
   have hx : ∀ (i : Nat) (hi : i < l.length), evOk l[i] = true ∧ l[i].room = room ∧ (i = 0 ∨ l[i - 1].id < l[i].id) := fun i hi => by
    have := h i hi
    simpa [hi] using this
   refine ⟨fun x hx' => ?_, fun i hi h0 => ((hx i hi).2.2).resolve_left (by omega)⟩
   obtain ⟨i, hi, rfl⟩ := List.mem_iff_getElem.1 hx'
   exact ⟨(hx i hi).1, (hx i hi).2.1⟩
  ·
   rintro ⟨h3, h4⟩ i hi
   have := h3 _ (Wm hi)
   have h5 := h4 i hi
   simp only [hi, dif_pos, this.1, this.2, decide_true, Bool.true_and, Bool.or_eq_true, decide_eq_true_eq]
   omega
 by_cases hP : Row l room
 ·
  rw [if_pos (this.2 hP), Wt hP]; rfl
 ·
  rw [if_neg (fun h => hP (this.1 h)), Wf hP]; rfl

theorem Ydq (l : List Y9j) (room most : Int) (hl : l.length < 9223372036854775807) : Z2g l room most = some (decide ((l.length : Int) ≤ most) && decide (Row l room)) := by
 unfold Z2g
 by_cases hm : (l.length : Int) ≤ most
 ·
  rw [Wf (by omega : ¬ (l.length : Int) > most), Wv, Wt hm, Bool.true_and]
  rw [Ydp (room := room) hl ?_ (by unfold Z2f; rw [dnlt, Wv])]
  ·
   cases decide (Row l room) <;> rfl
  ·
   intro i hi
   unfold Z2f
   rw [dlt hi, Wu, Ycv hi, Wb, (Ydm _).1, Wb, bned]
   simp only [Z2e, Ycw hi hl]
   cases evOk l[i] with
   | false => rfl
   | true =>
    by_cases h2 : l[i].room = room
    ·
     by_cases h3 : i = 0
     ·
      subst h3; simp [h2]
     ·
      have hm : i - 1 < l.length := by omega
      rw [show decide ((i : Int) > 0) = true from Wt (by omega), Ycx (by omega) (by omega), Ycv hm]
      by_cases h5 : l[i - 1].id < l[i].id
      ·
       simp [h2, h3, h5, show ¬ l[i].id ≤ l[i - 1].id from by omega]
      ·
       simp [h2, h3, h5, show l[i].id ≤ l[i - 1].id from by omega]
    ·
     simp [h2]
 ·
  rw [Wt (by omega : (l.length : Int) > most), Wu, Wf hm]; rfl

theorem Ydr (g : Y9k) (l : List Y9j) (hl : l.length < 9223372036854775807) (hp : ∀ e ∈ l, e.prev.length < 9223372036854775807) : Za0 g l = some (decide (Row l g.room)) := by
 unfold Za0
 rw [Ydp (room := g.room) hl ?_ (by unfold Z9z; rw [dnlt, Wv])]
 ·
  cases decide (Row l g.room) <;> rfl
 ·
  intro i hi
  unfold Z9z
  rw [dlt hi, Wu, Ycv hi, Wb, Ydn _ (hp _ (Wm hi)), Wb, bned]
  simp only [Z9y, Ycw hi hl]
  cases evOk l[i] with
  | false => rfl
  | true =>
   by_cases h2 : l[i].room = g.room
   ·
    by_cases h3 : i = 0
    ·
     subst h3; simp [h2]
    ·
     have hm : i - 1 < l.length := by omega
     rw [show decide ((i : Int) > 0) = true from Wt (by omega), Ycx (by omega) (by omega), Ycv hm]
     by_cases h5 : l[i - 1].id < l[i].id
     ·
      simp [h2, h3, h5, show ¬ l[i].id ≤ l[i - 1].id from by omega]
     ·
      simp [h2, h3, h5, show l[i].id ≤ l[i - 1].id from by omega]
   ·
    simp [h2]


def evAt (l : List Y9j) (id : Int) : Option Y9j := l.find? fun e => e.id == id
def hasE (l : List Y9j) (id : Int) : Bool := l.any fun e => e.id == id
def plc (l : List Y9j) (id : Int) : Int := idxP (fun e : Y9j => e.id == id) l
def cutE (l : List Y9j) (id : Int) : Nat := l.countP fun e => decide (e.id < id)

theorem Yds (l : List Y9j) (id : Int) (hl : l.length < 9223372036854775807) : Zr l id = some (plc l id) := by
 unfold Zr
 exact Yde (Yd9 (step := Zq l id) (fun e => e.id == id) hl (fun i hi => by
  unfold Zq
  rw [dlt hi, Wu, Ycv hi, Wb, Ycw hi hl]
  cases l[i].id == id <;> rfl) (by unfold Zq; rw [dnlt, Wv])) (fun _ => rfl) rfl

theorem Ydt (l : List Y9j) (id : Int) : decide (plc l id ≥ 0) = hasE l id := Ydd _ _
theorem Ydu (l : List Y9j) (id : Int) : decide (plc l id < 0) = !hasE l id := by
 rw [← Ydt]
 by_cases h : plc l id < 0
 ·
  rw [Wt h, Wf (by omega)]; rfl
 ·
  rw [Wf h, Wt (by omega)]; rfl

theorem Ydv {l : List Y9j} {id : Int} (h : hasE l id = true) : ∃ (k : Nat) (hk : k < l.length), plc l id = k ∧ l[k].id = id ∧ evAt l id = some l[k] := by
 unfold plc idxP
 cases hf : l.findIdx? (fun e => e.id == id) with
 | none =>
  rw [List.findIdx?_eq_none_iff] at hf
  obtain ⟨e, he, h1⟩ := List.any_eq_true.1 h
  rw [hf e he] at h1; cases h1
 | some k =>
  obtain ⟨hk, hp, hn⟩ := List.findIdx?_eq_some_iff_getElem.1 hf
  refine ⟨k, hk, rfl, by simpa using hp, ?_⟩
  unfold evAt
  rw [List.find?_eq_some_iff_getElem]
  exact ⟨hp, k, hk, rfl, fun j hj => by have := hn j hj; simpa using this⟩
theorem Ydw {l : List Y9j} {id : Int} (h : hasE l id = false) : evAt l id = none := by
 unfold evAt
 rw [List.find?_eq_none]
 intro e he h1
 have := List.any_eq_false.1 h e he
 exact this h1
theorem Ydx {l : List Y9j} {e : Y9j} (h : e ∈ l) : hasE l e.id = true := List.any_eq_true.2 ⟨e, h, by simp⟩
theorem Ydy {l : List Y9j} {id : Int} : hasE l id = true ↔ ∃ e ∈ l, e.id = id := by
 unfold hasE; simp
theorem Ydz {l : List Y9j} {id : Int} {e : Y9j} (h : evAt l id = some e) : e ∈ l ∧ e.id = id := by
 unfold evAt at h
 exact ⟨List.mem_of_find?_eq_some h, by have := List.find?_some h; simpa using this⟩
theorem Up2.inj {l : List Y9j} (h : Up2 l) {i j : Nat} (hi : i < l.length) (hj : j < l.length) (e : l[i].id = l[j].id) : i = j := by
 have := List.pairwise_iff_getElem.1 h
 rcases Nat.lt_trichotomy i j with h1 | h1 | h1
 ·
  have := this i j hi hj h1; omega
 ·
  exact h1
 ·
  have := this j i hj hi h1; omega
theorem Up2.plc {l : List Y9j} (h : Up2 l) {i : Nat} (hi : i < l.length) : plc l l[i].id = i ∧ evAt l l[i].id = some l[i] := by
 obtain ⟨k, hk, h1, h2, h3⟩ := Ydv (Ydx (Wm hi))
 obtain rfl := h.inj hk hi h2
 exact ⟨h1, h3⟩
theorem Up2.evAt_mem {l : List Y9j} (h : Up2 l) {e : Y9j} (he : e ∈ l) : evAt l e.id = some e := by
 obtain ⟨i, hi, rfl⟩ := List.mem_iff_getElem.1 he
 exact (h.plc hi).2

theorem Ye0 (l : List Y9j) (e : Y9j) (hl : l.length < 9223372036854775807) (he : e.prev.length < 9223372036854775807) : Z2k l e = some (e.prev.all fun p => hasE l p) := by
 unfold Z2k
 rw [Ydb (l := e.prev) (fun p => hasE l p) (.inl false) (.inr ()) he (fun i hi => by
  unfold Z2j
  rw [dlt hi, Wu, Ycv hi, Wb, Yds _ _ hl, Wb, Ydu, Ycw hi he]
  cases hasE l e.prev[i] <;> rfl) (by unfold Z2j; rw [dnlt, Wv])]
 cases e.prev.all fun p => hasE l p <;> rfl


theorem Ye1 {α : Type} {p : α → Bool} : ∀ {l : List α}, l.Pairwise (fun a b => p b = true → p a = true) → ∀ (i : Nat) (hi : i < l.length), p l[i] = true ↔ i < l.countP p
 | [], _, i, hi => by simp at hi
 | a :: r, h, i, hi => by
  obtain ⟨h1, h2⟩ := List.pairwise_cons.1 h
  have ih := Ye1 h2
  by_cases ha : p a = true
  ·
   rw [List.countP_cons_of_pos ha]
   cases i with
   | zero => simp [ha]
   | succ i => simpa using ih i (by simpa using hi)
  ·
   rw [List.countP_cons_of_neg ha]
   have : r.countP p = 0 := List.countP_eq_zero.2 fun b hb hpb => ha (h1 b hb hpb)
   rw [this]
   cases i with
   | zero => simp [ha]
   | succ i =>
    have := ih i (by simpa using hi)
    simp only [List.getElem_cons_succ]
    rw [List.countP_eq_zero.2 fun b hb hpb => ha (h1 b hb hpb)] at this
    exact ⟨fun h => absurd (this.1 h) (by omega), fun h => absurd h (by omega)⟩

theorem Ye2 {i j : Nat} (h : i + j < 9223372036854775808) : IntKind.i64.wrap (shrI .u64 (IntKind.u64.wrap (IntKind.i64.wrap ((i : Int) + j))) 1) = (((i + j) / 2 : Nat) : Int) := by
 rw [Y4y (n := (i : Int) + j) (by omega) (by omega), show (i : Int) + j = ((i + j : Nat) : Int) from by omega, shr1 (by omega), Y4y (by omega) (by omega)]

theorem Ye3 {step : Int × Int → Option ((Int × Int) ⊕ Int)} {n k : Nat} (hn : n < 4611686018427387904) (hk : k ≤ n)
  (h1 : ∀ i j : Nat, i < j → j ≤ n → step ((i : Int), (j : Int)) = some (if (i + j) / 2 < k then .inl ((((i + j) / 2 + 1 : Nat) : Int), (j : Int)) else .inl ((i : Int), (((i + j) / 2 : Nat) : Int))))
  (h2 : ∀ i : Nat, i ≤ n → step ((i : Int), (i : Int)) = some (.inr (i : Int))) : iter step big (0, (n : Int)) = some (k : Int) := by
 refine Y52 (fun m (x : Int × Int) => ∃ i j : Nat, x = ((i : Int), (j : Int)) ∧ i ≤ k ∧ k ≤ j ∧ j ≤ n ∧ j - i ≤ m) ?_ (m := n) ⟨0, n, rfl, by omega, hk, by omega, by omega⟩ (Ycq (by omega))
 rintro m x ⟨i, j, rfl, hi, hj, hjn, hm⟩
 by_cases hij : i < j
 ·
  right
  rw [h1 i j hij hjn]
  by_cases hc : (i + j) / 2 < k
  ·
   rw [if_pos hc]
   exact ⟨_, j - ((i + j) / 2 + 1), rfl, by omega, _, _, rfl, by omega, hj, hjn, by omega⟩
  ·
   rw [if_neg hc]
   exact ⟨_, (i + j) / 2 - i, rfl, by omega, _, _, rfl, hi, by omega, by omega, by omega⟩
 ·
  left
  obtain rfl : i = j := by omega
  obtain rfl : i = k := by omega
  exact h2 i hjn

def cmpI (a b : Int) : Int := if a < b then -1 else if a > b then 1 else 0
theorem Ye4 (a b : Int) : Za4 a b = some (cmpI a b) := by
 unfold Za4 Za2 cmpI
 by_cases h1 : a < b
 ·
  simp [h1]
 ·
  by_cases h2 : a > b
  ·
   simp [h1, h2]
  ·
   simp [h1, h2]
theorem Ye5 (a b : Int) : decide (cmpI a b < 0) = decide (a < b) := by
 unfold cmpI; split
 ·
  simp [*]
 ·
  split <;> simp [*]
theorem Ye6 (a b : Int) : (cmpI a b == 0) = decide (a = b) := by
 rw [beqd]
 unfold cmpI
 by_cases h1 : a < b
 ·
  rw [if_pos h1, Wf (by omega), Wf (by omega)]
 ·
  rw [if_neg h1]
  by_cases h2 : a > b
  ·
   rw [if_pos h2, Wf (by omega), Wf (by omega)]
  ·
   rw [if_neg h2, Wt rfl, Wt (by omega)]

theorem Up2.cut {l : List Y9j} (h : Up2 l) (id : Int) {i : Nat} (hi : i < l.length) : l[i].id < id ↔ i < cutE l id := by
 have := Ye1 (p := fun e : Y9j => decide (e.id < id)) (l := l) (h.imp fun {a b} hab hb => by simp at hb ⊢; omega) i hi
 rw [decide_eq_true_eq] at this
 exact this
theorem Ye7 (l : List Y9j) (id : Int) : cutE l id ≤ l.length := List.countP_le_length

theorem Up2.has_cut {l : List Y9j} (h : Up2 l) (id : Int) : hasE l id = true ↔ ∃ hc : cutE l id < l.length, l[cutE l id].id = id := by
 constructor
 ·
  intro hh
  obtain ⟨k, hk, _, h2, _⟩ := Ydv hh
  have h3 := h.cut id hk
  have hc : cutE l id < l.length := by omega
  refine ⟨hc, ?_⟩
  have h4 := h.cut id hc
  rcases Nat.lt_or_ge (cutE l id) k with h5 | h5
  ·
   have := List.pairwise_iff_getElem.1 h _ _ hc hk h5
   omega
  ·
   obtain rfl : k = cutE l id := by omega
   exact h2
 ·
  rintro ⟨hc, h1⟩
  exact Ydy.2 ⟨_, Wm hc, h1⟩
theorem Up2.plc_cut {l : List Y9j} (h : Up2 l) {id : Int} (hh : hasE l id = true) : Go.Proofs.YtomachnjepgpbaaGreat.plc l id = cutE l id := by
 obtain ⟨hc, h1⟩ := (h.has_cut id).1 hh
 have := (h.plc hc).1
 rwa [h1] at this

theorem Ye8 (l : List Y9j) (id : Int) (h : Up2 l) (hl : l.length < 4611686018427387904) : Zad l id = some ((cutE l id : Int), hasE l id) := by
 unfold Zad Zab
 have hc : ∀ e : Y9j, Za6 e id = some (cmpI e.id id) := fun e => by unfold Za6; rw [Ye4]; rfl
 rw [Ye3 (n := l.length) (k := cutE l id) hl (Ye7 _ _) ?_ ?_]
 ·
  rw [Wb]
  unfold Za9 Za8
  by_cases hk : cutE l id < l.length
  ·
   rw [dlt hk, Wu, Ycv hk, Wb, hc, Wb, Ye6, Wb]
   simp only [Option.some.injEq, Prod.mk.injEq, true_and]
   by_cases hh : hasE l id = true
   ·
    rw [hh, Wt ((h.has_cut id).1 hh).2]
   ·
    rw [Bool.eq_false_iff.2 hh, Wf (fun h1 => hh ((h.has_cut id).2 ⟨hk, h1⟩))]
  ·
   have : hasE l id = false := Bool.eq_false_iff.2 fun hh => hk ((h.has_cut id).1 hh).1
   rw [Wf (by omega), Wv, this]; rfl
 ·
  intro i j hij hj
  simp only [Zaa]
  have hm : (i + j) / 2 < l.length := by omega
  rw [dlt hij, Wu, Ye2 (by omega), Ycv hm, Wb, hc, Wb, Ye5, Ycw hm (by omega)]
  have := h.cut id hm
  by_cases hlt : l[(i + j) / 2].id < id
  ·
   rw [Wt hlt, if_pos (this.1 hlt)]; rfl
  ·
   rw [Wf hlt, if_neg (fun h1 => hlt (this.2 h1))]; rfl
 ·
  intro i hi
  simp only [Zaa]
  rw [dnlt, Wv]

def zEv : Y9j := Y9j.mk 0 0 0 0 0 0 ByteArray.empty [] 0

theorem Ye9 (g : Y9k) (id : Int) (h : Up2 g.events) (hl : g.events.length < 4611686018427387904) : Zaf g id = some (hasE g.events id) := by
 unfold Zaf; rw [Ye8 _ _ h hl]; rfl
theorem c_at (g : Y9k) (id : Int) (h : Up2 g.events) (hl : g.events.length < 4611686018427387904) : Zbx g id = some ((evAt g.events id).getD zEv, hasE g.events id) := by
 unfold Zbx; rw [Ye8 _ _ h hl, Wb]
 simp only
 cases hh : hasE g.events id with
 | false => rw [Ydw hh]; rfl
 | true =>
  obtain ⟨hc, h1⟩ := (h.has_cut id).1 hh
  have := (h.plc hc).2
  rw [h1] at this
  rw [this, Wu, Ycv hc]; rfl

theorem Yea (g : Y9k) (e : Y9j) (h : Up2 g.events) (hl : g.events.length < 4611686018427387904) (he : e.prev.length < 9223372036854775807) : Zap g e = some (e.prev.all fun p => hasE g.events p) := by
 unfold Zap Zan Zal
 rw [Yde (Yd9 (step := Zak e.prev g) (fun p => !hasE g.events p) he (fun i hi => by
  unfold Zak Zah
  rw [dlt hi, Wu, Ycv hi, Wb, Ye9 _ _ h hl, Wb, Wb, Ycw hi he]
  cases hasE g.events e.prev[i] <;> rfl) (by unfold Zak; rw [dnlt, Wv])) (fun _ => rfl) rfl]
 simp only [Wb, Ydd, Option.some.injEq]
 rw [Bool.eq_iff_iff]
 simp
end Go.Proofs.YtomachnjepgpbaaGreat
namespace Go.Proofs.YtomachnjepgpbaaGreat
open Go Go.Abs

theorem Yeb (x : Int) : 0 ≤ IntKind.u64.wrap x ∧ IntKind.u64.wrap x < 18446744073709551616 := by
 have e : IntKind.u64.wrap x = x % 18446744073709551616 := by simp [IntKind.wrap, IntKind.signed, IntKind.bits]
 rw [e]
 omega
theorem Yec {x : Int} (h0 : 0 ≤ x) (h1 : x < 18446744073709551616) : IntKind.u64.wrap x = x := by
 have e : IntKind.u64.wrap x = x % 18446744073709551616 := by simp [IntKind.wrap, IntKind.signed, IntKind.bits]
 rw [e]
 omega

structure Yed (s : Y9i) : Prop where
 at0 : 0 ≤ s.at_
 atb : s.at_ ≤ s.b.length
 len : s.b.length ≤ 1048576
 size : 0 ≤ s.size ∧ s.size ≤ 12

structure Yee (k : Int) (s : Y9i) (r : Int × Y9i) : Prop where
 ok : Yed r.2
 size : r.2.size = s.size
 nn : 0 ≤ r.1
 lt : 1 ≤ k → r.1 < k
 one : k ≤ 1 → r.1 = 0

theorem n_ok {s : Y9i} (h : Yed s) {k : Int} (hk : k ≤ 4611686018427387904) : ∃ r, Z9 s k = some r ∧ Yee k s r := by
 unfold Z9
 by_cases h1 : k ≤ 1
 ·
  rw [Wt h1, Wu]
  exact ⟨_, rfl, h, rfl, by simp, fun h => by simp; omega, fun _ => rfl⟩
 ·
  rw [Wf h1, Wv]
  have key : ∀ a v : Int, 0 ≤ a → a ≤ s.b.length → ∃ r, Z8 s k a v = some r ∧ Yee k s r := fun a v a0 a1 => by
   simp only [Z8]
   rw [Yec (x := k) (by omega) (by omega)]
   rw [Y4z (by simp; omega), Wb]
   have hr := fun y : Int => Yeb y
   refine ⟨_, rfl, ⟨a0, a1, h.len, h.size⟩, rfl, ?_, fun _ => ?_, fun h2 => absurd h2 h1⟩
   all_goals
    simp only
    generalize hy : IntKind.u64.wrap _ = y
    have hy0 : 0 ≤ y := by rw [← hy]; exact (hr _).1
    have t1 : y.tmod k = y % k := Int.tmod_eq_emod_of_nonneg hy0
    have t2 := Int.emod_nonneg y (by omega : k ≠ 0)
    have t3 := Int.emod_lt_of_pos y (by omega : 0 < k)
    rw [t1, Y4y (by omega) (by omega)]
    assumption
  by_cases h2 : s.at_ < s.b.length
  ·
   rw [Wt h2, Wu]
   have h3 := h.at0
   have h4 := h.len
   obtain ⟨n, hn⟩ := Int.eq_ofNat_of_zero_le h3
   rw [hn] at h2 ⊢
   rw [Ycv (by omega : n < s.b.length), Wb]
   rw [Y4y (by omega) (by omega)]
   exact key _ _ (by omega) (by omega)
  ·
   rw [Wf h2, Wv]
   exact key _ _ h.at0 h.atb

theorem Yef {s : Y9i} (h : Yed s) {k : Int} (hk : k ≤ 4611686018427387904) : ∃ r, Zc s k = some r ∧ Yed r.2 ∧ r.2.size = s.size := by
 obtain ⟨r, h1, h2⟩ := n_ok h hk
 unfold Zc
 rw [h1, Wb]
 exact ⟨_, rfl, h2.ok, h2.size⟩

theorem Yeg {s : Y9i} (h : Yed s) {l : List ByteArray} (h1 : 1 ≤ l.length) (hl : l.length ≤ 1000) : ∃ r, Zj s l = some r ∧ Yed r.2 ∧ r.2.size = s.size := by
 obtain ⟨r, e1, e2⟩ := n_ok h (k := (l.length : Int)) (by omega)
 unfold Zj
 rw [e1, Wb]
 obtain ⟨n, hn⟩ := Int.eq_ofNat_of_zero_le e2.nn
 have hlt := e2.lt (by omega)
 rw [hn] at hlt ⊢
 rw [Ycv (by omega : n < l.length), Wb]
 exact ⟨_, rfl, e2.ok, e2.size⟩

theorem Yeh {s : Y9i} (h : Yed s) : ∃ r, Z41 s = some r ∧ Yed r.2 ∧ r.2.size = s.size := by
 obtain ⟨r, e1, e2⟩ := n_ok h (k := 14) (by omega)
 unfold Z41
 rw [e1, Wb]
 obtain ⟨n, hn⟩ := Int.eq_ofNat_of_zero_le e2.nn
 have hlt := e2.lt (by omega)
 rw [hn] at hlt ⊢
 rw [Ycv (by simp; omega), Wb]
 exact ⟨_, rfl, e2.ok, e2.size⟩

theorem Yei {p : List Int} (hl : p.length ≤ 1048576) : ∃ s, Z5 p = some s ∧ Yed s := by
 unfold Z5
 obtain ⟨o, e1, _⟩ := Y51 (step := fun z18 : Int × Int => Z4 p z18.1 z18.2) (p := fun _ : Int => True)
  (fun n (z : Int × Int) => ∃ j : Nat, z.2 = (j : Int) ∧ j ≤ 64 ∧ n = 64 - j) (by
  rintro n ⟨m, y⟩ ⟨j, hy, hj, rfl⟩
  simp only at hy
  subst hy
  simp only [Z4]
  by_cases h1 : (j : Int) < p.length
  ·
   rw [Wt h1, Wu]
   simp only [Z3]
   by_cases h2 : (j : Int) < 64
   ·
    right
    rw [Wt h2, Wu, Ycv (by omega : j < p.length), Wb, Y4y (by omega) (by omega)]
    exact ⟨_, 64 - (j + 1), rfl, by omega, j + 1, rfl, by omega, rfl⟩
   ·
    left
    rw [Wf h2, Wv]
    exact ⟨_, rfl, trivial⟩
  ·
   left
   rw [Wf h1, Wv]
   exact ⟨_, rfl, trivial⟩) big 64 (88172645463325252, 0) ⟨0, rfl, by omega, rfl⟩ (Ycq (by omega))
 rw [e1, Wb]
 simp only [Z2, Z1]
 have hd : IntKind.i64.wrap (Int.tdiv (p.length : Int) 20) = (p.length : Int) / 20 := by
  rw [Int.tdiv_eq_ediv_of_nonneg (by omega), Y4y (by omega) (by omega)]
 rw [hd]
 by_cases h3 : (p.length : Int) / 20 > 12
 ·
  rw [Wt h3, Wu]
  exact ⟨_, rfl, by simp, by simp, hl, by simp⟩
 ·
  rw [Wf h3, Wv]
  exact ⟨_, rfl, by simp, by simp, hl, by simp only; omega⟩

theorem Yej {s : Y9i} (h : Yed s) {m : Nat} (hm : m ≤ 1000) : ∃ r, Zg s (m : Int) = some r ∧ Yed r.2 ∧ r.2.size = s.size := by
 unfold Zg
 obtain ⟨o, e1, e2⟩ := Y51 (step := fun z29 : List Int × Int × Int × Int × List Int × Int => Zf (m : Int) z29.1 z29.2.1 z29.2.2.1 z29.2.2.2.1 z29.2.2.2.2.1 z29.2.2.2.2.2) (p := fun o : List Int × List Int × Int × Int × Int => Yed ⟨o.2.1, o.2.2.1, o.2.2.2.1, o.2.2.2.2⟩ ∧ o.2.2.2.2 = s.size)
  (fun n (z : List Int × Int × Int × Int × List Int × Int) => ∃ j : Nat, z.2.2.2.2.2 = (j : Int) ∧ z.2.2.2.2.1.length = j ∧ j ≤ m ∧ Yed ⟨z.1, z.2.1, z.2.2.1, z.2.2.2.1⟩ ∧ z.2.2.2.1 = s.size ∧ n = m - j) (by
  rintro n ⟨b, a, x, sz, l, y⟩ ⟨j, hy, hlen, hj, hs, hsz, rfl⟩
  simp only at hy hlen hs hsz
  subst hy
  simp only [Zf]
  by_cases h1 : (j : Int) < m
  ·
   right
   obtain ⟨r, r1, r2⟩ := n_ok hs (k := 256) (by omega)
   rw [Wt h1, Wu, r1, Wb, Y4z (by simp; omega), Wb, Y4y (by omega) (by omega)]
   exact ⟨_, m - (j + 1), rfl, by omega, j + 1, rfl, by simp [hlen], by omega, r2.ok, r2.size.trans hsz, rfl⟩
  ·
   left
   rw [Wf h1, Wv]
   exact ⟨_, rfl, hs, hsz⟩) big m (s.b, s.at_, s.mix, s.size, [], 0) ⟨0, rfl, rfl, by omega, h, rfl, rfl⟩ (Ycq (by omega))
 rw [e1, Wb]
 exact ⟨_, rfl, e2.1, e2.2⟩
end Go.Proofs.YtomachnjepgpbaaGreat
namespace Go.Proofs.YtomachnjepgpbaaGreat
open Go Go.Abs

def DrP {α : Type} (s : Y9i) (P : α → Prop) (x : Option (α × Y9i)) : Prop := ∃ r, x = some r ∧ Yed r.2 ∧ r.2.size = s.size ∧ P r.1

theorem DrP.bind {α β : Type} {s s0 : Y9i} {P : β → Prop} {Q : α → Prop} {x : Option (α × Y9i)} {f : α × Y9i → Option (β × Y9i)} (h : DrP s0 Q x) (hs : s0.size = s.size) (k : ∀ r, Yed r.2 → r.2.size = s.size → Q r.1 → DrP s P (f r)) : DrP s P (x.bind f) := by
 obtain ⟨r, rfl, h1, h2, h3⟩ := h
 exact k r h1 (h2.trans hs) h3
theorem DrP.cond {β : Type} {s : Y9i} {P : β → Prop} {b : Bool} {x y : Option (β × Y9i)} (h1 : b = true → DrP s P x) (h2 : b = false → DrP s P y) : DrP s P (cond b x y) := by
 cases b with
 | true => exact h1 rfl
 | false => exact h2 rfl
theorem DrP.get {α β : Type} {s : Y9i} {P : β → Prop} {l : List α} {i : Int} {f : α → Option (β × Y9i)} (h0 : 0 ≤ i) (h1 : i < l.length) (k : ∀ e ∈ l, DrP s P (f e)) : DrP s P ((getI l i).bind f) := by
 obtain ⟨n, rfl⟩ := Int.eq_ofNat_of_zero_le h0
 rw [Ycv (by omega : n < l.length), Wb]
 exact k _ (Wm _)
theorem DrP.ret {β : Type} {s s' : Y9i} {P : β → Prop} {v : β} (h : Yed s') (hs : s'.size = s.size) (hp : P v) : DrP s P (some (v, s')) := ⟨_, rfl, h, hs, hp⟩

theorem nD {s : Y9i} (h : Yed s) {k : Int} (h1 : 1 ≤ k) (hk : k ≤ 4611686018427387904) : DrP s (fun v => 0 ≤ v ∧ v < k) (Z9 s k) := by
 obtain ⟨r, e, d⟩ := n_ok h hk
 exact ⟨r, e, d.ok, d.size, d.nn, d.lt h1⟩
theorem oneD {s : Y9i} (h : Yed s) {k : Int} (hk : k ≤ 4611686018427387904) : DrP s (fun _ => True) (Zc s k) := by
 obtain ⟨r, e, d1, d2⟩ := Yef h hk
 exact ⟨r, e, d1, d2, trivial⟩
theorem Yek {s : Y9i} (h : Yed s) {l : List ByteArray} (h1 : 1 ≤ l.length) (hl : l.length ≤ 1000) : DrP s (fun _ => True) (Zj s l) := by
 obtain ⟨r, e, d1, d2⟩ := Yeg h h1 hl
 exact ⟨r, e, d1, d2, trivial⟩
theorem Yel {s : Y9i} (h : Yed s) : DrP s (fun _ => True) (Z41 s) := by
 obtain ⟨r, e, d1, d2⟩ := Yeh h
 exact ⟨r, e, d1, d2, trivial⟩
theorem Yem {s : Y9i} (h : Yed s) {m : Int} (h0 : 0 ≤ m) (hm : m ≤ 1000) : DrP s (fun _ => True) (Zg s m) := by
 obtain ⟨n, rfl⟩ := Int.eq_ofNat_of_zero_le h0
 obtain ⟨r, e, d1, d2⟩ := Yej h (m := n) (by omega)
 exact ⟨r, e, d1, d2, trivial⟩

theorem Yen {s : Y9i} (h : Yed s) (e : Y9j) : DrP s (fun v : Y9j => v.id = e.id ∧ v.room = e.room ∧ v.author = e.author ∧ v.prev = e.prev ∧ v.time = e.time) (Zm s e) := by
 unfold Zm
 have fin : ∀ (k a b : Int) (t : ByteArray) (s' : Y9i), Yed s' → s'.size = s.size → DrP s (fun v : Y9j => v.id = e.id ∧ v.room = e.room ∧ v.author = e.author ∧ v.prev = e.prev ∧ v.time = e.time) (Zl e k a b t s'.b s'.at_ s'.mix s'.size) := fun k a b t s' h1 h2 => ⟨_, rfl, h1, h2, rfl, rfl, rfl, rfl, rfl⟩
 refine DrP.bind (nD h (by omega) (by omega)) rfl fun r4 a1 a2 a3 => ?_
 refine DrP.get a3.1 (by simpa using a3.2) fun k _ => ?_
 refine DrP.cond (fun _ => ?_) (fun _ => DrP.cond (fun _ => ?_) (fun _ => DrP.cond (fun _ => ?_) (fun _ => DrP.cond (fun _ => ?_) (fun _ => DrP.cond (fun _ => ?_) (fun _ => DrP.cond (fun _ => ?_) (fun _ => DrP.cond (fun _ => ?_) (fun _ => ?_)))))))
 ·
  refine DrP.bind (nD a1 (by omega) (by omega)) a2 fun r9 b1 b2 b3 => ?_
  refine DrP.bind (nD b1 (by omega) (by omega)) b2 fun r11 c1 c2 c3 => ?_
  refine DrP.bind (oneD c1 (by omega)) c2 fun r13 d1 d2 _ => ?_
  refine DrP.cond (fun _ => ?_) (fun _ => fin _ _ _ _ _ d1 d2)
  exact DrP.bind (nD d1 (by omega) (by omega)) d2 fun r16 f1 f2 _ => fin _ _ _ _ _ f1 f2
 ·
  refine DrP.bind (nD a1 (by omega) (by omega)) a2 fun r19 b1 b2 b3 => ?_
  refine DrP.bind (nD b1 (by omega) (by omega)) b2 fun r22 c1 c2 c3 => ?_
  exact DrP.get c3.1 (by simpa using c3.2) fun k _ => fin _ _ _ _ _ c1 c2
 ·
  refine DrP.bind (nD a1 (by omega) (by omega)) a2 fun r27 b1 b2 b3 => ?_
  exact DrP.bind (Yem b1 b3.1 (by omega)) b2 fun r29 c1 c2 _ => fin _ _ _ _ _ c1 c2
 ·
  exact DrP.bind (nD a1 (by omega) (by omega)) a2 fun r32 b1 b2 _ => fin _ _ _ _ _ b1 b2
 ·
  exact DrP.bind (nD a1 (by omega) (by omega)) a2 fun r35 b1 b2 _ => fin _ _ _ _ _ b1 b2
 ·
  exact DrP.bind (Yek a1 (by simp) (by simp)) a2 fun r38 b1 b2 _ => fin _ _ _ _ _ b1 b2
 ·
  exact DrP.bind (nD a1 (by omega) (by omega)) a2 fun r41 b1 b2 _ => fin _ _ _ _ _ b1 b2
 ·
  exact fin _ _ _ _ _ a1 a2
end Go.Proofs.YtomachnjepgpbaaGreat
namespace Go.Proofs.YtomachnjepgpbaaGreat
open Go Go.Abs

def Whole (l : List Y9j) : Prop := ∀ e ∈ l, ∀ p ∈ e.prev, hasE l p = true
structure Fits (l : List Y9j) : Prop where
 up : Up2 l
 whole : Whole l
 len : l.length ≤ 60
 plen : ∀ e ∈ l, e.prev.length < 9223372036854775807

def dOf (l : List Y9j) (d : List Int) (p : Int) : Int := (getI d (plc l p)).getD 0
def mx2 (a b : Int) : Int := if b > a then b else a
def own (l : List Y9j) (d : List Int) (e : Y9j) : Int := if e.prev.all (fun p => decide (dOf l d p > 0)) = true then e.prev.foldl (fun m p => mx2 m (dOf l d p)) 0 + 1 else 0
def updD (l : List Y9j) (d : List Int) (i : Nat) : List Int := if d.getD i 0 > 0 then d else if own l d (l.getD i zEv) > 0 then d.set i (own l d (l.getD i zEv)) else d
def sweep (l : List Y9j) (d : List Int) : List Int := (List.range l.length).foldl (updD l) d
def Yeo (l : List Y9j) : Nat → List Int → List Int
 | 0, d => d
 | k + 1, d => sweep l (Yeo l k d)
def Yep (l : List Y9j) : List Int := Yeo l l.length (List.replicate l.length 0)

structure Bd (l : List Y9j) (c : Nat) (d : List Int) : Prop where
 len : d.length = l.length
 in_ : ∀ x ∈ d, 0 ≤ x ∧ x ≤ c

theorem Yeq {l : List Y9j} {d : List Int} (hd : d.length = l.length) {p : Int} (hp : hasE l p = true) : getI d (plc l p) = some (dOf l d p) ∧ dOf l d p ∈ d := by
 obtain ⟨k, hk, h1, _, _⟩ := Ydv hp
 unfold dOf
 rw [h1, Ycv (by omega : k < d.length)]
 exact ⟨rfl, Wm _⟩

theorem Yer (f : Int → Int) (c : Int) : ∀ (ps : List Int) (m : Int), m ≤ c → (∀ p ∈ ps, f p ≤ c) → m ≤ ps.foldl (fun m p => mx2 m (f p)) m ∧ ps.foldl (fun m p => mx2 m (f p)) m ≤ c
 | [], m, hm, _ => ⟨Int.le_refl _, hm⟩
 | p :: ps, m, hm, h => by
  have h1 := h p (by simp)
  have h2 : mx2 m (f p) ≤ c ∧ m ≤ mx2 m (f p) := by unfold mx2; split <;> omega
  have := Yer f c ps (mx2 m (f p)) h2.1 fun q hq => h q (by simp [hq])
  rw [List.foldl_cons]
  omega

theorem Yes {l : List Y9j} {d : List Int} {c : Nat} (hb : Bd l c d) {e : Y9j} (he : ∀ p ∈ e.prev, hasE l p = true) : 0 ≤ own l d e ∧ own l d e ≤ c + 1 := by
 unfold own
 split
 ·
  have := Yer (dOf l d) c e.prev 0 (by omega) fun p hp => (hb.in_ _ (Yeq hb.len (he p hp)).2).2
  omega
 ·
  omega

theorem Yet {l : List Y9j} {d : List Int} {c i : Nat} (hw : Whole l) (hb : Bd l c d) (hi : i < l.length) : Bd l (c + 1) (updD l d i) := by
 have hge : l.getD i zEv = l[i] := by simp [hi]
 have ho := Yes hb (hw _ (Wm hi))
 unfold updD
 rw [hge]
 split
 ·
  exact ⟨hb.len, fun x hx => by have := hb.in_ x hx; omega⟩
 ·
  split
  ·
   refine ⟨by simp [hb.len], fun x hx => ?_⟩
   rcases List.mem_or_eq_of_mem_set hx with h | h
   ·
    have := hb.in_ x h; omega
   ·
    subst h; omega
  ·
   exact ⟨hb.len, fun x hx => by have := hb.in_ x hx; omega⟩


theorem Zk8 {l : List Y9j} {d : List Int} {c i : Nat} (hf : Fits l) (hb : Bd l c d) (hc : c < 1000000) (hi : i < l.length) :
  iter (fun z : Int × Bool × Int => Z2s l d i z.1 z.2.1 z.2.2) big (0, true, 0) = some (l[i].prev.foldl (fun m p => mx2 m (dOf l d p)) 0, l[i].prev.all fun p => decide (dOf l d p > 0)) := by
 have hw := hf.whole _ (Wm hi)
 have hp := hf.plen _ (Wm hi)
 have := (Ydc (l := l[i].prev) (step := fun z : Int × Bool × Int => Z2s l d i z.1 z.2.1 z.2.2) (fun (s : Int × Bool) (j : Int) => (s.1, s.2, j)) (fun s => s)
  (fun s p => (mx2 s.1 (dOf l d p), s.2 && decide (dOf l d p > 0))) (fun _ _ => True) hp (fun j s hj _ => by
   refine ⟨?_, trivial⟩
   simp only [Z2s]
   rw [Ycv hi, Wb, dlt hj, Wu, Ycv hj, Wb, Yds _ _ (by have := hf.len; omega), Wb, (Yeq hb.len (hw _ (Wm hj))).1, Wb]
   obtain ⟨m, ok⟩ := s
   simp only [Z2r, Z2q, Ycw hj hp, mx2]
   cases ok with
   | true => by_cases h1 : dOf l d l[i].prev[j] > m <;> simp [h1]
   | false => by_cases h1 : dOf l d l[i].prev[j] > m <;> simp [h1])
  (fun s _ => by
   simp only [Z2s]
   rw [Ycv hi, Wb, dnlt, Wv]) (s := (0, true)) trivial).1
 simp only at this
 rw [this]
 congr 1
 generalize l[i].prev = ps
 suffices h : ∀ (ps : List Int) (m : Int) (b : Bool), ps.foldl (fun (s : Int × Bool) p => (mx2 s.1 (dOf l d p), s.2 && decide (dOf l d p > 0))) (m, b) = (ps.foldl (fun m p => mx2 m (dOf l d p)) m, b && ps.all fun p => decide (dOf l d p > 0)) by simpa using h ps 0 true
 intro ps
 induction ps with
 | nil => intro m b; simp
 | cons p ps ih => intro m b; simp only [List.foldl_cons, List.all_cons, ih, Bool.and_assoc]

theorem Zk9 {l : List Y9j} {d : List Int} {c : Nat} (hf : Fits l) (hb : Bd l c d) (hc : c < 900000) : iter (fun z : List Int × Int => Z2t l z.1 z.2) big (d, 0) = some (sweep l d) ∧ Bd l (c + l.length) (sweep l d) := by
 have hl := hf.len
 have := Ydc (l := List.range l.length) (step := fun z : List Int × Int => Z2t l z.1 z.2) (fun s j => (s, j)) (fun s => s) (updD l) (fun i d => Bd l (c + i) d) (by simp; omega) (fun i s hi hI => by
  simp only [List.length_range] at hi
  simp only [List.getElem_range]
  refine ⟨?_, by have := Yet hf.whole hI hi; exact this⟩
  simp only [Z2t]
  have his : i < s.length := by rw [hI.len]; exact hi
  rw [dlt hi, Wu, Ycv his, Wb]
  simp only [Z2o, Ycw hi (by omega)]
  unfold updD
  have e1 : s.getD i 0 = s[i] := by simp [his]
  have e2 : l.getD i zEv = l[i] := by simp [hi]
  rw [e1, e2]
  by_cases h1 : s[i] > 0
  ·
   rw [Wt h1, if_pos h1]; rfl
  ·
   rw [Wf h1, if_neg h1, Wv, Zk8 hf hI (by omega) hi, Wb]
   have ho := Yes hI (hf.whole _ (Wm hi))
   simp only [Z2p, Z2o, Ycw hi (by omega : l.length < 9223372036854775807)]
   have hm := Yer (dOf l s) (c + i : Nat) l[i].prev 0 (by omega) fun p hp => (hI.in_ _ (Yeq hI.len (hf.whole _ (Wm hi) p hp)).2).2
   by_cases h2 : (l[i].prev.all fun p => decide (dOf l s p > 0)) = true
   ·
    have e3 : own l s l[i] = l[i].prev.foldl (fun m p => mx2 m (dOf l s p)) 0 + 1 := by unfold own; rw [if_pos h2]
    rw [h2, Wu, if_pos (by omega), e3, Y4y (by omega) (by omega)]
    simp
   ·
    have e3 : own l s l[i] = 0 := by unfold own; rw [if_neg h2]
    rw [Bool.eq_false_iff.2 h2, Wv, if_neg (by omega)])
  (fun s _ => by
   simp only [List.length_range, Z2t]
   rw [dnlt, Wv]) (s := d) (by simpa using hb)
 simp only [List.length_range] at this
 exact this

theorem Yeu {σ : Type} (f : σ → σ) (l : List Y9j) : ∀ (r : List Y9j) (k : Nat) (s : σ) (F : Nat → σ), (∀ k, F (k + 1) = f (F k)) → s = F k → r.foldl (fun s _ => f s) s = F (k + r.length)
 | [], k, s, F, _, hs => by simpa using hs
 | _ :: r, k, s, F, h, hs => by
  rw [List.foldl_cons, Yeu f l r (k + 1) (f s) F h (by rw [h, hs])]
  congr 1
  simp; omega

theorem Yev {l : List Y9j} (hf : Fits l) : Z2v l = some (Yep l) ∧ Bd l (l.length * l.length) (Yep l) := by
 have hl := hf.len
 unfold Z2v
 rw [Y4z (Wt ⟨by omega, by omega⟩), Wb, Int.toNat_natCast]
 have hz : Bd l 0 (List.replicate l.length 0) := ⟨by simp, fun x hx => by rw [List.eq_of_mem_replicate hx]; simp⟩
 have := Ydc (l := l) (step := fun z : List Int × Int => Z2u l z.1 z.2) (fun s j => (s, j)) (fun s => s) (fun d _ => sweep l d) (fun i d => Bd l (i * l.length) d) (by omega) (fun i s hi hI => by
  have hm : i * l.length ≤ 60 * 60 := Nat.mul_le_mul (by omega) hl
  obtain ⟨h1, h2⟩ := Zk9 hf hI (by omega)
  refine ⟨?_, by rw [Nat.add_mul, Nat.one_mul]; exact h2⟩
  simp only [Z2u]
  rw [dlt hi, Wu, h1, Wb]
  simp only [Z2n, Ycw hi (by omega : l.length < 9223372036854775807)])
  (fun s _ => by simp only [Z2u]; rw [dnlt, Wv]) (s := List.replicate l.length 0) (by simpa using hz)
 have e : l.foldl (fun d _ => sweep l d) (List.replicate l.length 0) = Yep l := by
  have := Yeu (sweep l) l l 0 (List.replicate l.length 0) (fun k => Yeo l k (List.replicate l.length 0)) (fun k => rfl) rfl
  rw [this, Nat.zero_add]; rfl
 rw [e] at this
 rw [this.1]
 exact ⟨rfl, this.2⟩


def Yew (d : List Int) : Nat := d.countP fun x => decide (x = 0)

theorem Yex {l : List Y9j} {d : List Int} {c i : Nat} (hb : Bd l c d) (hi : i < l.length) : updD l d i = d ∨ (d.getD i 0 = 0 ∧ own l d (l.getD i zEv) > 0 ∧ updD l d i = d.set i (own l d (l.getD i zEv)) ∧ Yew (updD l d i) + 1 = Yew d) := by
 have hid : i < d.length := by rw [hb.len]; exact hi
 have e1 : d.getD i 0 = d[i] := by simp [hid]
 unfold updD
 rw [e1]
 split
 ·
  exact .inl rfl
 ·
  split
  ·
   rename_i h1 h2
   have h0 : d[i] = 0 := by have := hb.in_ _ (Wm hid); omega
   refine .inr ⟨h0, h2, rfl, ?_⟩
   unfold Yew
   rw [List.countP_set hid]
   have : 0 < d.countP (fun x => decide (x = 0)) := List.countP_pos_iff.2 ⟨_, Wm hid, by simp [h0]⟩
   rw [if_pos (by simp [h0]), if_neg (by simp only [decide_eq_true_eq]; omega)]
   omega
  ·
   exact .inl rfl

theorem Yey {l : List Y9j} {d : List Int} (hd : ∀ x ∈ d, 0 ≤ x) {c : Int} : ∀ (ps : List Int) (m : Int), (∀ p ∈ ps, dOf l d p ∈ d) →
  (if ps.all (fun p => decide (dOf l d p > 0)) = true then ps.foldl (fun m p => mx2 m (dOf l d p)) m + 1 else 0) = c →
  match ps with
  | [] => m + 1 = c
  | p :: r => if dOf l d p = 0 then c = 0 else (if r.all (fun p => decide (dOf l d p > 0)) = true then r.foldl (fun m p => mx2 m (dOf l d p)) (mx2 m (dOf l d p)) + 1 else 0) = c
 | [], m, _, h => by simpa using h
 | p :: r, m, hp, h => by
  have := hd _ (hp p (by simp))
  by_cases h0 : dOf l d p = 0
  ·
   simp [h0] at h ⊢; exact h.symm
  ·
   have : dOf l d p > 0 := by omega
   simpa [h0, this] using h

theorem Zka {g : Y9k} {d : List Int} {c : Nat} (hf : Fits g.events) (hb : Bd g.events c d) (hc : c < 1000000) {e : Y9j} (he : e ∈ g.events) :
  iter (fun z : Int × Int => Zau g d e z.1 z.2) big (1, 0) = some (own g.events d e) := by
 have hw := hf.whole _ he
 have hp := hf.plen _ he
 have hmem : ∀ p ∈ e.prev, dOf g.events d p ∈ d := fun p hp => (Yeq hb.len (hw p hp)).2
 have := Ycu (τ := Int × Int) (ω := Int) (σ := Int) (step := fun z : Int × Int => Zau g d e z.1 z.2) (n := e.prev.length) (fun s j => (s, j))
  (fun i s => 1 ≤ s ∧ s ≤ c + 1 ∧ (if (e.prev.drop i).all (fun p => decide (dOf g.events d p > 0)) = true then (e.prev.drop i).foldl (fun m p => mx2 m (dOf g.events d p)) (s - 1) + 1 else 0) = own g.events d e)
  (fun o => o = own g.events d e) hp (fun i s hi ⟨hs1, hs2, hI⟩ => by
   simp only [Zau]
   have hm : e.prev[i] ∈ e.prev := Wm hi
   have hh := hw _ hm
   rw [dlt hi, Wu, Ycv hi, Wb, Ye8 _ _ hf.up (by have := hf.len; omega), Wb]
   simp only
   rw [← hf.up.plc_cut hh, (Yeq hb.len hh).1, Wb, beqd, Ycw hi hp]
   have hx := hb.in_ _ (hmem _ hm)
   rw [Y4y (n := dOf g.events d e.prev[i] + 1) (by omega) (by omega)]
   rw [List.drop_eq_getElem_cons hi] at hI
   have hr := Yey (fun x hx => (hb.in_ x hx).1) _ _ (fun p hp' => hmem p (by
    rcases List.mem_cons.1 hp' with rfl | h
    ·
     exact hm
    ·
     exact List.mem_of_mem_drop h)) hI
   simp only at hr
   by_cases h0 : dOf g.events d e.prev[i] = 0
   ·
    rw [Wt h0]
    rw [if_pos h0] at hr
    exact .inr ⟨0, rfl, hr.symm⟩
   ·
    rw [Wf h0]
    rw [if_neg h0] at hr
    refine .inl ⟨_, rfl, ?_, ?_, ?_⟩
    ·
     split <;> omega
    ·
     split <;> omega
    ·
     rw [show (if dOf g.events d e.prev[i] + 1 > s then dOf g.events d e.prev[i] + 1 else s) - 1 = mx2 (s - 1) (dOf g.events d e.prev[i]) by unfold mx2; split <;> split <;> omega]
     exact hr)
  (fun s ⟨_, _, hI⟩ => by
   simp only [Zau]
   rw [dnlt, Wv]
   refine ⟨s, rfl, ?_⟩
   rw [List.drop_length] at hI
   simp at hI
   omega) (s := 1) ⟨by omega, by omega, by unfold own; simp⟩
 obtain ⟨o, h1, rfl⟩ := this
 exact h1

theorem Zkb {g : Y9k} {d : List Int} {c : Nat} (hf : Fits g.events) (hb : Bd g.events c d) (hc : c < 900000) :
  iter (fun z : List Int × Int × Bool × Int => Zav g z.1 z.2.1 z.2.2.1 z.2.2.2) big (d, (Yew d : Int), false, 0) = some (sweep g.events d, (Yew (sweep g.events d) : Int), decide (Yew (sweep g.events d) < Yew d)) ∧ Yew (sweep g.events d) ≤ Yew d ∧ (Yew (sweep g.events d) = Yew d → sweep g.events d = d) := by
 have hl := hf.len
 have hz : ∀ d : List Int, d.length = g.events.length → Yew d ≤ 60 := fun d hd => by have : Yew d ≤ d.length := List.countP_le_length; omega
 have := Ydc (l := List.range g.events.length) (step := fun z : List Int × Int × Bool × Int => Zav g z.1 z.2.1 z.2.2.1 z.2.2.2) (fun (s : List Int × Int × Bool) j => (s.1, s.2.1, s.2.2, j)) (fun s => s) (fun s i => (updD g.events s.1 i, (Yew (updD g.events s.1 i) : Int), decide (Yew (updD g.events s.1 i) < Yew d)))
  (fun i s => Bd g.events (c + i) s.1 ∧ s.2.1 = (Yew s.1 : Int) ∧ s.2.2 = decide (Yew s.1 < Yew d) ∧ Yew s.1 ≤ Yew d ∧ (Yew s.1 = Yew d → s.1 = d)) (by simp; omega) (fun i s hi hall => by
  obtain ⟨s, lf, ch⟩ := s
  obtain ⟨hI, hs1, hs2, hs3, hs4⟩ := hall
  simp only at hI hs1 hs3 hs4
  replace hs2 : ch = decide (Yew s < Yew d) := hs2
  subst hs1 hs2
  simp only [List.length_range] at hi
  simp only [List.getElem_range]
  have hu := Yet hf.whole hI hi
  have hcs := Yex hI hi
  refine ⟨?_, hu, trivial, trivial, ?_, ?_⟩
  ·
   simp only [Zav]
   have his : i < s.length := by rw [hI.len]; exact hi
   rw [dlt hi, Wu, Ycv hi, Wb, Ycv his, Wb]
   have e1 : s.getD i 0 = s[i] := by simp [his]
   have e2 : g.events.getD i zEv = g.events[i] := by simp [hi]
   rw [e1, e2] at hcs
   have hzs := hz s hI.len
   simp only [Zas, Zat, Ycw hi (by omega : g.events.length < 9223372036854775807), Zka hf hI (by omega) (Wm hi), Wb]
   by_cases h1 : s[i] > 0
   ·
    have e3 : updD g.events s i = s := by unfold updD; rw [e1, if_pos h1]
    rw [e3, Wt h1]; rfl
   ·
    rw [Wf h1, Wv]
    by_cases h2 : own g.events s g.events[i] > 0
    ·
     have e3 : updD g.events s i = s.set i (own g.events s g.events[i]) := by unfold updD; rw [e1, e2, if_neg h1, if_pos h2]
     rw [Wt h2, Wu, Int.toNat_natCast, ← e3]
     have h0 : s[i] = 0 := by have := hI.in_ _ (Wm his); omega
     rcases hcs with h | ⟨_, _, _, h⟩
     ·
      exfalso
      rw [e3] at h
      have h5 : s[i]? = some s[i] := We his
      have : (s.set i (own g.events s g.events[i]))[i]? = s[i]? := by rw [h]
      rw [List.getElem?_set_self his, h5] at this
      simp only [Option.some.injEq] at this
      omega
     ·
      rw [Y4y (by omega) (by omega), Wt (by omega : Yew (updD g.events s i) < Yew d)]
      rw [show (Yew s : Int) - 1 = (Yew (updD g.events s i) : Int) by omega]
    ·
     have e3 : updD g.events s i = s := by unfold updD; rw [e1, e2, if_neg h1, if_neg h2]
     rw [Wf h2, Wv, e3]
  ·
   rcases hcs with h | ⟨_, _, _, h⟩
   ·
    rw [h]; exact hs3
   ·
    omega
  ·
   rcases hcs with h | ⟨_, _, _, h⟩
   ·
    rw [h]; exact hs4
   ·
    intro h'; omega)
  (fun s _ => by
   simp only [List.length_range, Zav]
   rw [dnlt, Wv]) (s := (d, (Yew d : Int), false)) ⟨by simpa using hb, rfl, by simp, Nat.le_refl _, fun _ => rfl⟩
 have hfold : ∀ (r : List Nat) (s : List Int × Int × Bool), (r.foldl (fun s i => (updD g.events s.1 i, (Yew (updD g.events s.1 i) : Int), decide (Yew (updD g.events s.1 i) < Yew d))) s).1 = r.foldl (updD g.events) s.1 := by
  intro r
  induction r with
  | nil => intro s; rfl
  | cons i r ih => intro s; rw [List.foldl_cons, List.foldl_cons, ih]
 obtain ⟨h1, h2⟩ := this
 generalize hq : (List.range g.events.length).foldl (fun s i => (updD g.events s.1 i, (Yew (updD g.events s.1 i) : Int), decide (Yew (updD g.events s.1 i) < Yew d))) (d, (Yew d : Int), false) = q at h1 h2
 have h3 : q.1 = sweep g.events d := by rw [← hq, hfold]; rfl
 obtain ⟨q1, q2, q3⟩ := q
 simp only at h2 h3 h1
 subst h3
 obtain ⟨_, h4, h5, h6, h7⟩ := h2
 replace h5 : q3 = decide (Yew (sweep g.events d) < Yew d) := h5
 subst h4 h5
 exact ⟨h1, h6, h7⟩

theorem Yez {l : List Y9j} {d : List Int} (hd : d.length = l.length) (h : Yew d = 0) (hn : ∀ x ∈ d, 0 ≤ x) : sweep l d = d := by
 have : ∀ i, i < l.length → updD l d i = d := fun i hi => by
  have hid : i < d.length := by omega
  have e1 : d.getD i 0 = d[i] := by simp [hid]
  have h0 : d[i] ≠ 0 := fun h0 => by
   have := List.countP_eq_zero.1 h d[i] (Wm hid)
   simp [h0] at this
  have := hn _ (Wm hid)
  unfold updD; rw [e1, if_pos (by omega)]
 unfold sweep
 suffices h : ∀ r : List Nat, (∀ i ∈ r, i < l.length) → r.foldl (updD l) d = d from h _ fun i hi => by simpa using hi
 intro r
 induction r with
 | nil => intro _; rfl
 | cons i r ih => intro hr; rw [List.foldl_cons, this i (hr i (by simp))]; exact ih fun j hj => hr j (by simp [hj])

theorem Yf0 {l : List Y9j} {d : List Int} {k : Nat} (h : sweep l (Yeo l k d) = Yeo l k d) : ∀ m, k ≤ m → Yeo l m d = Yeo l k d
 | 0, hm => by
  obtain rfl : k = 0 := by omega
  rfl
 | m + 1, hm => by
  by_cases hk : k = m + 1
  ·
   subst hk; rfl
  ·
   rw [Yeo, Yf0 h m (by omega), h]

theorem Yf1 {l : List Y9j} (hf : Fits l) {d : List Int} (hd : Bd l 0 d) : ∀ k, k ≤ l.length → Bd l (k * l.length) (Yeo l k d)
 | 0, _ => by rw [Nat.zero_mul]; exact hd
 | k + 1, hk => by
  have h1 := Yf1 hf hd k (by omega)
  have hl := hf.len
  have hm : k * l.length ≤ 60 * 60 := Nat.mul_le_mul (by omega) hl
  have h2 := (Zk9 hf h1 (by omega)).2
  rw [Nat.add_mul, Nat.one_mul]
  exact h2

theorem Yf2 {g : Y9k} (hf : Fits g.events) : Zay g = some (Yep g.events, decide (Yew (Yep g.events) = 0)) := by
 have hl := hf.len
 unfold Zay
 rw [Y4z (Wt ⟨by omega, by omega⟩), Wb, Int.toNat_natCast]
 have hz : Bd g.events 0 (List.replicate g.events.length 0) := ⟨by simp, fun x hx => by rw [List.eq_of_mem_replicate hx]; simp⟩
 generalize hd0 : List.replicate g.events.length (0 : Int) = d0 at hz
 have hz0 : Yew d0 = g.events.length := by rw [← hd0]; unfold Yew; rw [List.countP_replicate]; simp
 have := Y51 (step := fun z : List Int × Int × Bool => Zax g z.1 z.2.1 z.2.2) (p := fun o : List Int × Int => o = (Yep g.events, (Yew (Yep g.events) : Int)))
  (fun m (x : List Int × Int × Bool) => ∃ k, k ≤ g.events.length ∧ x.1 = Yeo g.events k d0 ∧ x.2.1 = (Yew x.1 : Int) ∧ ((x.2.2 = true ∧ k + Yew x.1 ≤ g.events.length ∧ m = Yew x.1 + 1) ∨ (x.2.2 = false ∧ sweep g.events x.1 = x.1 ∧ m = 0))) (by
  rintro m ⟨d, lf, ch⟩ ⟨k, hk, h1, h2, h3⟩
  simp only at h1 h2 h3
  have hb := Yf1 hf hz k hk
  rw [← h1] at hb
  have hm : k * g.events.length ≤ 60 * 60 := Nat.mul_le_mul (by omega) hl
  have hfin : sweep g.events d = d → Yep g.events = d := fun h => by
   unfold Yep
   rw [hd0, Yf0 (k := k) (by rw [← h1]; exact h) _ hk, h1]
  simp only [Zax, Zaw]
  rcases h3 with ⟨rfl, h4, rfl⟩ | ⟨rfl, h4, rfl⟩
  ·
   rw [Wu, h2]
   by_cases hp : (Yew d : Int) > 0
   ·
    rw [Wt hp, Wu]
    obtain ⟨e1, e2, e3⟩ := Zkb hf hb (by omega)
    rw [e1, Wb]
    right
    by_cases hlt : Yew (sweep g.events d) < Yew d
    ·
     refine ⟨_, Yew (sweep g.events d) + 1, rfl, by omega, k + 1, by omega, ?_, rfl, .inl ⟨Wt hlt, ?_, rfl⟩⟩
     ·
      simp only [Yeo]; rw [h1]
     ·
      simp only; omega
    ·
     have e4 := e3 (by omega)
     refine ⟨_, 0, rfl, by omega, k, hk, by simp only; rw [e4, h1], rfl, .inr ⟨Wf hlt, by simp only; rw [e4, e4], rfl⟩⟩
   ·
    rw [Wf hp, Wv]
    left
    have h0 : Yew d = 0 := by omega
    rw [hfin (Yez hb.len h0 fun x hx => (hb.in_ x hx).1)]
    exact ⟨_, rfl, rfl⟩
  ·
   left
   rw [Wv, Wv, h2, hfin h4]
   exact ⟨_, rfl, rfl⟩) big (g.events.length + 1) (d0, (g.events.length : Int), true) ⟨0, by omega, rfl, by simp only; rw [hz0], .inl ⟨rfl, by simp only; omega, by simp only; omega⟩⟩ (Ycq (by omega))
 obtain ⟨o, ho, rfl⟩ := this
 rw [ho, Wb]
 simp only [Zar, beqd]
 congr 2
 by_cases h : Yew (Yep g.events) = 0
 ·
  rw [Wt h, Wt (by omega)]
 ·
  rw [Wf h, Wf (by omega)]
end Go.Proofs.YtomachnjepgpbaaGreat
namespace Go.Proofs.YtomachnjepgpbaaGreat
open Go Go.Abs


section
variable {α : Type}

theorem Yf3 {l X Y : List α} {u : α} {n : Nat} (h : l = X ++ u :: Y) (hn : n = X.length) : getI l (n : Int) = some u := by
 subst h hn
 exact Y50 (by simp)
theorem Yf4 {l X Y : List α} {u v : α} {n : Nat} (h : l = X ++ u :: Y) (hn : n = X.length) : l.set n v = X ++ v :: Y := by
 subst h hn
 simp

theorem Yf5 {step : Int × Int → Option ((Int × Int) ⊕ Int)} {lo hi k : Nat} (hn : hi < 4611686018427387904) (hlo : lo ≤ k) (hk : k ≤ hi)
  (h1 : ∀ i j : Nat, lo ≤ i → i < j → j ≤ hi → step ((i : Int), (j : Int)) = some (if (i + j) / 2 < k then .inl ((((i + j) / 2 + 1 : Nat) : Int), (j : Int)) else .inl ((i : Int), (((i + j) / 2 : Nat) : Int))))
  (h2 : ∀ i : Nat, i ≤ hi → step ((i : Int), (i : Int)) = some (.inr (i : Int))) : iter step big ((lo : Int), (hi : Int)) = some (k : Int) := by
 refine Y52 (fun m (x : Int × Int) => ∃ i j : Nat, x = ((i : Int), (j : Int)) ∧ lo ≤ i ∧ i ≤ k ∧ k ≤ j ∧ j ≤ hi ∧ j - i ≤ m) ?_ (m := hi) ⟨lo, hi, rfl, by omega, hlo, hk, by omega, by omega⟩ (Ycq (by omega))
 rintro m x ⟨i, j, rfl, hl, hi, hj, hjn, hm⟩
 by_cases hij : i < j
 ·
  right
  rw [h1 i j hl hij hjn]
  by_cases hc : (i + j) / 2 < k
  ·
   rw [if_pos hc]
   exact ⟨_, j - ((i + j) / 2 + 1), rfl, by omega, _, _, rfl, by omega, by omega, hj, hjn, by omega⟩
  ·
   rw [if_neg hc]
   exact ⟨_, (i + j) / 2 - i, rfl, by omega, _, _, rfl, hl, hi, by omega, by omega, by omega⟩
 ·
  left
  obtain rfl : i = j := by omega
  obtain rfl : i = k := by omega
  exact h2 i hjn

theorem Yf6 {R : α → α → Prop} {l r : List α} : (l ++ r).Pairwise R ↔ l.Pairwise R ∧ r.Pairwise R ∧ ∀ a ∈ l, ∀ b ∈ r, R a b := List.pairwise_append
end


def dd (d : List Int) (x : Int) : Int := d.getD x.toNat 0
def Lt2 (d : List Int) (x y : Int) : Prop := dd d x < dd d y ∨ dd d x = dd d y ∧ x < y
def InR (d : List Int) (x : Int) : Prop := 0 ≤ x ∧ x < d.length

theorem Yf7 {d : List Int} {x : Int} (h : InR d x) : getI d x = some (dd d x) := by
 obtain ⟨h0, h1⟩ := h
 have hlt : x.toNat < d.length := by omega
 unfold getI dd
 rw [if_pos h0, We hlt]
 simp [hlt]
theorem Yf8 {d : List Int} {x y : Int} (hx : InR d x) (hy : InR d y) : Zcb x y d = some (cmpI (dd d x) (dd d y)) := by
 unfold Zcb
 rw [Yf7 hx, Wb, Yf7 hy, Wb, Ye4]; rfl

theorem Yf9 (d : List Int) (P U M V S : List Int) (hUV : U.length = V.length) (hb : P.length + U.length + M.length + V.length + S.length < 1000000) :
  Zck (P ++ U ++ M ++ V ++ S) (P.length : Int) ((P.length + U.length + M.length : Nat) : Int) (U.length : Int) d = some (P ++ V ++ M ++ U ++ S) := by
 unfold Zck
 obtain ⟨o, h1, rfl⟩ := Yct (τ := List Int × Int) (ω := List Int) (σ := List Int) (step := fun z : List Int × Int => Zcj (P.length : Int) ((P.length + U.length + M.length : Nat) : Int) (U.length : Int) z.1 z.2) (n := U.length) (fun s j => (s, j))
  (fun i s => ∃ U1 U2 V1 V2, U = U1 ++ U2 ∧ V = V1 ++ V2 ∧ U1.length = i ∧ V1.length = i ∧ s = P ++ V1 ++ U2 ++ M ++ U1 ++ V2 ++ S) (fun o => o = P ++ V ++ M ++ U ++ S) (by omega) (by
  rintro i s hi ⟨U1, U2, V1, V2, hU, hV, hU1, hV1, rfl⟩
  cases U2 with
  | nil => rw [hU] at hi; simp at hi; omega
  | cons u U2 =>
   cases V2 with
   | nil => rw [hUV, hV] at hi; simp at hi; omega
   | cons v V2 =>
    have hlU : U.length = U1.length + (U2.length + 1) := by rw [hU]; simp
    have hlV : V.length = V1.length + (V2.length + 1) := by rw [hV]; simp
    simp only [Zcj]
    rw [dlt hi, Wu, Y4y (n := ((P.length + U.length + M.length : Nat) : Int) + (i : Int)) (by omega) (by omega), Y4y (n := (P.length : Int) + (i : Int)) (by omega) (by omega), Ycw hi (by omega)]
    rw [show ((P.length + U.length + M.length : Nat) : Int) + (i : Int) = ((P.length + U.length + M.length + i : Nat) : Int) from by omega, show (P.length : Int) + (i : Int) = ((P.length + i : Nat) : Int) from by omega, Int.toNat_natCast, Int.toNat_natCast]
    rw [Yf3 (X := P ++ V1 ++ (u :: U2) ++ M ++ U1) (u := v) (Y := V2 ++ S) (by simp) (by simp; omega), Wb]
    rw [Yf3 (X := P ++ V1) (u := u) (Y := U2 ++ M ++ U1 ++ (v :: V2) ++ S) (by simp) (by simp; omega), Wb]
    rw [Yf4 (X := P ++ V1) (u := u) (Y := U2 ++ M ++ U1 ++ (v :: V2) ++ S) (by simp) (by simp; omega)]
    rw [Yf3 (X := P ++ V1 ++ (v :: U2) ++ M ++ U1) (u := v) (Y := V2 ++ S) (by simp) (by simp; omega), Wb]
    rw [Yf4 (X := P ++ V1 ++ (v :: U2) ++ M ++ U1) (u := v) (Y := V2 ++ S) (by simp) (by simp; omega)]
    exact ⟨_, rfl, U1 ++ [u], U2, V1 ++ [v], V2, by simp [hU], by simp [hV], by simp [hU1], by simp [hV1], by simp⟩) (by
  rintro s ⟨U1, U2, V1, V2, hU, hV, hU1, hV1, rfl⟩
  have h2 : U2 = [] := by
   have := congrArg List.length hU
   rw [List.length_append] at this
   exact List.eq_nil_of_length_eq_zero (by omega)
  have h3 : V2 = [] := by
   have := congrArg List.length hV
   rw [List.length_append] at this
   exact List.eq_nil_of_length_eq_zero (by omega)
  subst h2 h3
  simp only [Zcj]
  rw [dnlt, Wv]
  exact ⟨_, rfl, by simp [hU, hV]⟩) (s := P ++ U ++ M ++ V ++ S) ⟨[], U, [], V, rfl, rfl, rfl, rfl, by simp⟩
 rw [show ((P ++ U ++ M ++ V ++ S, (0 : Int)) : List Int × Int) = (P ++ U ++ M ++ V ++ S, ((0 : Nat) : Int)) from rfl]
 rw [show (((0 : Nat) : Int)) = 0 from rfl, h1]
 rfl

theorem Yfa (d : List Int) (P X Y S : List Int) (hX : X ≠ []) (hY : Y ≠ []) (hb : P.length + X.length + Y.length + S.length < 1000000) :
  Zco (P ++ X ++ Y ++ S) (P.length : Int) ((P.length + X.length : Nat) : Int) ((P.length + X.length + Y.length : Nat) : Int) d = some (P ++ Y ++ X ++ S) := by
 unfold Zco
 rw [Y4y (n := ((P.length + X.length : Nat) : Int) - (P.length : Int)) (by omega) (by omega), Y4y (n := ((P.length + X.length + Y.length : Nat) : Int) - ((P.length + X.length : Nat) : Int)) (by omega) (by omega)]
 rw [show ((P.length + X.length : Nat) : Int) - (P.length : Int) = (X.length : Int) from by omega, show ((P.length + X.length + Y.length : Nat) : Int) - ((P.length + X.length : Nat) : Int) = (Y.length : Int) from by omega]
 generalize hT : P ++ Y ++ X ++ S = T
 generalize hm : P.length + X.length = m
 have := Y51 (step := fun z : List Int × Int × Int => Zcn (m : Int) d z.1 z.2.1 z.2.2)
  (p := fun o : List Int × Int => Zcm (m : Int) d o.1 o.2 = some T)
  (fun k (x : List Int × Int × Int) => ∃ P' X' Y' S', x = (P' ++ X' ++ Y' ++ S', (X'.length : Int), (Y'.length : Int)) ∧ P'.length + X'.length = m ∧ P' ++ Y' ++ X' ++ S' = T ∧ X' ≠ [] ∧ Y' ≠ [] ∧ P'.length + X'.length + Y'.length + S'.length < 1000000 ∧ k = X'.length + Y'.length) (by
  rintro k x ⟨P', X', Y', S', rfl, hm', hT', hX', hY', hb', rfl⟩
  have hx0 : 0 < X'.length := List.length_pos_iff.2 hX'
  have hy0 : 0 < Y'.length := List.length_pos_iff.2 hY'
  simp only [Zcn, bned]
  by_cases he : X'.length = Y'.length
  ·
   left
   rw [Wt (by omega : (X'.length : Int) = (Y'.length : Int))]
   refine ⟨_, rfl, ?_⟩
   simp only [Zcm]
   rw [Y4y (by omega) (by omega), show (m : Int) - (X'.length : Int) = (P'.length : Int) from by omega]
   have := Yf9 d P' X' [] Y' S' he (by simp only [List.length_nil]; omega)
   simp only [List.append_nil, List.length_nil, Nat.add_zero] at this
   rw [hm'] at this
   rw [this]
   exact congrArg some hT'
  ·
   right
   rw [Wf (by omega : ¬ (X'.length : Int) = (Y'.length : Int))]
   simp only [Bool.not_false, Wu]
   by_cases hlt : X'.length > Y'.length
   ·
    rw [Wt (by omega : (X'.length : Int) > (Y'.length : Int)), Wu]
    have hs : X' = X'.take Y'.length ++ X'.drop Y'.length := (List.take_append_drop _ _).symm
    generalize hA : X'.take Y'.length = A at hs
    generalize hB : X'.drop Y'.length = B at hs
    have hAl : A.length = Y'.length := by rw [← hA]; simp; omega
    have hBl : B.length = X'.length - Y'.length := by rw [← hB]; simp
    rw [Y4y (n := (m : Int) - (X'.length : Int)) (by omega) (by omega), show (m : Int) - (X'.length : Int) = (P'.length : Int) from by omega]
    have := Yf9 d P' A B Y' S' hAl (by omega)
    rw [show P' ++ A ++ B ++ Y' ++ S' = P' ++ X' ++ Y' ++ S' by rw [hs]; simp, show P'.length + A.length + B.length = m by omega, hAl] at this
    rw [this, Wb, Y4y (by omega) (by omega)]
    refine ⟨_, B.length + A.length, rfl, by omega, P' ++ Y', B, A, S', ?_, by simp; omega, by rw [← hT', hs]; simp, List.length_pos_iff.1 (by omega), List.length_pos_iff.1 (by omega), by simp; omega, rfl⟩
    simp only [Prod.mk.injEq, true_and]
    exact ⟨by omega, by omega⟩
   ·
    rw [Wf (by omega : ¬ (X'.length : Int) > (Y'.length : Int)), Wv]
    have hs : Y' = Y'.take (Y'.length - X'.length) ++ Y'.drop (Y'.length - X'.length) := (List.take_append_drop _ _).symm
    generalize hA : Y'.take (Y'.length - X'.length) = A at hs
    generalize hB : Y'.drop (Y'.length - X'.length) = B at hs
    have hAl : A.length = Y'.length - X'.length := by rw [← hA]; simp
    have hBl : X'.length = B.length := by rw [← hB]; simp; omega
    rw [Y4y (n := (m : Int) - (X'.length : Int)) (by omega) (by omega), show (m : Int) - (X'.length : Int) = (P'.length : Int) from by omega]
    rw [Y4y (n := (m : Int) + (Y'.length : Int)) (by omega) (by omega), Y4y (n := (m : Int) + (Y'.length : Int) - (X'.length : Int)) (by omega) (by omega)]
    have := Yf9 d P' X' A B S' hBl (by omega)
    rw [show P' ++ X' ++ A ++ B ++ S' = P' ++ X' ++ Y' ++ S' by rw [hs]; simp, show ((P'.length + X'.length + A.length : Nat) : Int) = (m : Int) + (Y'.length : Int) - (X'.length : Int) by omega] at this
    rw [this, Wb, Y4y (by omega) (by omega)]
    refine ⟨_, B.length + A.length, rfl, by omega, P', B, A, X' ++ S', ?_, by omega, by rw [← hT', hs]; simp, List.length_pos_iff.1 (by omega), List.length_pos_iff.1 (by omega), by simp; omega, rfl⟩
    simp only [Prod.mk.injEq]
    exact ⟨by simp, by omega, by omega⟩) big (X.length + Y.length) (P ++ X ++ Y ++ S, (X.length : Int), (Y.length : Int)) ⟨P, X, Y, S, rfl, hm, hT, hX, hY, hb, rfl⟩ (Ycq (by omega))
 obtain ⟨o, h1, h2⟩ := this
 rw [h1, Wb]
 exact h2
end Go.Proofs.YtomachnjepgpbaaGreat
namespace Go.Proofs.YtomachnjepgpbaaGreat
open Go Go.Abs

abbrev Srt2 (d l : List Int) : Prop := l.Pairwise (Lt2 d)
theorem Lt2.trans {d : List Int} {x y z : Int} (h1 : Lt2 d x y) (h2 : Lt2 d y z) : Lt2 d x z := by unfold Lt2 at *; omega
theorem Lt2.le {d : List Int} {x y : Int} (h : Lt2 d x y) : dd d x ≤ dd d y := by unfold Lt2 at h; omega

theorem Yfb {l P A S : List Int} {c : Nat} (h : l = P ++ A ++ S) (h1 : P.length ≤ c) (h2 : c - P.length < A.length) : getI l (c : Int) = some A[c - P.length] := by
 subst h
 apply Y50
 rw [List.append_assoc, List.getElem?_append_right h1, List.getElem?_append_left h2, We h2]

theorem Yfc {d : List Int} {A : List Int} (h : Srt2 d A) (p : Int → Bool) (hp : ∀ x y, dd d x ≤ dd d y → p y = true → p x = true) (i : Nat) (hi : i < A.length) : p A[i] = true ↔ i < A.countP p :=
 Ye1 (h.imp fun {a b} hab hb => hp a b hab.le hb) i hi

theorem Yfd {α : Type} {l : List α} {k : Nat} {x : α} (h : x ∈ l.take k) : ∃ (i : Nat) (hi : i < l.length), i < k ∧ l[i] = x := by
 obtain ⟨i, hi, rfl⟩ := List.mem_iff_getElem.1 h
 simp at hi
 exact ⟨i, by omega, by omega, by simp⟩
theorem Yfe {α : Type} {l : List α} {k : Nat} {x : α} (h : x ∈ l.drop k) : ∃ (i : Nat) (hi : i < l.length), k ≤ i ∧ l[i] = x := by
 obtain ⟨i, hi, rfl⟩ := List.mem_iff_getElem.1 h
 simp at hi
 exact ⟨k + i, by omega, by omega, by simp⟩

theorem Yff {d : List Int} {x : Int} {B : List Int} (h : Srt2 d B) (hx : ∀ y ∈ B, x < y) : Srt2 d (B.take (B.countP fun y => decide (dd d y < dd d x)) ++ x :: B.drop (B.countP fun y => decide (dd d y < dd d x))) := by
 have hc := Yfc h (fun y => decide (dd d y < dd d x)) (fun a b hab hb => by simp at hb ⊢; omega)
 have hs := List.take_append_drop (B.countP fun y => decide (dd d y < dd d x)) B
 rw [← hs] at h
 obtain ⟨h1, h2, h3⟩ := Yf6.1 h
 refine Yf6.2 ⟨h1, List.pairwise_cons.2 ⟨fun y hy => ?_, h2⟩, fun a ha b hb => ?_⟩
 ·
  obtain ⟨i, hi, hk, rfl⟩ := Yfe hy
  have := hc i hi
  have h5 : ¬ dd d B[i] < dd d x := fun h5 => by have := this.1 (Wt h5); omega
  have := hx _ (Wm hi)
  unfold Lt2; omega
 ·
  rcases List.mem_cons.1 hb with rfl | hb
  ·
   obtain ⟨i, hi, hk, rfl⟩ := Yfd ha
   have := Wo ((hc i hi).2 hk)
   unfold Lt2; omega
  ·
   exact h3 a ha b hb
theorem Yfg {d : List Int} {x : Int} {A : List Int} (h : Srt2 d A) (hx : ∀ y ∈ A, y < x) : Srt2 d (A.take (A.countP fun y => decide (dd d y ≤ dd d x)) ++ x :: A.drop (A.countP fun y => decide (dd d y ≤ dd d x))) := by
 have hc := Yfc h (fun y => decide (dd d y ≤ dd d x)) (fun a b hab hb => by simp at hb ⊢; omega)
 have hs := List.take_append_drop (A.countP fun y => decide (dd d y ≤ dd d x)) A
 rw [← hs] at h
 obtain ⟨h1, h2, h3⟩ := Yf6.1 h
 refine Yf6.2 ⟨h1, List.pairwise_cons.2 ⟨fun y hy => ?_, h2⟩, fun a ha b hb => ?_⟩
 ·
  obtain ⟨i, hi, hk, rfl⟩ := Yfe hy
  have := hc i hi
  have h5 : ¬ dd d A[i] ≤ dd d x := fun h5 => by have := this.1 (Wt h5); omega
  unfold Lt2; omega
 ·
  rcases List.mem_cons.1 hb with rfl | hb
  ·
   obtain ⟨i, hi, hk, rfl⟩ := Yfd ha
   have := Wo ((hc i hi).2 hk)
   have := hx _ (Wm hi)
   unfold Lt2; omega
  ·
   exact h3 a ha b hb

theorem Yfh (d P B S : List Int) (x : Int) (hr : ∀ y ∈ x :: B, InR d y) (hB : Srt2 d B) (hb : P.length + B.length + S.length < 100000) :
  (iter (fun z : Int × Int => Zct (P ++ [x] ++ B ++ S) (P.length : Int) d z.1 z.2) big (((P.length + 1 : Nat) : Int), ((P.length + 1 + B.length : Nat) : Int))).bind
   (fun y => Zcs (P ++ [x] ++ B ++ S) (P.length : Int) y) = some (P ++ (B.take (B.countP fun y => decide (dd d y < dd d x)) ++ x :: B.drop (B.countP fun y => decide (dd d y < dd d x))) ++ S) := by
 generalize hk : B.countP (fun y => decide (dd d y < dd d x)) = k
 have hkB : k ≤ B.length := by rw [← hk]; exact List.countP_le_length
 have hc := Yfc hB (fun y => decide (dd d y < dd d x)) (fun a b hab hb => by simp at hb ⊢; omega)
 rw [hk] at hc
 rw [Yf5 (lo := P.length + 1) (hi := P.length + 1 + B.length) (k := P.length + 1 + k) (by omega) (by omega) (by omega) ?_ ?_]
 ·
  rw [Wb]
  simp only [Zcs]
  obtain ⟨o, h1, rfl⟩ := Y51 (step := fun z : List Int × Int => Zcr ((P.length + 1 + k : Nat) : Int) z.1 z.2) (p := fun o => o = P ++ (B.take k ++ x :: B.drop k) ++ S)
   (fun m (z : List Int × Int) => ∃ i : Nat, i ≤ k ∧ z = (P ++ (B.take i ++ x :: B.drop i) ++ S, ((P.length + i : Nat) : Int)) ∧ m = k - i) (by
   rintro m z ⟨i, hi, rfl, rfl⟩
   simp only [Zcr]
   rw [Y4y (n := ((P.length + 1 + k : Nat) : Int) - 1) (by omega) (by omega)]
   by_cases hik : i < k
   ·
    right
    have hiB : i < B.length := by omega
    have e0 : B.drop i = B[i] :: B.drop (i + 1) := List.drop_eq_getElem_cons hiB
    have e1 : B.take (i + 1) = B.take i ++ [B[i]] := by rw [List.take_add_one, We hiB]; rfl
    generalize B[i] = u at e0 e1
    generalize hr1 : B.drop (i + 1) = R at e0
    generalize hr2 : B.take i = T at e1
    have hl : T.length = i := by rw [← hr2]; simp; omega
    rw [Wt (by omega), Wu, Y4y (n := ((P.length + i : Nat) : Int) + 1) (by omega) (by omega), show ((P.length + i : Nat) : Int) + 1 = ((P.length + i + 1 : Nat) : Int) from by omega, Int.toNat_natCast, Int.toNat_natCast, e0]
    rw [Yf3 (X := P ++ T ++ [x]) (u := u) (Y := R ++ S) (by simp) (by simp; omega), Wb]
    rw [Yf3 (X := P ++ T) (u := x) (Y := u :: R ++ S) (by simp) (by simp; omega), Wb]
    rw [Yf4 (X := P ++ T) (u := x) (Y := u :: R ++ S) (by simp) (by simp; omega)]
    rw [Yf3 (X := P ++ T ++ [u]) (u := u) (Y := R ++ S) (by simp) (by simp; omega), Wb]
    rw [Yf4 (X := P ++ T ++ [u]) (u := u) (Y := R ++ S) (by simp) (by simp; omega)]
    refine ⟨_, k - (i + 1), rfl, by omega, i + 1, by omega, ?_, rfl⟩
    rw [e1, hr1]
    simp only [Prod.mk.injEq]
    exact ⟨by simp, by omega⟩
   ·
    left
    obtain rfl : i = k := by omega
    rw [Wf (by omega), Wv]
    exact ⟨_, rfl, rfl⟩) big k (P ++ [x] ++ B ++ S, (P.length : Int)) ⟨0, by omega, by simp, rfl⟩ (Ycq (by omega))
  rw [h1]; rfl
 ·
  intro i j hl hij hj
  simp only [Zct]
  have hm1 : P.length + 1 ≤ (i + j) / 2 := by omega
  have hm2 : (i + j) / 2 - (P ++ [x]).length < B.length := by simp; omega
  rw [dlt hij, Wu, Ye2 (by omega), Yfb (P := P ++ [x]) (A := B) (S := S) (c := (i + j) / 2) (by simp) (by simp; omega) hm2, Wb]
  rw [Yf3 (X := P) (u := x) (Y := B ++ S) (by simp) rfl, Wb, Yf8 (hr _ (List.mem_cons_of_mem _ (Wm _))) (hr _ (by simp)), Wb, Ye5]
  have := hc _ hm2
  simp only [List.length_append, List.length_singleton] at this hm2 ⊢
  rw [Y4y (n := (((i + j) / 2 : Nat) : Int) + 1) (by omega) (by omega), show (((i + j) / 2 : Nat) : Int) + 1 = (((i + j) / 2 + 1 : Nat) : Int) from by omega]
  by_cases hlt : dd d B[(i + j) / 2 - (P.length + 1)] < dd d x
  ·
   have h5 := this.1 (Wt hlt)
   rw [Wt hlt, if_pos (by omega)]; rfl
  ·
   have h5 : ¬ (i + j) / 2 - (P.length + 1) < k := fun h5 => hlt (Wo (this.2 h5))
   rw [Wf hlt, if_neg (by omega)]; rfl
 ·
  intro i hi
  simp only [Zct]
  rw [dnlt, Wv]

theorem Yfi (d P A S : List Int) (x : Int) (hr : ∀ y ∈ x :: A, InR d y) (hA : Srt2 d A) (hb : P.length + A.length + S.length < 100000) :
  (iter (fun z : Int × Int => Zcx (P ++ A ++ [x] ++ S) ((P.length + A.length : Nat) : Int) d z.1 z.2) big ((P.length : Int), ((P.length + A.length : Nat) : Int))).bind
   (fun y => Zcw (P ++ A ++ [x] ++ S) ((P.length + A.length : Nat) : Int) y) = some (P ++ (A.take (A.countP fun y => decide (dd d y ≤ dd d x)) ++ x :: A.drop (A.countP fun y => decide (dd d y ≤ dd d x))) ++ S) := by
 generalize hk : A.countP (fun y => decide (dd d y ≤ dd d x)) = k
 have hkA : k ≤ A.length := by rw [← hk]; exact List.countP_le_length
 have hc := Yfc hA (fun y => decide (dd d y ≤ dd d x)) (fun a b hab hb => by simp at hb ⊢; omega)
 rw [hk] at hc
 rw [Yf5 (lo := P.length) (hi := P.length + A.length) (k := P.length + k) (by omega) (by omega) (by omega) ?_ ?_]
 ·
  rw [Wb]
  simp only [Zcw]
  obtain ⟨o, h1, rfl⟩ := Y51 (step := fun z : List Int × Int => Zcv ((P.length + k : Nat) : Int) z.1 z.2) (p := fun o => o = P ++ (A.take k ++ x :: A.drop k) ++ S)
   (fun m (z : List Int × Int) => ∃ i : Nat, k ≤ i ∧ i ≤ A.length ∧ z = (P ++ (A.take i ++ x :: A.drop i) ++ S, ((P.length + i : Nat) : Int)) ∧ m = i - k) (by
   rintro m z ⟨i, hi, hiA, rfl, rfl⟩
   simp only [Zcv]
   by_cases hik : k < i
   ·
    right
    obtain ⟨i, rfl⟩ : ∃ i', i = i' + 1 := ⟨i - 1, by omega⟩
    have hiB : i < A.length := by omega
    have e0 : A.drop i = A[i] :: A.drop (i + 1) := List.drop_eq_getElem_cons hiB
    have e1 : A.take (i + 1) = A.take i ++ [A[i]] := by rw [List.take_add_one, We hiB]; rfl
    generalize A[i] = u at e0 e1
    generalize hr1 : A.drop (i + 1) = R at e0
    generalize hr2 : A.take i = T at e1
    have hl : T.length = i := by rw [← hr2]; simp; omega
    rw [Wt (by omega), Wu, Y4y (n := ((P.length + (i + 1) : Nat) : Int) - 1) (by omega) (by omega), show ((P.length + (i + 1) : Nat) : Int) - 1 = ((P.length + i : Nat) : Int) from by omega, Int.toNat_natCast, Int.toNat_natCast]
    rw [e1]
    rw [Yf3 (X := P ++ T) (u := u) (Y := x :: R ++ S) (by simp) (by simp; omega), Wb]
    rw [Yf3 (X := P ++ T ++ [u]) (u := x) (Y := R ++ S) (by simp) (by simp; omega), Wb]
    rw [Yf4 (X := P ++ T ++ [u]) (u := x) (Y := R ++ S) (by simp) (by simp; omega)]
    rw [Yf3 (X := P ++ T) (u := u) (Y := u :: R ++ S) (by simp) (by simp; omega), Wb]
    rw [Yf4 (X := P ++ T) (u := u) (Y := u :: R ++ S) (by simp) (by simp; omega)]
    refine ⟨_, i - k, rfl, by omega, i, by omega, by omega, ?_, rfl⟩
    rw [e0, hr2]
    simp only [Prod.mk.injEq, and_true]
    simp
   ·
    left
    obtain rfl : i = k := by omega
    rw [Wf (by omega), Wv]
    exact ⟨_, rfl, rfl⟩) big (A.length - k) (P ++ A ++ [x] ++ S, ((P.length + A.length : Nat) : Int)) ⟨A.length, hkA, by omega, by simp, by omega⟩ (Ycq (by omega))
  rw [h1]; rfl
 ·
  intro i j hl hij hj
  simp only [Zcx]
  have hm2 : (i + j) / 2 - P.length < A.length := by omega
  rw [dlt hij, Wu, Ye2 (by omega), Yf3 (X := P ++ A) (u := x) (Y := S) (by simp) (by simp), Wb]
  rw [Yfb (P := P) (A := A) (S := [x] ++ S) (c := (i + j) / 2) (by simp) (by omega) hm2, Wb]
  rw [Yf8 (hr _ (by simp)) (hr _ (List.mem_cons_of_mem _ (Wm _))), Wb, Ye5]
  have := hc _ hm2
  rw [Y4y (n := (((i + j) / 2 : Nat) : Int) + 1) (by omega) (by omega), show (((i + j) / 2 : Nat) : Int) + 1 = (((i + j) / 2 + 1 : Nat) : Int) from by omega]
  by_cases hlt : dd d x < dd d A[(i + j) / 2 - P.length]
  ·
   have h5 : ¬ (i + j) / 2 - P.length < k := fun h5 => by have := Wo (this.2 h5); omega
   rw [Wt hlt, if_neg (by omega)]; rfl
  ·
   have h5 := this.1 (Wt (by omega))
   rw [Wf hlt, if_pos (by omega)]; rfl
 ·
  intro i hi
  simp only [Zcx]
  rw [dnlt, Wv]
end Go.Proofs.YtomachnjepgpbaaGreat
namespace Go.Proofs.YtomachnjepgpbaaGreat
open Go Go.Abs

theorem Yfj (pr : Nat → Prop) (lo : Nat) : ∀ n : Nat, (∀ c c', lo ≤ c → c ≤ c' → c' < lo + n → pr c' → pr c) → ∃ k, lo ≤ k ∧ k ≤ lo + n ∧ ∀ c, lo ≤ c → c < lo + n → (pr c ↔ c < k)
 | 0, _ => ⟨lo, by omega, by omega, fun c h1 h2 => by omega⟩
 | n + 1, h => by
  by_cases hp : pr (lo + n)
  ·
   exact ⟨lo + n + 1, by omega, by omega, fun c h1 h2 => ⟨fun _ => by omega, fun _ => h c (lo + n) h1 (by omega) (by omega) hp⟩⟩
  ·
   obtain ⟨k, h1, h2, h3⟩ := Yfj pr lo n fun c c' a b e => h c c' a b (by omega)
   refine ⟨k, h1, by omega, fun c h4 h5 => ?_⟩
   by_cases hc : c = lo + n
   ·
    subst hc
    exact ⟨fun h6 => absurd h6 hp, fun h6 => by omega⟩
   ·
    exact h3 c h4 (by omega)

def Yfk (d : List Int) (self : List Int → Int → Int → Int → List Int → Option (List Int)) (n : Nat) : Prop :=
 ∀ P A B S : List Int, A ≠ [] → B ≠ [] → A.length + B.length < n → P.length + A.length + B.length + S.length < 100000 → (∀ y ∈ A ++ B, InR d y) → Srt2 d A → Srt2 d B → (∀ x ∈ A, ∀ y ∈ B, x < y) →
  ∃ C, self (P ++ A ++ B ++ S) (P.length : Int) ((P.length + A.length : Nat) : Int) ((P.length + A.length + B.length : Nat) : Int) d = some (P ++ C ++ S) ∧ C.Perm (A ++ B) ∧ Srt2 d C

theorem Yfk.opt {d : List Int} {self : List Int → Int → Int → Int → List Int → Option (List Int)} {n : Nat} (h : Yfk d self n) (P A B S : List Int) (hn : A ≠ [] → B ≠ [] → A.length + B.length < n) (hb : P.length + A.length + B.length + S.length < 100000) (hr : ∀ y ∈ A ++ B, InR d y)
  (hA : Srt2 d A) (hB : Srt2 d B) (hx : ∀ x ∈ A, ∀ y ∈ B, x < y) :
  ∃ C, (if A ≠ [] ∧ B ≠ [] then self (P ++ A ++ B ++ S) (P.length : Int) ((P.length + A.length : Nat) : Int) ((P.length + A.length + B.length : Nat) : Int) d else some (P ++ A ++ B ++ S)) = some (P ++ C ++ S) ∧ C.Perm (A ++ B) ∧ Srt2 d C := by
 by_cases h1 : A = []
 ·
  subst h1
  exact ⟨B, by simp, by simp, hB⟩
 ·
  by_cases h2 : B = []
  ·
   subst h2
   exact ⟨A, by simp, by simp, hA⟩
  ·
   rw [if_pos ⟨h1, h2⟩]
   exact h P A B S h1 h2 (hn h1 h2) hb hr hA hB hx

theorem Yfl {α : Type} {l : List α} : 0 < l.length ↔ l ≠ [] := List.length_pos_iff

theorem Yfm {d : List Int} {self : List Int → Int → Int → Int → List Int → Option (List Int)} {n : Nat} (hself : Yfk d self n) (P A1 A2 B1 B2 S : List Int) (p2 : Int)
  (hmid : (P.length + (P.length + A1.length + A2.length + B1.length + B2.length)) / 2 = P.length + A1.length + B1.length) (hp2 : p2 = ((P.length + A1.length + A2.length : Nat) : Int))
  (hn1 : A1 ≠ [] → B1 ≠ [] → A1.length + B1.length < n) (hn2 : A2 ≠ [] → B2 ≠ [] → A2.length + B2.length < n) (hb : P.length + A1.length + A2.length + B1.length + B2.length + S.length < 100000)
  (hr : ∀ y ∈ A1 ++ A2 ++ (B1 ++ B2), InR d y) (hA : Srt2 d (A1 ++ A2)) (hB : Srt2 d (B1 ++ B2)) (hx : ∀ x ∈ A1 ++ A2, ∀ y ∈ B1 ++ B2, x < y) (h12 : ∀ x ∈ A1, ∀ y ∈ B2, Lt2 d x y) (h21 : ∀ x ∈ B1, ∀ y ∈ A2, Lt2 d x y) :
  ∃ C, Zd1 (P.length : Int) p2 ((P.length + A1.length + A2.length + B1.length + B2.length : Nat) : Int) d self ((P.length + A1.length : Nat) : Int) (P ++ A1 ++ B1 ++ A2 ++ B2 ++ S) = some (P ++ C ++ S) ∧ C.Perm (A1 ++ A2 ++ (B1 ++ B2)) ∧ Srt2 d C := by
 obtain ⟨a1, a2, a3⟩ := Yf6.1 hA
 obtain ⟨b1, b2, b3⟩ := Yf6.1 hB
 obtain ⟨C1, c1, c2, c3⟩ := hself.opt P A1 B1 (A2 ++ B2 ++ S) hn1 (by simp; omega) (fun y hy => hr y (by simp at hy ⊢; rcases hy with h | h <;> simp [h])) a1 b1 fun x hx' y hy => hx x (by simp [hx']) y (by simp [hy])
 have hC1 : C1.length = A1.length + B1.length := by rw [c2.length_eq]; simp
 obtain ⟨C2, e1, e2, e3⟩ := hself.opt (P ++ C1) A2 B2 S hn2 (by simp; omega) (fun y hy => hr y (by simp at hy ⊢; rcases hy with h | h <;> simp [h])) a2 b2 fun x hx' y hy => hx x (by simp [hx']) y (by simp [hy])
 refine ⟨C1 ++ C2, ?_, ?_, ?_⟩
 ·
  simp only [Zd1, Zd0, Zcz, Zcy]
  rw [Ye2 (by omega), hmid, hp2]
  rw [Y4y (n := ((P.length + A1.length + B1.length : Nat) : Int) + ((P.length + A1.length + A2.length : Nat) : Int)) (by omega) (by omega), Y4y (n := ((P.length + A1.length + B1.length : Nat) : Int) + ((P.length + A1.length + A2.length : Nat) : Int) - ((P.length + A1.length : Nat) : Int)) (by omega) (by omega)]
  rw [show ((P.length + A1.length + B1.length : Nat) : Int) + ((P.length + A1.length + A2.length : Nat) : Int) - ((P.length + A1.length : Nat) : Int) = (((P ++ C1).length + A2.length : Nat) : Int) by simp; omega]
  have hfirst : ∀ (F : List Int → Option (List Int)), cond (decide ((P.length : Int) < ((P.length + A1.length : Nat) : Int))) (cond (decide (((P.length + A1.length : Nat) : Int) < ((P.length + A1.length + B1.length : Nat) : Int))) ((self (P ++ A1 ++ B1 ++ A2 ++ B2 ++ S) (P.length : Int) ((P.length + A1.length : Nat) : Int) ((P.length + A1.length + B1.length : Nat) : Int) d).bind F) (F (P ++ A1 ++ B1 ++ A2 ++ B2 ++ S))) (F (P ++ A1 ++ B1 ++ A2 ++ B2 ++ S)) = F (P ++ C1 ++ A2 ++ B2 ++ S) := fun F => by
   by_cases h1 : A1 = []
   ·
    rw [if_neg (fun h => h.1 h1)] at c1
    have hq := Wj c1
    rw [Wf (by subst h1; simp), Wv]
    congr 1
    simpa using hq
   ·
    have p1 := Yfl.2 h1
    rw [Wt (by omega), Wu]
    by_cases h2 : B1 = []
    ·
     rw [if_neg (fun h => h.2 h2)] at c1
     have hq := Wj c1
     rw [Wf (by subst h2; simp), Wv]
     congr 1
     simpa using hq
    ·
     have p2 := Yfl.2 h2
     rw [Wt (by omega), Wu]
     rw [if_pos ⟨h1, h2⟩] at c1
     rw [show P ++ A1 ++ B1 ++ A2 ++ B2 ++ S = P ++ A1 ++ B1 ++ (A2 ++ B2 ++ S) by simp, c1, Wb]
     congr 1; simp
  have hsecond : cond (decide (((P.length + A1.length + B1.length : Nat) : Int) < (((P ++ C1).length + A2.length : Nat) : Int))) (cond (decide ((((P ++ C1).length + A2.length : Nat) : Int) < ((P.length + A1.length + A2.length + B1.length + B2.length : Nat) : Int))) ((self (P ++ C1 ++ A2 ++ B2 ++ S) ((P.length + A1.length + B1.length : Nat) : Int) (((P ++ C1).length + A2.length : Nat) : Int) ((P.length + A1.length + A2.length + B1.length + B2.length : Nat) : Int) d).bind fun r176 => some r176) (some (P ++ C1 ++ A2 ++ B2 ++ S))) (some (P ++ C1 ++ A2 ++ B2 ++ S)) = some (P ++ (C1 ++ C2) ++ S) := by
   have hl : (P ++ C1).length = P.length + A1.length + B1.length := by simp; omega
   by_cases h1 : A2 = []
   ·
    rw [if_neg (fun h => h.1 h1)] at e1
    rw [Wf (by subst h1; simp; omega), Wv]
    rw [e1]; simp
   ·
    have p1 := Yfl.2 h1
    rw [Wt (by omega), Wu]
    by_cases h2 : B2 = []
    ·
     rw [if_neg (fun h => h.2 h2)] at e1
     rw [Wf (by subst h2; simp; omega), Wv]
     rw [e1]; simp
    ·
     have p2 := Yfl.2 h2
     rw [Wt (by omega), Wu]
     rw [if_pos ⟨h1, h2⟩, hl] at e1
     rw [hl, show P.length + A1.length + A2.length + B1.length + B2.length = P.length + A1.length + B1.length + A2.length + B2.length by omega, e1]
     simp
  have hf := hfirst fun l172 => cond (decide (((P.length + A1.length + B1.length : Nat) : Int) < (((P ++ C1).length + A2.length : Nat) : Int))) (cond (decide ((((P ++ C1).length + A2.length : Nat) : Int) < ((P.length + A1.length + A2.length + B1.length + B2.length : Nat) : Int))) ((self l172 ((P.length + A1.length + B1.length : Nat) : Int) (((P ++ C1).length + A2.length : Nat) : Int) ((P.length + A1.length + A2.length + B1.length + B2.length : Nat) : Int) d).bind fun r176 => some r176) (some l172)) (some l172)
  have hcc : ∀ (b1 b2 : Bool) (x y : Option (List Int)), cond b1 (cond b2 x y) (cond false x y) = cond b1 (cond b2 x y) y := fun b1 b2 x y => by cases b1 <;> rfl
  simp only [Wv]
  rw [hf]
  exact hsecond
 ·
  refine (c2.append e2).trans ?_
  have : (A1 ++ B1 ++ (A2 ++ B2)).Perm (A1 ++ A2 ++ (B1 ++ B2)) := by
   rw [List.append_assoc, List.append_assoc]
   refine List.Perm.append_left A1 ?_
   rw [← List.append_assoc, ← List.append_assoc]
   exact List.Perm.append_right B2 List.perm_append_comm
  exact this
 ·
  refine Yf6.2 ⟨c3, e3, fun x hx' y hy => ?_⟩
  have h1 := c2.mem_iff.1 hx'
  have h2 := e2.mem_iff.1 hy
  rcases List.mem_append.1 h1 with h1 | h1
  ·
   rcases List.mem_append.1 h2 with h2 | h2
   ·
    exact a3 x h1 y h2
   ·
    exact h12 x h1 y h2
  ·
   rcases List.mem_append.1 h2 with h2 | h2
   ·
    exact h21 x h1 y h2
   ·
    exact b3 x h1 y h2

theorem Yfn {d l : List Int} (h : Srt2 d l) {i j : Nat} (hi : i < l.length) (hj : j < l.length) (hij : i ≤ j) : dd d l[i] ≤ dd d l[j] := by
 by_cases he : i = j
 ·
  subst he; exact Int.le_refl _
 ·
  exact (List.pairwise_iff_getElem.1 h i j hi hj (by omega)).le

theorem Yfo (d : List Int) : ∀ k : Nat, Yfk d (Zd8 k) k
 | 0 => fun _ _ _ _ _ _ h => by omega
 | k + 1 => by
  have ih := Yfo d k
  intro P A B S hA0 hB0 hn hb hr hA hB hx
  have pA := Yfl.2 hA0
  have pB := Yfl.2 hB0
  show ∃ C, Zd6 (Zd8 k) _ _ _ _ _ = _ ∧ _
  generalize Zd8 k = self at ih
  unfold Zd6
  rw [Y4y (n := ((P.length + A.length : Nat) : Int) - (P.length : Int)) (by omega) (by omega), Y4y (n := ((P.length + A.length + B.length : Nat) : Int) - ((P.length + A.length : Nat) : Int)) (by omega) (by omega), beqd, beqd]
  by_cases h1 : A.length = 1
  ·
   obtain ⟨x, rfl⟩ : ∃ x, A = [x] := List.length_eq_one_iff.1 h1
   rw [Wt (by simp; omega), Wu]
   have := Yfh d P B S x (fun y hy => hr y (by simpa using hy)) hB (by omega)
   simp only [List.length_singleton] at this ⊢
   rw [this]
   refine ⟨_, rfl, ?_, Yff hB fun y hy => hx x (by simp) y hy⟩
   refine List.perm_middle.trans ?_
   rw [List.take_append_drop]
   exact .refl _
  rw [Wf (by omega), Wv]
  by_cases h2 : B.length = 1
  ·
   obtain ⟨x, rfl⟩ : ∃ x, B = [x] := List.length_eq_one_iff.1 h2
   rw [Wt (by simp; omega), Wu]
   have := Yfi d P A S x (fun y hy => hr y (by simp at hy ⊢; rcases hy with h | h <;> simp [h])) hA (by simp at hb; omega)
   rw [this]
   refine ⟨_, rfl, ?_, Yfg hA fun y hy => hx y hy x (by simp)⟩
   refine List.perm_middle.trans ?_
   rw [List.take_append_drop]
   exact List.perm_append_comm (l₁ := [x])
  rw [Wf (by omega), Wv]
  generalize hh : (A.length + B.length) / 2 = h
  have hmid : (P.length + (P.length + A.length + B.length)) / 2 = P.length + h := by omega
  rw [Ye2 (by omega), hmid]
  -- where the search begins and ends
  have hlo : h - B.length ≤ min A.length h := by omega
  have hstart : (cond (decide (((P.length + A.length : Nat) : Int) > ((P.length + h : Nat) : Int))) (Zd5 (P ++ A ++ B ++ S) (P.length : Int) ((P.length + A.length : Nat) : Int) ((P.length + A.length + B.length : Nat) : Int) d self (IntKind.i64.wrap ((IntKind.i64.wrap (((P.length + h : Nat) : Int) + ((P.length + A.length : Nat) : Int))) - ((P.length + A.length + B.length : Nat) : Int))) ((P.length + h : Nat) : Int)) (Zd5 (P ++ A ++ B ++ S) (P.length : Int) ((P.length + A.length : Nat) : Int) ((P.length + A.length + B.length : Nat) : Int) d self (P.length : Int) ((P.length + A.length : Nat) : Int)))
    = Zd5 (P ++ A ++ B ++ S) (P.length : Int) ((P.length + A.length : Nat) : Int) ((P.length + A.length + B.length : Nat) : Int) d self ((P.length + (h - B.length) : Nat) : Int) ((P.length + min A.length h : Nat) : Int) := by
   by_cases hc : A.length > h
   ·
    rw [Wt (by omega), Wu, Y4y (n := ((P.length + h : Nat) : Int) + ((P.length + A.length : Nat) : Int)) (by omega) (by omega), Y4y (by omega) (by omega)]
    congr 1 <;> omega
   ·
    rw [Wf (by omega), Wv]
    congr 1 <;> omega
  rw [hstart]
  unfold Zd5
  obtain ⟨t, ht1, ht2, ht3⟩ := Yfj (fun c => dd d (A.getD c 0) ≤ dd d (B.getD (h - 1 - c) 0)) (h - B.length) (min A.length h - (h - B.length)) (fun c c' hc1 hc2 hc3 hp => by
   have q1 : c < A.length := by omega
   have q2 : c' < A.length := by omega
   have q3 : h - 1 - c < B.length := by omega
   have q4 : h - 1 - c' < B.length := by omega
   simp only [List.getD_eq_getElem?_getD, We q1, We q2, We q3, We q4, Option.getD_some] at hp ⊢
   have := Yfn hA q1 q2 hc2
   have := Yfn hB q4 q3 (by omega)
   omega)
  have hsum : h - B.length + (min A.length h - (h - B.length)) = min A.length h := by omega
  rw [hsum] at ht2 ht3
  rw [Yf5 (lo := P.length + (h - B.length)) (hi := P.length + min A.length h) (k := P.length + t) (by omega) (by omega) (by omega) ?_ ?_]
  ·
   -- behind the search
   rw [Wb]
   have hA12 : A = A.take t ++ A.drop t := (List.take_append_drop _ _).symm
   have hB12 : B = B.take (h - t) ++ B.drop (h - t) := (List.take_append_drop _ _).symm
   have hc12 : ∀ x ∈ A.take t, ∀ y ∈ B.drop (h - t), Lt2 d x y := by
    intro x hx1 y hy1
    obtain ⟨i, hi, hit, rfl⟩ := Yfd hx1
    obtain ⟨j, hj, hjt, rfl⟩ := Yfe hy1
    have hlt := hx _ (Wm hi) _ (Wm hj)
    have q1 : t - 1 < A.length := by omega
    have q2 : h - 1 - (t - 1) < B.length := by omega
    have := (ht3 (t - 1) (by omega) (by omega)).2 (by omega)
    simp only [List.getD_eq_getElem?_getD, We q1, We q2, Option.getD_some] at this
    have := Yfn hA hi q1 (by omega)
    have := Yfn hB q2 hj (by omega)
    unfold Lt2; omega
   have hc21 : ∀ x ∈ B.take (h - t), ∀ y ∈ A.drop t, Lt2 d x y := by
    intro x hx1 y hy1
    obtain ⟨i, hi, hit, rfl⟩ := Yfd hx1
    obtain ⟨j, hj, hjt, rfl⟩ := Yfe hy1
    have q1 : t < A.length := by omega
    have q2 : h - 1 - t < B.length := by omega
    have := (ht3 t (by omega) (by omega))
    simp only [List.getD_eq_getElem?_getD, We q1, We q2, Option.getD_some] at this
    have h5 : ¬ dd d A[t] ≤ dd d B[h - 1 - t] := fun h5 => by have := this.1 h5; omega
    have := Yfn hA q1 hj (by omega)
    have := Yfn hB hi q2 (by omega)
    unfold Lt2; omega
   have lA1 : (A.take t).length = t := by simp; omega
   have lA2 : (A.drop t).length = A.length - t := by simp
   have lB1 : (B.take (h - t)).length = h - t := by simp; omega
   have lB2 : (B.drop (h - t)).length = B.length - (h - t) := by simp
   generalize A.take t = A1 at hA12 hc12 lA1
   generalize A.drop t = A2 at hA12 hc21 lA2
   generalize B.take (h - t) = B1 at hB12 hc21 lB1
   generalize B.drop (h - t) = B2 at hB12 hc12 lB2
   have lA : A.length = A1.length + A2.length := by rw [hA12]; simp
   have lB : B.length = B1.length + B2.length := by rw [hB12]; simp
   simp only [Zd3, Zd2]
   rw [Ye2 (by omega), hmid, Y4y (n := ((P.length + h : Nat) : Int) + ((P.length + A.length : Nat) : Int)) (by omega) (by omega), Y4y (n := ((P.length + h : Nat) : Int) + ((P.length + A.length : Nat) : Int) - ((P.length + t : Nat) : Int)) (by omega) (by omega)]
   have hrot : ∀ F : List Int → Option (List Int), cond (decide (((P.length + t : Nat) : Int) < ((P.length + A.length : Nat) : Int))) (cond (decide (((P.length + A.length : Nat) : Int) < ((P.length + h : Nat) : Int) + ((P.length + A.length : Nat) : Int) - ((P.length + t : Nat) : Int))) ((Zco (P ++ A ++ B ++ S) ((P.length + t : Nat) : Int) ((P.length + A.length : Nat) : Int) (((P.length + h : Nat) : Int) + ((P.length + A.length : Nat) : Int) - ((P.length + t : Nat) : Int)) d).bind F) (F (P ++ A ++ B ++ S))) (F (P ++ A ++ B ++ S)) = F (P ++ A1 ++ B1 ++ A2 ++ B2 ++ S) := fun F => by
    by_cases z1 : A2 = []
    ·
     rw [Wf (by subst z1; simp at lA2; omega), Wv]
     subst z1
     congr 1; rw [hA12, hB12]; simp
    ·
     have z1' := Yfl.2 z1
     rw [Wt (by omega), Wu]
     by_cases z2 : B1 = []
     ·
      rw [Wf (by subst z2; simp at lB1; omega), Wv]
      subst z2
      congr 1; rw [hA12, hB12]; simp
     ·
      have z2' := Yfl.2 z2
      rw [Wt (by omega), Wu]
      have := Yfa d (P ++ A1) A2 B1 (B2 ++ S) z1 z2 (by simp; omega)
      rw [show P ++ A1 ++ A2 ++ B1 ++ (B2 ++ S) = P ++ A ++ B ++ S by rw [hA12, hB12]; simp] at this
      rw [show ((P.length + t : Nat) : Int) = ((P ++ A1).length : Int) by simp; omega, show ((P.length + A.length : Nat) : Int) = (((P ++ A1).length + A2.length : Nat) : Int) by simp; omega, show ((P.length + h : Nat) : Int) + (((P ++ A1).length + A2.length : Nat) : Int) - ((P ++ A1).length : Int) = (((P ++ A1).length + A2.length + B1.length : Nat) : Int) by simp; omega, this, Wb]
      congr 1; simp
   have hr' := hrot fun l => Zd1 (P.length : Int) ((P.length + A.length : Nat) : Int) ((P.length + A.length + B.length : Nat) : Int) d self ((P.length + t : Nat) : Int) l
   simp only [Wv]
   rw [hr']
   obtain ⟨C, c1, c2, c3⟩ := Yfm ih P A1 A2 B1 B2 S ((P.length + A.length : Nat) : Int) (by omega) (by omega) (fun _ _ => by omega) (fun _ _ => by omega) (by omega) (by rw [← hA12, ← hB12]; exact hr) (by rw [← hA12]; exact hA) (by rw [← hB12]; exact hB) (by rw [← hA12, ← hB12]; exact hx) hc12 hc21
   rw [← hA12, ← hB12] at c2
   rw [show P.length + A.length + B.length = P.length + A1.length + A2.length + B1.length + B2.length by omega, show P.length + t = P.length + A1.length by omega]
   exact ⟨C, c1, c2, c3⟩
  ·
   intro i j hl hij hj
   simp only [Zd4]
   obtain ⟨c, hc⟩ : ∃ c, (i + j) / 2 = P.length + c := ⟨(i + j) / 2 - P.length, by omega⟩
   have q1 : c < A.length := by omega
   have q2 : h - 1 - c < B.length := by omega
   rw [dlt hij, Wu, Ye2 (i := P.length) (by omega), hmid, Ye2 (by omega), hc, Y4y (n := ((P.length + h : Nat) : Int) + ((P.length + A.length : Nat) : Int)) (by omega) (by omega), Y4y (n := ((P.length + h : Nat) : Int) + ((P.length + A.length : Nat) : Int) - 1) (by omega) (by omega), Y4y (n := ((P.length + h : Nat) : Int) + ((P.length + A.length : Nat) : Int) - 1 - ((P.length + c : Nat) : Int)) (by omega) (by omega)]
   rw [show ((P.length + h : Nat) : Int) + ((P.length + A.length : Nat) : Int) - 1 - ((P.length + c : Nat) : Int) = (((P ++ A).length + (h - 1 - c) : Nat) : Int) by simp; omega]
   rw [Yfb (P := P ++ A) (A := B) (S := S) (c := (P ++ A).length + (h - 1 - c)) rfl (by omega) (by omega), Wb]
   rw [Yfb (P := P) (A := A) (S := B ++ S) (c := P.length + c) (by simp) (by omega) (by omega), Wb]
   simp only [Nat.add_sub_cancel_left]
   rw [Yf8 (hr _ (List.mem_append_right _ (Wm _))) (hr _ (List.mem_append_left _ (Wm _))), Wb, Ye5]
   have := ht3 c (by omega) (by omega)
   simp only [List.getD_eq_getElem?_getD, We q1, We q2, Option.getD_some] at this
   rw [Y4y (n := ((P.length + c : Nat) : Int) + 1) (by omega) (by omega), show ((P.length + c : Nat) : Int) + 1 = ((P.length + c + 1 : Nat) : Int) from by omega]
   by_cases hlt : dd d B[h - 1 - c] < dd d A[c]
   ·
    have h5 : ¬ c < t := fun h5 => by have := this.2 h5; omega
    rw [Wt hlt, if_neg (by omega)]; rfl
   ·
    have h5 := this.1 (by omega)
    rw [Wf hlt, if_pos (by omega)]; rfl
  ·
   intro i hi
   simp only [Zd4]
   rw [dnlt, Wv]
end Go.Proofs.YtomachnjepgpbaaGreat
namespace Go.Proofs.YtomachnjepgpbaaGreat
open Go Go.Abs

theorem Yfp (d P A S : List Int) (hb : P.length + A.length + S.length < 100000) (hr : ∀ y ∈ A, InR d y) (hA : A.Pairwise (· < ·)) :
  ∃ C, Zch (P ++ A ++ S) (P.length : Int) ((P.length + A.length : Nat) : Int) d = some (P ++ C ++ S) ∧ C.Perm A ∧ Srt2 d C := by
 unfold Zch
 by_cases hA0 : A = []
 ·
  subst hA0
  refine ⟨[], ?_, .refl _, .nil⟩
  rw [Y4y (by omega) (by omega), Y52 (o := P ++ [] ++ S) (fun m (z : List Int × Int) => z = (P ++ [] ++ S, (P.length : Int) + 1)) ?_ (m := 0) rfl (Ycq (by omega))]
  ·
   rfl
  ·
   rintro m z rfl
   left
   simp only [Zcg]
   rw [Wf (by simp only [List.length_nil]; omega), Wv]
 have pA := Yfl.2 hA0
 have inner : ∀ (C1 R : List Int) (x : Int), (∀ y ∈ x :: C1, InR d y) → Srt2 d C1 → (∀ y ∈ C1, y < x) → P.length + C1.length + R.length < 100000 →
   ∃ C, iter (fun z : List Int × Int => Zcf (P.length : Int) d z.1 z.2) big (P ++ C1 ++ x :: R, ((P.length + C1.length : Nat) : Int)) = some (P ++ C ++ R) ∧ C.Perm (C1 ++ [x]) ∧ Srt2 d C := by
  intro C1 R x hr1 hs hx hb1
  have := Y51 (step := fun z : List Int × Int => Zcf (P.length : Int) d z.1 z.2) (p := fun o => ∃ C, o = P ++ C ++ R ∧ C.Perm (C1 ++ [x]) ∧ Srt2 d C)
   (fun m (z : List Int × Int) => ∃ S1 S2, S1 ++ S2 = C1 ∧ z = (P ++ S1 ++ x :: (S2 ++ R), ((P.length + S1.length : Nat) : Int)) ∧ (∀ y ∈ S2, Lt2 d x y) ∧ m = S1.length) (by
   rintro m z ⟨S1, S2, hS, rfl, hx2, rfl⟩
   have hfin : ((∀ y ∈ S1, Lt2 d y x)) → ∃ C, P ++ S1 ++ x :: (S2 ++ R) = P ++ C ++ R ∧ C.Perm (C1 ++ [x]) ∧ Srt2 d C := fun hy => by
    refine ⟨S1 ++ x :: S2, by simp, ?_, ?_⟩
    ·
     rw [← hS]
     exact List.perm_middle.trans (List.perm_append_comm (l₁ := [x]))
    ·
     rw [← hS] at hs
     obtain ⟨a1, a2, a3⟩ := Yf6.1 hs
     refine Yf6.2 ⟨a1, List.pairwise_cons.2 ⟨hx2, a2⟩, fun a ha b hb' => ?_⟩
     rcases List.mem_cons.1 hb' with rfl | hb'
     ·
      exact hy a ha
     ·
      exact a3 a ha b hb'
   have hl : S1.length + S2.length = C1.length := by rw [← hS]; simp
   rcases List.eq_nil_or_concat S1 with rfl | ⟨T, y, rfl⟩
   ·
    left
    simp only [Zcf]
    rw [Wf (by simp), Wv]
    exact ⟨_, rfl, hfin (by simp)⟩
   ·
    simp only [Zcf, List.concat_eq_append]
    simp only [List.concat_eq_append] at hfin hS hl
    have hyC : y ∈ C1 := by rw [← hS]; simp
    have hl1 : (T ++ [y]).length = T.length + 1 := by simp
    rw [Wt (by omega), Wu, Y4y (n := ((P.length + (T ++ [y]).length : Nat) : Int) - 1) (by omega) (by omega), show ((P.length + (T ++ [y]).length : Nat) : Int) - 1 = ((P.length + T.length : Nat) : Int) from by omega]
    rw [Yf3 (X := P ++ (T ++ [y])) (u := x) (Y := S2 ++ R) (by simp) (by simp), Wb]
    rw [Yf3 (X := P ++ T) (u := y) (Y := x :: (S2 ++ R)) (by simp) (by simp), Wb]
    rw [Yf8 (hr1 x (by simp)) (hr1 y (by simp [hyC])), Wb, Ye5]
    have hyx := hx y hyC
    by_cases hlt : dd d x < dd d y
    ·
     right
     rw [Wt hlt]
     simp only [Zce, Wu]
     rw [Y4y (n := ((P.length + (T ++ [y]).length : Nat) : Int) - 1) (by omega) (by omega), show ((P.length + (T ++ [y]).length : Nat) : Int) - 1 = ((P.length + T.length : Nat) : Int) from by omega, Int.toNat_natCast, Int.toNat_natCast]
     rw [Yf3 (X := P ++ T) (u := y) (Y := x :: (S2 ++ R)) (by simp) (by simp), Wb]
     rw [Yf3 (X := P ++ (T ++ [y])) (u := x) (Y := S2 ++ R) (by simp) (by simp), Wb]
     rw [Yf4 (X := P ++ (T ++ [y])) (u := x) (Y := S2 ++ R) (by simp) (by simp)]
     rw [Yf3 (X := P ++ T) (u := y) (Y := y :: (S2 ++ R)) (by simp) (by simp), Wb]
     rw [Yf4 (X := P ++ T) (u := y) (Y := y :: (S2 ++ R)) (by simp) (by simp)]
     refine ⟨_, T.length, rfl, by omega, T, y :: S2, by rw [← hS]; simp, by simp, fun z hz => ?_, rfl⟩
     rcases List.mem_cons.1 hz with rfl | hz
     ·
      unfold Lt2; omega
     ·
      exact hx2 z hz
    ·
     left
     rw [Wf hlt]
     simp only [Zce, Wv]
     refine ⟨_, rfl, hfin fun z hz => ?_⟩
     have hyx2 : Lt2 d y x := by unfold Lt2; omega
     rcases List.mem_append.1 hz with hz | hz
     ·
      rw [← hS] at hs
      have h3 := (Yf6.1 (Yf6.1 hs).1).2.2 z hz y (by simp)
      exact h3.trans hyx2
     ·
      rw [List.mem_singleton] at hz; subst hz; exact hyx2) big C1.length (P ++ C1 ++ x :: R, ((P.length + C1.length : Nat) : Int)) ⟨C1, [], by simp, by simp, by simp, rfl⟩ (Ycq (by omega))
  obtain ⟨o, h1, C, rfl, h2, h3⟩ := this
  exact ⟨C, h1, h2, h3⟩
 have := Y51 (step := fun z : List Int × Int => Zcg (P.length : Int) ((P.length + A.length : Nat) : Int) d z.1 z.2) (p := fun o => ∃ C, o = P ++ C ++ S ∧ C.Perm A ∧ Srt2 d C)
  (fun m (z : List Int × Int) => ∃ (t : Nat) (C1 : List Int), t ≤ A.length ∧ z = (P ++ C1 ++ A.drop t ++ S, ((P.length + t : Nat) : Int)) ∧ C1.Perm (A.take t) ∧ Srt2 d C1 ∧ m = A.length - t) (by
  rintro m z ⟨t, C1, ht, rfl, hp, hs, rfl⟩
  simp only [Zcg]
  have hC1 : C1.length = t := by rw [hp.length_eq]; simp; omega
  by_cases htA : t < A.length
  ·
   right
   have e0 : A.drop t = A[t] :: A.drop (t + 1) := List.drop_eq_getElem_cons htA
   have e1 : A.take (t + 1) = A.take t ++ [A[t]] := by rw [List.take_add_one, We htA]; rfl
   obtain ⟨C, h1, h2, h3⟩ := inner C1 (A.drop (t + 1) ++ S) A[t] (fun y hy => by
    rcases List.mem_cons.1 hy with rfl | hy
    ·
     exact hr _ (Wm _)
    ·
     exact hr _ (List.mem_of_mem_take (hp.mem_iff.1 hy))) hs (fun y hy => by
    obtain ⟨i, hi, hit, rfl⟩ := Yfd (hp.mem_iff.1 hy)
    exact List.pairwise_iff_getElem.1 hA i t hi htA hit) (by simp; omega)
   rw [Wt (by omega), Wu]
   rw [hC1] at h1
   generalize A[t] = u at *
   rw [show P ++ C1 ++ A.drop t ++ S = P ++ C1 ++ u :: (A.drop (t + 1) ++ S) by rw [e0]; simp only [List.append_assoc, List.cons_append], h1, Wb]
   simp only [Zcd]
   refine ⟨_, A.length - (t + 1), rfl, by omega, t + 1, C, by omega, ?_, ?_, h3, rfl⟩
   ·
    rw [Y4y (by omega) (by omega)]
    simp only [Prod.mk.injEq]
    exact ⟨by simp only [List.append_assoc], by omega⟩
   ·
    rw [e1]; exact h2.trans (List.Perm.append_right _ hp)
  ·
   left
   obtain rfl : t = A.length := by omega
   rw [Wf (by omega), Wv]
   refine ⟨_, rfl, C1, by simp, by simpa using hp, hs⟩) big (A.length - 1) (P ++ A ++ S, (P.length : Int) + 1) ⟨1, A.take 1, by omega, by
    simp only [Prod.mk.injEq]
    refine ⟨?_, by omega⟩
    rw [List.append_assoc P (A.take 1), List.take_append_drop], .refl _, by
    cases A with
    | nil => exact absurd rfl hA0
    | cons a r => exact List.pairwise_singleton _ _, rfl⟩ (Ycq (by omega))
 obtain ⟨o, h1, C, rfl, h2, h3⟩ := this
 rw [Y4y (by omega) (by omega), h1]
 exact ⟨C, rfl, h2, h3⟩


structure Seg (d : List Int) (a : Nat) (B : List Int) : Prop where
 srt : Srt2 d B
 in_ : ∀ x ∈ B, (a : Int) ≤ x ∧ x < ((a + B.length : Nat) : Int)

inductive Blks (d : List Int) (bs : Nat) : Nat → List Int → Prop
 | last (a : Nat) (B : List Int) : B.length ≤ bs → Seg d a B → Blks d bs a B
 | cons (a : Nat) (B l : List Int) : B.length = bs → Seg d a B → Blks d bs (a + bs) l → Blks d bs a (B ++ l)

theorem Seg.merge {d : List Int} {a : Nat} {B1 B2 C : List Int} (h1 : Seg d a B1) (h2 : Seg d (a + B1.length) B2) (hp : C.Perm (B1 ++ B2)) (hs : Srt2 d C) : Seg d a C := by
 refine ⟨hs, fun x hx => ?_⟩
 have hl := hp.length_eq
 rw [List.length_append] at hl
 rcases List.mem_append.1 (hp.mem_iff.1 hx) with h | h
 ·
  have := h1.in_ x h; omega
 ·
  have := h2.in_ x h; omega
theorem Seg.lt {d : List Int} {a : Nat} {B1 B2 : List Int} (h1 : Seg d a B1) (h2 : Seg d (a + B1.length) B2) : ∀ x ∈ B1, ∀ y ∈ B2, x < y := fun x hx y hy => by
 have := h1.in_ x hx; have := h2.in_ y hy; omega

theorem Blks.one {d : List Int} {bs a : Nat} {l : List Int} (h0 : 0 < bs) (h : Blks d bs a l) (hl : l.length ≤ bs) : Seg d a l := by
 cases h with
 | last _ _ _ h => exact h
 | cons _ B r h1 h2 h3 =>
  rw [List.length_append] at hl
  obtain rfl : r = [] := List.eq_nil_of_length_eq_zero (by omega)
  simpa using h2
theorem Blks.first {d : List Int} {bs a : Nat} {l : List Int} (h : Blks d bs a l) (hl : bs ≤ l.length) : ∃ B r, l = B ++ r ∧ B.length = bs ∧ Seg d a B ∧ Blks d bs (a + bs) r := by
 cases h with
 | last _ _ h1 h => exact ⟨l, [], by simp, by omega, h, .last _ _ (by simp) ⟨.nil, by simp⟩⟩
 | cons _ B r h1 h2 h3 => exact ⟨B, r, rfl, h1, h2, h3⟩

def idt (a n : Nat) : List Int := (List.range' a n).map fun i : Nat => (i : Int)
theorem Yfq (a n : Nat) : (idt a n).length = n := by simp [idt]
theorem Yfr (a m n : Nat) : idt a (m + n) = idt a m ++ idt (a + m) n := by
 unfold idt
 rw [← List.map_append, List.range'_append_1]
theorem Yfs (a n : Nat) : (idt a n).Pairwise (· < ·) := by
 unfold idt
 rw [List.pairwise_map]
 exact (List.pairwise_lt_range' (s := a) (n := n)).imp fun h => by omega
theorem Yft {a n : Nat} {x : Int} (h : x ∈ idt a n) : (a : Int) ≤ x ∧ x < ((a + n : Nat) : Int) := by
 unfold idt at h
 obtain ⟨i, hi, rfl⟩ := List.mem_map.1 h
 have := List.mem_range'_1.1 hi
 omega

theorem Seg.ins {d : List Int} {a n : Nat} {C : List Int} (hp : C.Perm (idt a n)) (hs : Srt2 d C) : Seg d a C := ⟨hs, fun x hx => by
 have := Yft (hp.mem_iff.1 hx)
 rw [hp.length_eq, Yfq]
 exact this⟩

def Yfu (d : List Int) (n : Nat) (ps : List Int) : Prop := ps.Perm (idt 0 n) ∧ Srt2 d ps

theorem Yfv (d : List Int) (n : Nat) (hd : d.length = n) (hn : n ≤ 1000) : ∃ ps, Zdk (idt 0 n) d = some ps ∧ Yfu d n ps := by
 unfold Zdk Zdi
 rw [Yfq]
 have hin : ∀ l : List Int, l.Perm (idt 0 n) → ∀ y ∈ l, InR d y := fun l hl y hy => by
  have := Yft (hl.mem_iff.1 hy)
  unfold InR; omega
 -- sorted by insertion
 obtain ⟨⟨o1, oa⟩, h1, X, ha, hXn, hX20, ho, hp1, hB1⟩ := Y51 (step := fun z : List Int × Int × Int => Zdh (n : Int) d z.1 z.2.1 z.2.2)
  (p := fun o : List Int × Int => ∃ X, ((X.length : Nat) : Int) = o.2 ∧ X.length ≤ n ∧ n < X.length + 20 ∧ o.1 = X ++ idt X.length (n - X.length) ∧ X.Perm (idt 0 X.length) ∧ ∀ l', Blks d 20 X.length l' → Blks d 20 0 (X ++ l'))
  (fun m (z : List Int × Int × Int) => ∃ X, z = (X ++ idt X.length (n - X.length), (X.length : Int), ((X.length + 20 : Nat) : Int)) ∧ X.length ≤ n ∧ X.Perm (idt 0 X.length) ∧ (∀ l', Blks d 20 X.length l' → Blks d 20 0 (X ++ l')) ∧ m = n - X.length) (by
  rintro m z ⟨X, rfl, hXn, hp, hB, rfl⟩
  simp only [Zdh]
  by_cases hle : X.length + 20 ≤ n
  ·
   right
   rw [Wt (by omega), Wu]
   have e : idt X.length (n - X.length) = idt X.length 20 ++ idt (X.length + 20) (n - X.length - 20) := by
    rw [← Yfr]; congr 1; omega
   obtain ⟨C, c1, c2, c3⟩ := Yfp d X (idt X.length 20) (idt (X.length + 20) (n - X.length - 20)) (by simp only [Yfq]; omega) (fun y hy => by have := Yft hy; unfold InR; omega) (Yfs _ _)
   rw [Yfq] at c1
   rw [e, ← List.append_assoc, c1, Wb, Y4y (by omega) (by omega)]
   have hCl : C.length = 20 := by rw [c2.length_eq, Yfq]
   refine ⟨_, n - (X ++ C).length, rfl, by simp; omega, X ++ C, ?_, by simp; omega, ?_, fun l' hl' => ?_, rfl⟩
   ·
    have hl2 : (X ++ C).length = X.length + 20 := by simp; omega
    rw [hl2]
    simp only [Prod.mk.injEq]
    exact ⟨by congr 2, trivial, by omega⟩
   ·
    have hl2 : (X ++ C).length = X.length + 20 := by simp; omega
    rw [hl2, Yfr]
    exact hp.append (by simpa using c2)
   ·
    rw [List.append_assoc]
    refine hB _ (.cons _ _ _ hCl (.ins c2 c3) ?_)
    have hl2 : (X ++ C).length = X.length + 20 := by simp; omega
    rwa [hl2] at hl'
  ·
   left
   rw [Wf (by omega), Wv]
   exact ⟨_, rfl, X, rfl, hXn, by omega, rfl, hp, hB⟩) big n (idt 0 n, (0 : Int), (20 : Int)) ⟨[], by simp, by simp, by simp [idt], fun l' h => by simpa using h, by simp⟩ (Ycq (by omega))
 simp only at ha ho
 subst ha ho
 rw [h1, Wb]
 simp only [Zdg]
 obtain ⟨C, c1, c2, c3⟩ := Yfp d X (idt X.length (n - X.length)) [] (by simp only [Yfq, List.length_nil]; omega) (fun y hy => by have := Yft hy; unfold InR; omega) (Yfs _ _)
 rw [Yfq, List.append_nil, List.append_nil, show ((X.length + (n - X.length) : Nat) : Int) = (n : Int) by omega] at c1
 rw [c1, Wb]
 have hl1 : (X ++ C).Perm (idt 0 n) := by
  rw [show n = X.length + (n - X.length) by omega, Yfr]
  exact hp1.append (by simpa using c2)
 have hb1 : Blks d 20 0 (X ++ C) := hB1 _ (.last _ _ (by rw [c2.length_eq, Yfq]; omega) (.ins c2 c3))
 generalize X ++ C = l1 at hl1 hb1
 -- merged
 have hmg := Yfo d big
 have hself : ∀ p0 p1 p2 p3 p4, Zda p0 p1 p2 p3 p4 = Zd8 big p0 p1 p2 p3 p4 := fun _ _ _ _ _ => rfl
 have mg : ∀ (P B1 B2 S : List Int), B1 ≠ [] → B2 ≠ [] → (P ++ B1 ++ B2 ++ S).Perm (idt 0 n) → Seg d P.length B1 → Seg d (P.length + B1.length) B2 → ∃ C, Zda (P ++ B1 ++ B2 ++ S) (P.length : Int) ((P.length + B1.length : Nat) : Int) ((P.length + B1.length + B2.length : Nat) : Int) d = some (P ++ C ++ S) ∧ C.Perm (B1 ++ B2) ∧ Seg d P.length C := by
  intro P B1 B2 S n1 n2 hp s1 s2
  have hl := hp.length_eq
  rw [Yfq] at hl
  simp only [List.length_append] at hl
  obtain ⟨C, e1, e2, e3⟩ := hmg P B1 B2 S n1 n2 (Ycq (by omega)) (by omega) (fun y hy => hin _ hp y (by simp at hy ⊢; rcases hy with h | h <;> simp [h])) s1.srt s2.srt (s1.lt s2)
  exact ⟨C, by rw [hself]; exact e1, e2, s1.merge s2 e2 e3⟩
 obtain ⟨o, e1, e2⟩ := Y51 (step := fun z : List Int × Int => Zdf (n : Int) d z.1 z.2) (p := fun o => Yfu d n o)
  (fun m (z : List Int × Int) => ∃ (bs : Nat) (l : List Int), z = (l, (bs : Int)) ∧ 0 < bs ∧ bs ≤ 2000 ∧ l.Perm (idt 0 n) ∧ Blks d bs 0 l ∧ m = n - bs) (by
  rintro m z ⟨bs, l, rfl, hbs, hbs2, hl, hbk, rfl⟩
  have hll : l.length = n := by rw [hl.length_eq, Yfq]
  simp only [Zdf]
  by_cases hlt : bs < n
  ·
   right
   rw [Wt (by omega), Wu]
   obtain ⟨⟨o1, oa⟩, f1, X, Y, ha, ho, hY, hpX, hBY, hBX⟩ := Y51 (step := fun z : List Int × Int × Int => Zde (n : Int) d bs z.1 z.2.1 z.2.2)
    (p := fun o : List Int × Int => ∃ X Y, ((X.length : Nat) : Int) = o.2 ∧ o.1 = X ++ Y ∧ Y.length < 2 * bs ∧ (X ++ Y).Perm (idt 0 n) ∧ Blks d bs X.length Y ∧ ∀ l', Blks d (2 * bs) X.length l' → Blks d (2 * bs) 0 (X ++ l'))
    (fun m (z : List Int × Int × Int) => ∃ X Y, z = (X ++ Y, (X.length : Int), ((X.length + 2 * bs : Nat) : Int)) ∧ (X ++ Y).Perm (idt 0 n) ∧ Blks d bs X.length Y ∧ (∀ l', Blks d (2 * bs) X.length l' → Blks d (2 * bs) 0 (X ++ l')) ∧ m = Y.length) (by
    rintro m z ⟨X, Y, rfl, hp, hY, hX, rfl⟩
    have hlen := hp.length_eq
    rw [Yfq, List.length_append] at hlen
    simp only [Zde]
    by_cases hle : X.length + 2 * bs ≤ n
    ·
     right
     rw [Wt (by omega), Wu]
     obtain ⟨B1, r1, rfl, l1, g1, k1⟩ := hY.first (by omega)
     rw [List.length_append] at hlen
     obtain ⟨B2, r2, rfl, l2, g2, k2⟩ := k1.first (by omega)
     obtain ⟨C, c1, c2, c3⟩ := mg X B1 B2 r2 (Yfl.1 (by omega)) (Yfl.1 (by omega)) (by simpa using hp) g1 (by rw [l1]; exact g2)
     have hCl : C.length = 2 * bs := by rw [c2.length_eq]; simp; omega
     rw [Y4y (n := (X.length : Int) + (bs : Int)) (by omega) (by omega), show (X.length : Int) + (bs : Int) = ((X.length + B1.length : Nat) : Int) by omega, show ((X.length + 2 * bs : Nat) : Int) = ((X.length + B1.length + B2.length : Nat) : Int) by omega]
     rw [show X ++ (B1 ++ (B2 ++ r2)) = X ++ B1 ++ B2 ++ r2 by simp, c1, Wb]
     rw [Y4y (n := 2 * (bs : Int)) (by omega) (by omega), Y4y (by omega) (by omega)]
     have hl2 : (X ++ C).length = X.length + 2 * bs := by simp; omega
     refine ⟨_, r2.length, rfl, by simp; omega, X ++ C, r2, ?_, ?_, ?_, fun l' hl' => ?_, rfl⟩
     ·
      rw [hl2]
      simp only [Prod.mk.injEq, true_and]
      exact ⟨by omega, by omega⟩
     ·
      refine List.Perm.trans ?_ hp
      rw [List.append_assoc, ← List.append_assoc B1]
      exact List.Perm.append_left _ (List.Perm.append_right _ c2)
     ·
      rw [hl2, show X.length + 2 * bs = X.length + bs + bs by omega]; exact k2
     ·
      rw [List.append_assoc]
      refine hX _ (.cons _ _ _ hCl c3 ?_)
      rwa [hl2] at hl'
    ·
     left
     rw [Wf (by omega), Wv]
     exact ⟨_, rfl, X, Y, rfl, rfl, by omega, hp, hY, hX⟩) big n (l, (0 : Int), ((2 * bs : Nat) : Int)) ⟨[], l, by simp, hl, hbk, fun l' h => by simpa using h, by omega⟩ (Ycq (by omega))
   simp only at ha ho
   subst ha ho
   rw [Y4y (n := 2 * (bs : Int)) (by omega) (by omega), show 2 * (bs : Int) = ((2 * bs : Nat) : Int) by omega, f1, Wb]
   simp only [Zdd, Zdc]
   have hlen := hpX.length_eq
   rw [Yfq, List.length_append] at hlen
   rw [Y4y (n := (X.length : Int) + (bs : Int)) (by omega) (by omega), Y4y (n := (bs : Int) * 2) (by omega) (by omega), show (bs : Int) * 2 = ((2 * bs : Nat) : Int) by omega]
   by_cases hmn : X.length + bs < n
   ·
    rw [Wt (by omega), Wu]
    obtain ⟨B1, r1, rfl, l1, g1, k1⟩ := hBY.first (by omega)
    simp only [List.length_append] at hlen hY
    have g2 := k1.one hbs (by omega)
    obtain ⟨C, c1, c2, c3⟩ := mg X B1 r1 [] (Yfl.1 (by omega)) (Yfl.1 (by omega)) (by simpa using hpX) g1 (by rw [l1]; exact g2)
    rw [List.append_nil, List.append_nil] at c1
    rw [show (X.length : Int) + (bs : Int) = ((X.length + B1.length : Nat) : Int) by omega, show (n : Int) = ((X.length + B1.length + r1.length : Nat) : Int) by omega, ← List.append_assoc, c1, Wb]
    refine ⟨_, n - 2 * bs, rfl, by omega, 2 * bs, X ++ C, rfl, by omega, by omega, ?_, hBX _ (.last _ _ (by rw [c2.length_eq]; simp; omega) c3), rfl⟩
    exact (List.Perm.append_left _ c2).trans hpX
   ·
    rw [Wf (by omega), Wv]
    exact ⟨_, n - 2 * bs, rfl, by omega, 2 * bs, X ++ Y, rfl, by omega, by omega, hpX, hBX _ (.last _ _ (by omega) (hBY.one hbs (by omega))), rfl⟩
  ·
   left
   rw [Wf (by omega), Wv]
   exact ⟨l, rfl, hl, (hbk.one hbs (by omega)).srt⟩) big (n - 20) (l1, (20 : Int)) ⟨20, l1, rfl, by omega, by omega, hl1, hb1, rfl⟩ (Ycq (by omega))
 rw [e1]
 exact ⟨o, rfl, e2⟩
end Go.Proofs.YtomachnjepgpbaaGreat
namespace Go.Proofs.YtomachnjepgpbaaGreat
open Go Go.Abs

theorem Yfw (a n i : Nat) (h : i < (idt a n).length) : (idt a n)[i] = ((a + i : Nat) : Int) := by simp [idt]

def Yfx (l : List Y9j) : List Int := (Zdk (idt 0 l.length) (Yep l)).getD []
def idPl (l : List Y9j) (x : Int) : Int := (l.getD x.toNat zEv).id
def Yfy (l : List Y9j) : List Int := (Yfx l).map (idPl l)

theorem Yfz {l : List Y9j} (hf : Fits l) : Zdk (idt 0 l.length) (Yep l) = some (Yfx l) ∧ Yfu (Yep l) l.length (Yfx l) := by
 obtain ⟨ps, h1, h2⟩ := Yfv (Yep l) l.length (Yev hf).2.len (by have := hf.len; omega)
 have : Yfx l = ps := by unfold Yfx; rw [h1]; rfl
 rw [this]
 exact ⟨h1, h2⟩

theorem Yg0 {l : List Y9j} (hf : Fits l) {x : Int} (hx : x ∈ Yfx l) : ∃ k : Nat, x = (k : Int) ∧ k < l.length := by
 have := Yft ((Yfz hf).2.1.mem_iff.1 hx)
 exact ⟨x.toNat, by omega, by omega⟩
theorem Yg1 {l : List Y9j} (hf : Fits l) : (Yfx l).length = l.length := by rw [(Yfz hf).2.1.length_eq, Yfq]

theorem Yg2 {g : Y9k} (hf : Fits g.events) : Zdq g = some (Yfy g.events) := by
 have hl := hf.len
 unfold Zdq
 rw [Yf2 hf, Wb]
 have h1 := Ydc (l := List.range g.events.length) (step := fun z : List Int × Int => Zdp g z.1 z.2) (fun s j => (s, j)) (fun s => s) (fun s i => s ++ [(i : Int)]) (fun i s => s.length = i) (by simp; omega) (fun i s hi hs => by
  simp only [List.length_range] at hi
  simp only [List.getElem_range]
  refine ⟨?_, by simp [hs]⟩
  simp only [Zdp]
  rw [dlt hi, Wu, Y4z (Wt (by simp; omega)), Wb, Ycw hi (by omega)])
  (fun s hs => by simp only [List.length_range, Zdp]; rw [dnlt, Wv]) (s := []) rfl
 have e1 : ∀ (r : List Nat) (s : List Int), r.foldl (fun s (i : Nat) => s ++ [(i : Int)]) s = s ++ r.map fun i : Nat => (i : Int) := by
  intro r
  induction r with
  | nil => intro s; simp
  | cons i r ih => intro s; rw [List.foldl_cons, ih]; simp
 rw [e1] at h1
 have e2 : ([] : List Int) ++ (List.range g.events.length).map (fun i : Nat => (i : Int)) = idt 0 g.events.length := by unfold idt; rw [List.range_eq_range']; simp
 rw [e2] at h1
 rw [h1.1, Wb]
 simp only [Zdo, Zdm]
 rw [(Yfz hf).1, Wb]
 have hol := Yg1 hf
 have h2 := Ydc (l := Yfx g.events) (step := fun z : List Int × Int => Zdn g (Yfx g.events) z.1 z.2) (fun s j => (s, j)) (fun s => s) (fun s x => s ++ [idPl g.events x]) (fun i s => s.length = i) (by omega) (fun i s hi hs => by
  refine ⟨?_, by simp [hs]⟩
  simp only [Zdn]
  obtain ⟨k, hk, hkl⟩ := Yg0 hf (Wm hi)
  rw [dlt hi, Wu, Ycv hi, Wb, hk, Ycv hkl, Wb, Y4z (Wt (by simp; omega)), Wb, Ycw hi (by omega)]
  unfold idPl
  simp [hkl])
  (fun s hs => by simp only [Zdn]; rw [dnlt, Wv]) (s := []) rfl
 have e3 : ∀ (r : List Int) (s : List Int), r.foldl (fun s x => s ++ [idPl g.events x]) s = s ++ r.map (idPl g.events) := by
  intro r
  induction r with
  | nil => intro s; simp
  | cons i r ih => intro s; rw [List.foldl_cons, ih]; simp
 rw [h2.1, e3]
 rfl


def layP (d : List Int) (n : Nat) (k : Int) : List Int := (idt 0 n).filter fun x => decide (dd d x = k)
def Yg3 (d : List Int) (n : Nat) : Nat → List Int
 | 0 => []
 | k + 1 => Yg3 d n k ++ layP d n ((k + 1 : Nat) : Int)

theorem Yg4 {p q : Int → Bool} : ∀ {l : List Int}, (∀ x ∈ l, p x = true → q x = false) → (l.filter p ++ l.filter q).Perm (l.filter fun x => p x || q x)
 | [], _ => .refl _
 | a :: l, h => by
  have ih := Yg4 (l := l) fun x hx => h x (by simp [hx])
  cases hp : p a with
  | true =>
   have hq := h a (by simp) hp
   rw [List.filter_cons_of_pos hp, List.filter_cons_of_neg (by simp [hq]), List.filter_cons_of_pos (by simp [hp])]
   exact ih.cons a
  | false =>
   cases hq : q a with
   | true =>
    rw [List.filter_cons_of_neg (by simp [hp]), List.filter_cons_of_pos hq, List.filter_cons_of_pos (by simp [hq])]
    exact List.perm_middle.trans (ih.cons a)
   | false =>
    rw [List.filter_cons_of_neg (by simp [hp]), List.filter_cons_of_neg (by simp [hq]), List.filter_cons_of_neg (by simp [hp, hq])]
    exact ih

theorem Yg5 {d : List Int} {n : Nat} (hpos : ∀ x ∈ idt 0 n, 1 ≤ dd d x) : ∀ k : Nat, (Yg3 d n k).Perm ((idt 0 n).filter fun x => decide (dd d x ≤ (k : Int)))
 | 0 => by
  have : (idt 0 n).filter (fun x => decide (dd d x ≤ ((0 : Nat) : Int))) = [] := List.filter_eq_nil_iff.2 fun x hx => by have := hpos x hx; simp; omega
  rw [this]; exact .refl _
 | k + 1 => by
  refine ((Yg5 hpos k).append_right _).trans ?_
  unfold layP
  refine (Yg4 fun x _ hx => by simp at hx ⊢; omega).trans ?_
  rw [show (fun x => decide (dd d x ≤ ((k + 1 : Nat) : Int))) = fun x => (decide (dd d x ≤ (k : Int)) || decide (dd d x = ((k + 1 : Nat) : Int))) from funext fun x => by
   by_cases h : dd d x ≤ ((k + 1 : Nat) : Int)
   ·
    by_cases h2 : dd d x ≤ (k : Int)
    ·
     rw [Wt h, Wt h2]; rfl
    ·
     rw [Wt h, Wf h2, Wt (by omega : dd d x = ((k + 1 : Nat) : Int))]; rfl
   ·
    rw [Wf h, Wf (by omega), Wf (by omega)]; rfl]

theorem Yg6 {d : List Int} {n : Nat} (hpos : ∀ x ∈ idt 0 n, 1 ≤ dd d x) : ∀ k : Nat, Srt2 d (Yg3 d n k)
 | 0 => .nil
 | k + 1 => by
  refine Yf6.2 ⟨Yg6 hpos k, ?_, fun a ha b hb => ?_⟩
  ·
   unfold layP
   refine List.Pairwise.imp_of_mem (fun {x y} hx hy hlt => ?_) ((Yfs 0 n).filter _)
   have h1 := Wo (List.mem_filter.1 hx).2
   have h2 := Wo (List.mem_filter.1 hy).2
   unfold Lt2; omega
  ·
   have h1 := (Yg5 hpos k).mem_iff.1 ha
   have h2 := Wo (List.mem_filter.1 h1).2
   have h3 := Wo (List.mem_filter.1 hb).2
   unfold Lt2; omega

theorem Yg7 {d : List Int} {n k : Nat} (hpos : ∀ x ∈ idt 0 n, 1 ≤ dd d x) (hl : n ≤ (Yg3 d n k).length) : Yfu d n (Yg3 d n k) := by
 refine ⟨?_, Yg6 hpos k⟩
 have hp := Yg5 hpos k
 have h1 : ((idt 0 n).filter fun x => decide (dd d x ≤ (k : Int))).length = (idt 0 n).length := by
  have h2 := hp.length_eq
  have h3 := List.length_filter_le (fun x => decide (dd d x ≤ (k : Int))) (idt 0 n)
  rw [Yfq] at h3 ⊢
  omega
 rw [List.length_filter_eq_length_iff] at h1
 rw [List.filter_eq_self.2 h1] at hp
 exact hp

theorem Yg8 {d : List Int} {n : Nat} {p q : List Int} (hp : Yfu d n p) (hq : Yfu d n q) : p = q :=
 List.Perm.eq_of_pairwise (fun a b _ _ h1 h2 => by unfold Lt2 at h1 h2; omega) hp.2 hq.2 (hp.1.trans hq.1.symm)

def Deep (l : List Y9j) : Prop := ∀ x ∈ Yep l, 0 < x

theorem Yg9 {d : List Int} {x : Int} (h : InR d x) : dd d x ∈ d := by
 have := Yf7 h
 unfold getI at this
 rw [if_pos h.1] at this
 exact List.mem_of_getElem? this

theorem Yga {g : Y9k} (hf : Fits g.events) (hd : Deep g.events) : Z5f g = some (Yfy g.events) := by
 have hl := hf.len
 obtain ⟨e0, hb⟩ := Yev hf
 unfold Z5f
 rw [e0, Wb]
 unfold Deep at hd
 have hord := (Yfz hf).2
 unfold Yfy
 generalize Yep g.events = d at hb hd hord
 have hin : ∀ x ∈ idt 0 g.events.length, InR d x := fun x hx => by have := Yft hx; have := hb.len; unfold InR; omega
 have hpos : ∀ x ∈ idt 0 g.events.length, 1 ≤ dd d x := fun x hx => by have := hd _ (Yg9 (hin x hx)); omega
 have hB : g.events.length * g.events.length ≤ 3600 := Nat.mul_le_mul hl hl
 have inner : ∀ (k : Int) (s : List Int), s.length ≤ 1000 → iter (fun z : List Int × Int => Z5d g d k z.1 z.2) big (s, 0) = some (s ++ (layP d g.events.length k).map (idPl g.events)) := by
  intro k s hs
  have h2 := Ydc (l := idt 0 g.events.length) (step := fun z : List Int × Int => Z5d g d k z.1 z.2) (fun s j => (s, j)) (fun s => s) (fun s x => if dd d x = k then s ++ [idPl g.events x] else s) (fun i s' => s'.length ≤ s.length + i) (by rw [Yfq]; omega) (fun i s' hi hs' => by
   have hi' : i < g.events.length := by rwa [Yfq] at hi
   have hid : i < d.length := by rw [hb.len]; exact hi'
   rw [Yfw, Nat.zero_add]
   have e5 : dd d (i : Int) = d[i] := by unfold dd; simp [hid]
   rw [e5]
   refine ⟨?_, by split <;> first | omega | (rw [List.length_append, List.length_singleton]; omega)⟩
   simp only [Z5d]
   rw [dlt hi', Wu, Ycv hid, Wb, beqd]
   simp only [Z5c, Ycw hi' (by omega : g.events.length < 9223372036854775807)]
   by_cases hk : d[i] = k
   ·
    rw [Wt hk, Wu, if_pos hk, Ycv hi', Wb, Y4z (Wt (by simp; omega)), Wb]
    unfold idPl; simp [hi']
   ·
    rw [Wf hk, Wv, if_neg hk])
   (fun s hs => by rw [Yfq]; simp only [Z5d]; rw [dnlt, Wv]) (s := s) (by omega)
  rw [h2.1]
  congr 1
  unfold layP
  generalize idt 0 g.events.length = r
  clear h2
  induction r generalizing s with
  | nil => simp
  | cons x r ih =>
   rw [List.foldl_cons]
   by_cases hk : dd d x = k
   ·
    rw [if_pos hk, List.filter_cons_of_pos (by simp [hk])]
    have : ∀ s : List Int, r.foldl (fun s x => if dd d x = k then s ++ [idPl g.events x] else s) s = s ++ (r.filter fun x => decide (dd d x = k)).map (idPl g.events) := by
     clear ih hs
     induction r with
     | nil => intro s; simp
     | cons y r ih2 =>
      intro s
      rw [List.foldl_cons]
      by_cases hy : dd d y = k
      ·
       rw [if_pos hy, List.filter_cons_of_pos (by simp [hy]), ih2]; simp
      ·
       rw [if_neg hy, List.filter_cons_of_neg (by simp [hy]), ih2]
    rw [this]; simp
   ·
    rw [if_neg hk, List.filter_cons_of_neg (by simp [hk])]
    exact ih s hs
 have hlay : ∀ k, (Yg3 d g.events.length k).length ≤ g.events.length := fun k => by
  have h1 := (Yg5 hpos k).length_eq
  have h2 := List.length_filter_le (fun x => decide (dd d x ≤ (k : Int))) (idt 0 g.events.length)
  rw [Yfq] at h2; omega
 obtain ⟨o, h1, rfl⟩ := Y51 (step := fun z : List Int × Int => Z5e g d z.1 z.2) (p := fun o => o = (Yfx g.events).map (idPl g.events))
  (fun m (z : List Int × Int) => ∃ k : Nat, z = ((Yg3 d g.events.length k).map (idPl g.events), ((k + 1 : Nat) : Int)) ∧ k ≤ 3600 ∧ m = 3600 - k) (by
  rintro m z ⟨k, rfl, hk, rfl⟩
  simp only [Z5e, List.length_map]
  by_cases hlt : (Yg3 d g.events.length k).length < g.events.length
  ·
   right
   have hk2 : k < 3600 := by
    rcases Nat.lt_or_ge k 3600 with h | h
    ·
     exact h
    ·
     exfalso
     have h2 := (Yg5 hpos k).length_eq
     rw [List.filter_eq_self.2 (fun x hx => Wt (by have := (hb.in_ _ (Yg9 (hin x hx))).2; omega)), Yfq] at h2
     omega
   have := hlay k
   rw [dlt hlt, Wu, inner _ _ (by simp; omega), Wb]
   simp only [Z5b]
   refine ⟨_, 3600 - (k + 1), rfl, by omega, k + 1, ?_, by omega, rfl⟩
   rw [Y4y (by omega) (by omega)]
   simp only [Yg3, List.map_append, Prod.mk.injEq, true_and]
   omega
  ·
   left
   rw [Wf (by omega), Wv]
   refine ⟨_, rfl, ?_⟩
   rw [Yg8 (Yg7 hpos (by omega)) hord]) big 3600 (([] : List Int), (1 : Int)) ⟨0, rfl, by omega, rfl⟩ (Ycq (by omega))
 rw [h1]; rfl


structure GOk (g : Y9k) : Prop where
 room : 1 ≤ g.room ∧ g.room ≤ 3
 fits : Fits g.events
 ev : ∀ e ∈ g.events, EvOk e ∧ e.room = g.room
 plen : g.parked.length ≤ 20
 pup : Up2 g.parked
 pev : ∀ e ∈ g.parked, EvOk e ∧ e.room = g.room
 apart : ∀ e ∈ g.events, hasE g.parked e.id = false
 lack : ∀ e ∈ g.parked, (e.prev.all fun p => hasE g.events p) = false
 deep : Deep g.events

structure Fine (g : Y9k) : Prop where
 elen : g.events.length ≤ 1048576
 plen : g.parked.length ≤ 1048576
 ep : ∀ e ∈ g.events, e.prev.length ≤ 1048576
 pp : ∀ e ∈ g.parked, e.prev.length ≤ 1048576

theorem Ygb {l : List Y9j} {room : Int} : Row l room ↔ (∀ e ∈ l, EvOk e ∧ e.room = room) ∧ Up2 l := by
 unfold Row
 constructor
 ·
  rintro ⟨h1, h2⟩
  exact ⟨fun e he => ⟨(Ydm e).2.1 (h1 e he).1, (h1 e he).2⟩, h2⟩
 ·
  rintro ⟨h1, h2⟩
  exact ⟨fun e he => ⟨(Ydm e).2.2 (h1 e he).1, (h1 e he).2⟩, h2⟩

def Ygc (l : List Y9j) (e : Y9j) : Bool := e.prev.all fun p => hasE l p

theorem Ygd (l : List Y9j) {c : Nat} (hb : Bd l c (Yep l)) : Yew (Yep l) = 0 ↔ Deep l := by
 unfold Yew Deep
 rw [List.countP_eq_zero]
 constructor
 ·
  intro h x hx
  have h1 := h x hx
  have h2 := (hb.in_ x hx).1
  simp at h1
  omega
 ·
  intro h x hx
  have := h x hx
  simp; omega

def Yge (g : Y9k) : Bool := (g.events.all fun e => Ygc g.events e && !hasE g.parked e.id) && ((g.parked.all fun e => !Ygc g.events e) && decide (Yew (Yep g.events) = 0))

theorem Zkc {g : Y9k} (hg : Fine g) (he : Row g.events g.room) (hp : Row g.parked g.room) (h60 : g.events.length ≤ 60) : Z34 g false = some (Yge g) := by
 have hel := hg.elen
 have hpl := hg.plen
 simp only [Z34, Wv]
 rw [Ydb (l := g.events) (fun e => Ygc g.events e && !hasE g.parked e.id) (.inl false) (.inr ()) (by omega) (fun i hi => by
  simp only [Z33]
  have := hg.ep _ (Wm hi)
  rw [dlt hi, Wu, Ycv hi, Wb, Ye0 _ _ (by omega) (by omega), Wb, Yds _ _ (by omega), Wb, Ydt]
  simp only [Z32, Ycw hi (by omega : g.events.length < 9223372036854775807)]
  show cond (Ygc g.events g.events[i]) _ _ = _
  cases Ygc g.events g.events[i] with
  | false => rfl
  | true => cases hasE g.parked g.events[i].id <;> rfl) (by simp only [Z33]; rw [dnlt, Wv])]
 unfold Yge
 cases h1 : g.events.all fun e => Ygc g.events e && !hasE g.parked e.id with
 | false => rfl
 | true =>
  simp only [Wu, Wb, Bool.true_and, Z31]
  rw [Ydb (l := g.parked) (fun e => !Ygc g.events e) (.inl false) (.inr ()) (by omega) (fun i hi => by
   simp only [Z30]
   have := hg.pp _ (Wm hi)
   rw [dlt hi, Wu, Ycv hi, Wb, Ye0 _ _ (by omega) (by omega), Wb, Ycw hi (by omega)]
   show cond (Ygc g.events g.parked[i]) _ _ = _
   cases Ygc g.events g.parked[i] <;> simp) (by simp only [Z30]; rw [dnlt, Wv])]
  cases h2 : g.parked.all fun e => !Ygc g.events e with
  | false => rfl
  | true =>
   simp only [Wu, Wb, Bool.true_and, Z2z]
   have hf : Fits g.events := ⟨he.2, fun e hm p hpm => by
    have := List.all_eq_true.1 h1 e hm
    simp only [Bool.and_eq_true] at this
    exact List.all_eq_true.1 this.1 p hpm, h60, fun e hm => by have := hg.ep e hm; omega⟩
   obtain ⟨e0, hb⟩ := Yev hf
   rw [e0, Wb]
   have hdl := hb.len
   rw [Ydb (l := Yep g.events) (fun x => !decide (x = 0)) (.inl false) (.inr ()) (by omega) (fun i hi => by
    simp only [Z2y]
    rw [dlt hi, Wu, Ycv hi, Wb, beqd, Ycw hi (by omega)]
    cases decide ((Yep g.events)[i] = 0) <;> rfl) (by simp only [Z2y]; rw [dnlt, Wv])]
   have : ((Yep g.events).all fun x => !decide (x = 0)) = decide (Yew (Yep g.events) = 0) := by
    rw [Bool.eq_iff_iff]
    unfold Yew
    rw [decide_eq_true_eq, List.countP_eq_zero, List.all_eq_true]
    simp
   rw [this]
   cases decide (Yew (Yep g.events) = 0) <;> rfl
end Go.Proofs.YtomachnjepgpbaaGreat
namespace Go.Proofs.YtomachnjepgpbaaGreat
open Go Go.Abs

theorem Zkd {g : Y9k} (hg : Fine g) (he : Row g.events g.room) (h60 : g.events.length ≤ 60) : Zbh g false = some (Yge g) := by
 have hel := hg.elen
 have hpl := hg.plen
 simp only [Zbh, Wv, Zb6, Zb4]
 rw [Yde (Yd9 (l := g.events) (step := Zb3 g.events g) (fun e => !Ygc g.events e) (by omega) (fun i hi => by
  have := hg.ep _ (Wm hi)
  simp only [Zb3, Zb0]
  rw [dlt hi, Wu, Ycv hi, Wb, Yea _ _ he.2 (by omega) (by omega), Wb, Wb, Ycw hi (by omega)]
  show cond (!Ygc g.events g.events[i]) _ _ = _
  cases Ygc g.events g.events[i] <;> rfl) (by simp only [Zb3]; rw [dnlt, Wv])) (fun _ => rfl) rfl]
 rw [Wb, Ydd, Wb]
 simp only [Zbf, Zbd]
 rw [Yde (Yd9 (l := g.parked) (step := Zbc g.parked g) (fun e => hasE g.events e.id || Ygc g.events e) (by omega) (fun i hi => by
  have := hg.pp _ (Wm hi)
  simp only [Zbc, Zb9, Zb8]
  rw [dlt hi, Wu, Ycv hi, Wb, Ye9 _ _ he.2 (by omega), Wb, Yea _ _ he.2 (by omega) (by omega), Ycw hi (by omega)]
  show (cond (hasE g.events g.parked[i].id) (some true) (some (Ygc g.events g.parked[i]))).bind _ = _
  cases hasE g.events g.parked[i].id <;> cases Ygc g.events g.parked[i] <;> rfl) (by simp only [Zbc]; rw [dnlt, Wv])) (fun _ => rfl) rfl]
 simp only [Wb, Ydd]
 have hx : (g.events.all fun e => Ygc g.events e && !hasE g.parked e.id) = ((g.events.all fun e => Ygc g.events e) && g.events.all fun e => !hasE g.parked e.id) := by
  rw [Bool.eq_iff_iff]; simp [List.all_eq_true, forall_and]
 have hy : (g.events.all fun e => !hasE g.parked e.id) = (g.parked.all fun e => !hasE g.events e.id) := by
  rw [Bool.eq_iff_iff, List.all_eq_true, List.all_eq_true]
  constructor
  ·
   intro h e hm
   rw [Bool.not_eq_true', Bool.eq_false_iff]
   intro hh
   obtain ⟨e', h1, h2⟩ := Ydy.1 hh
   have := h e' h1
   rw [Bool.not_eq_true', Bool.eq_false_iff] at this
   exact this (Ydy.2 ⟨e, hm, h2.symm⟩)
  ·
   intro h e hm
   rw [Bool.not_eq_true', Bool.eq_false_iff]
   intro hh
   obtain ⟨e', h1, h2⟩ := Ydy.1 hh
   have := h e' h1
   rw [Bool.not_eq_true', Bool.eq_false_iff] at this
   exact this (Ydy.2 ⟨e, hm, h2.symm⟩)
 unfold Yge
 rw [hx, hy]
 have h1 : (g.events.any fun e => !Ygc g.events e) = !(g.events.all fun e => Ygc g.events e) := by simp [List.all_eq_not_any_not]
 have h2 : (g.parked.any fun e => hasE g.events e.id || Ygc g.events e) = !((g.parked.all fun e => !hasE g.events e.id) && g.parked.all fun e => !Ygc g.events e) := by
  rw [Bool.eq_iff_iff]
  simp only [List.any_eq_true, Bool.or_eq_true, Bool.not_eq_true', Bool.and_eq_false_iff, List.all_eq_false, Bool.not_eq_false']
  constructor
  ·
   rintro ⟨x, hx, h | h⟩
   ·
    exact .inl ⟨x, hx, by simp [h]⟩
   ·
    exact .inr ⟨x, hx, by simp [h]⟩
  ·
   rintro (⟨x, hx, h⟩ | ⟨x, hx, h⟩)
   ·
    exact ⟨x, hx, .inl (by simpa using h)⟩
   ·
    exact ⟨x, hx, .inr (by simpa using h)⟩
 rw [h1, h2]
 cases hw : g.events.all fun e => Ygc g.events e with
 | false => rfl
 | true =>
  have hf : Fits g.events := ⟨he.2, fun e hm p hpm => List.all_eq_true.1 (List.all_eq_true.1 hw e hm) p hpm, h60, fun e hm => by have := hg.ep e hm; omega⟩
  rw [Yf2 hf]
  cases (g.parked.all fun e => !hasE g.events e.id) <;> cases (g.parked.all fun e => !Ygc g.events e) <;> cases decide (Yew (Yep g.events) = 0) <;> rfl

theorem Ygf {g : Y9k} (hg : Fine g) (he : Row g.events g.room) (hp : Row g.parked g.room) (h60 : g.events.length ≤ 60) (h20 : g.parked.length ≤ 20) (hr : 1 ≤ g.room ∧ g.room ≤ 3) : Yge g = true ↔ GOk g := by
 have h1 := Ygb.1 he
 have h2 := Ygb.1 hp
 unfold Yge
 simp only [Bool.and_eq_true, decide_eq_true_eq, List.all_eq_true, Bool.not_eq_true']
 constructor
 ·
  rintro ⟨a, b, c⟩
  have hf : Fits g.events := ⟨he.2, fun e hm p hpm => List.all_eq_true.1 (a e hm).1 p hpm, h60, fun e hm => by have := hg.ep e hm; omega⟩
  exact ⟨hr, hf, h1.1, h20, h2.2, h2.1, fun e hm => (a e hm).2, fun e hm => b e hm, (Ygd _ (Yev hf).2).1 c⟩
 ·
  intro h
  refine ⟨fun e hm => ⟨List.all_eq_true.2 fun p hp => h.fits.whole e hm p hp, h.apart e hm⟩, fun e hm => h.lack e hm, (Ygd _ (Yev h.fits).2).2 h.deep⟩

theorem Ygg {g : Y9k} (hg : Fine g) : ∃ b, Z35 g = some b ∧ Zbi g = some b ∧ (b = true ↔ GOk g) := by
 have hel := hg.elen
 have hpl := hg.plen
 have hno : ∀ x : Bool, x = true → Z34 g x = some false := fun x hx => by subst hx; rfl
 have hno2 : ∀ x : Bool, x = true → Zbh g x = some false := fun x hx => by subst hx; rfl
 unfold Z35 Zbi
 rw [Ycz, Yd3, Wb, Wb, Ydq _ _ _ (by omega), Ydq _ _ _ (by omega), Ydr g g.events (by omega) (fun e he => by have := hg.ep e he; omega), Ydr g g.parked (by omega) (fun e he => by have := hg.pp e he; omega)]
 simp only [Wb]
 by_cases hr : 1 ≤ g.room ∧ g.room ≤ 3
 ·
  rw [Wt hr]
  simp only [Wu]
  by_cases h60 : g.events.length ≤ 60
  ·
   rw [Wt (by omega : (g.events.length : Int) ≤ 60), Wf (by omega : ¬ (g.events.length : Int) > 60)]
   simp only [Bool.true_and, Wv]
   by_cases he : Row g.events g.room
   ·
    rw [Wt he]
    simp only [Wu]
    by_cases h20 : g.parked.length ≤ 20
    ·
     rw [Wt (by omega : (g.parked.length : Int) ≤ 20), Wf (by omega : ¬ (g.parked.length : Int) > 20)]
     simp only [Bool.true_and, Wv]
     by_cases hp : Row g.parked g.room
     ·
      rw [Wt hp]
      exact ⟨Yge g, Zkc hg he hp h60, Zkd hg he h60, Ygf hg he hp h60 h20 hr⟩
     ·
      rw [Wf hp]
      exact ⟨false, hno _ rfl, hno2 _ rfl, (fun h => nomatch h), fun h => absurd (Ygb.2 ⟨h.pev, h.pup⟩) hp⟩
    ·
     rw [Wf (by omega : ¬ (g.parked.length : Int) ≤ 20), Wt (by omega : (g.parked.length : Int) > 20)]
     exact ⟨false, hno _ rfl, hno2 _ rfl, (fun h => nomatch h), fun h => absurd h.plen h20⟩
   ·
    rw [Wf he]
    refine ⟨false, hno _ rfl, ?_, (fun h => nomatch h), fun h => absurd (Ygb.2 ⟨h.ev, h.fits.up⟩) he⟩
    by_cases h20 : g.parked.length ≤ 20
    ·
     rw [Wf (by omega : ¬ (g.parked.length : Int) > 20)]; exact hno2 _ rfl
    ·
     rw [Wt (by omega : (g.parked.length : Int) > 20)]; exact hno2 _ rfl
  ·
   rw [Wf (by omega : ¬ (g.events.length : Int) ≤ 60), Wt (by omega : (g.events.length : Int) > 60)]
   exact ⟨false, hno _ rfl, hno2 _ rfl, (fun h => nomatch h), fun h => absurd h.fits.len h60⟩
 ·
  rw [Wf hr]
  exact ⟨false, hno _ rfl, hno2 _ rfl, (fun h => nomatch h), fun h => absurd h.room hr⟩


def ltK (a b : Y9m) : Prop := a.kind < b.kind ∨ a.kind = b.kind ∧ a.key < b.key
instance (a b : Y9m) : Decidable (ltK a b) := by unfold ltK; infer_instance
def eqK (a b : Y9m) : Prop := a.kind = b.kind ∧ a.key = b.key
instance (a b : Y9m) : Decidable (eqK a b) := by unfold eqK; infer_instance
abbrev UpS (s : List Y9m) : Prop := s.Pairwise ltK
def idS (s : List Y9m) (kind key : Int) : Int := match s.find? (fun x => decide (x.kind = kind ∧ x.key = key)) with | some x => x.id | none => 0
def putS : List Y9m → Y9m → List Y9m
 | [], x => [x]
 | e :: r, x => if ltK e x then e :: putS r x else if eqK e x then x :: r else x :: e :: r

theorem Ygh (s : List Y9m) (kind key : Int) (hl : s.length < 9223372036854775807) : Z5k s kind key = some (idS s kind key) := by
 unfold Z5k
 rcases Ycr (step := Z5j s kind key) (n := s.length) (fun i => if h : i < s.length then cond (decide (s[i].kind = kind ∧ s[i].key = key)) (some (.inl s[i].id)) none else none) (.inr ()) hl (fun i hi => by
  simp only [Z5j, Z5i, hi, dif_pos]
  rw [dlt hi, Wu, Ycv hi, Wb, Ycw hi hl, Wb, beqd, beqd]
  by_cases h1 : s[i].kind = kind <;> by_cases h2 : s[i].key = key <;> simp [h1, h2]) (by simp only [Z5j]; rw [dnlt, Wv]) with ⟨i, o, hi, ho, hb, hx⟩ | ⟨h, hx⟩
 ·
  rw [hx, Wb]
  simp only [hi, dif_pos] at ho
  unfold idS
  by_cases hp : s[i].kind = kind ∧ s[i].key = key
  ·
   rw [Wt hp] at ho
   cases ho
   have : s.find? (fun x => decide (x.kind = kind ∧ x.key = key)) = some s[i] := by
    rw [List.find?_eq_some_iff_getElem]
    refine ⟨Wt hp, i, hi, rfl, fun j hj => ?_⟩
    have hjl : j < s.length := by omega
    have := hb j hj
    simp only [hjl, dif_pos] at this
    by_cases hq : s[j].kind = kind ∧ s[j].key = key
    ·
     rw [Wt hq] at this; cases this
    ·
     rw [Wf hq]; rfl
   rw [this]
  ·
   rw [Wf hp] at ho; cases ho
 ·
  rw [hx, Wb]
  unfold idS
  have : s.find? (fun x => decide (x.kind = kind ∧ x.key = key)) = none := by
   rw [List.find?_eq_none]
   intro x hxm hx
   obtain ⟨i, hi, rfl⟩ := List.mem_iff_getElem.1 hxm
   have := h i hi
   simp only [hi, dif_pos, hx, Wu] at this
   cases this
  rw [this]; rfl

theorem Ygi (a b : Y9m) : Z5x a b = some (decide (ltK a b)) := by
 unfold Z5x Z5w ltK
 rw [beqd]
 by_cases h1 : a.kind < b.kind
 ·
  simp [h1]
 ·
  by_cases h2 : a.kind = b.kind
  ·
   simp [h2]
  ·
   simp [h1, h2]

theorem Ygj {α : Type} {l : List α} {step : Int → Option (Int ⊕ Int)} (p : α → Bool) (hl : l.length < 9223372036854775807)
  (h1 : ∀ (i : Nat) (hi : i < l.length), step (i : Int) = some (cond (p l[i]) (.inl ((i + 1 : Nat) : Int)) (.inr (i : Int)))) (h2 : step (l.length : Int) = some (.inr (l.length : Int))) :
  iter step big 0 = some (((l.takeWhile p).length : Nat) : Int) := by
 refine Y52 (fun m (x : Int) => ∃ i : Nat, x = i ∧ i ≤ l.length ∧ (l.takeWhile p).length = i + ((l.drop i).takeWhile p).length ∧ m = l.length - i) ?_ (m := l.length) ⟨0, rfl, by omega, by simp, by omega⟩ (Ycq (by omega))
 rintro m x ⟨i, rfl, hi, ht, rfl⟩
 by_cases hil : i < l.length
 ·
  rw [h1 i hil]
  rw [List.drop_eq_getElem_cons hil] at ht
  cases hp : p l[i] with
  | true =>
   right
   rw [List.takeWhile_cons_of_pos hp] at ht
   exact ⟨_, l.length - (i + 1), rfl, by omega, i + 1, rfl, by omega, by simp at ht ⊢; omega, rfl⟩
  | false =>
   left
   rw [List.takeWhile_cons_of_neg (by simp [hp])] at ht
   simp at ht
   rw [ht]; rfl
 ·
  obtain rfl : i = l.length := by omega
  left
  rw [List.drop_length] at ht
  simp at ht
  rw [h2, ht]

theorem Ygk {α : Type} (p : α → Bool) (l : List α) : l.take (l.takeWhile p).length = l.takeWhile p ∧ l.drop (l.takeWhile p).length = l.dropWhile p := by
 have h : l.takeWhile p ++ l.dropWhile p = l := List.takeWhile_append_dropWhile
 constructor
 ·
  conv => lhs; arg 2; rw [← h]
  rw [List.take_left]
 ·
  conv => lhs; arg 2; rw [← h]
  rw [List.drop_left]

theorem Ygl {n : Nat} (h : n < 1000000000) : chk (decide (n * 24 ≤ 140737488355328)) = some () := Y4z (Wt (by omega))
theorem chk8 {n : Nat} (h : n < 1000000000) : chk (decide (n * 8 ≤ 140737488355328)) = some () := Y4z (Wt (by omega))

theorem Ygm (s : List Y9m) (x : Y9m) (hl : s.length < 100000000) : Z5u s x = some (s.filter fun e => !decide (eqK e x)) := by
 unfold Z5u
 have := Ydc (l := s) (step := fun z : List Y9m × Int => Z5t s x z.1 z.2) (fun q j => (q, j)) (fun q => q) (fun q e => if eqK e x then q else q ++ [e]) (fun i q => q.length ≤ i) (by omega) (fun i q hi hq => by
  refine ⟨?_, by split <;> first | omega | (rw [List.length_append, List.length_singleton]; omega)⟩
  simp only [Z5t, Z5s, Z5r]
  rw [dlt hi, Wu, Ycv hi, Wb, Wb, Ycw hi (by omega), bned, bned, Ygl (by simp; omega), Wb]
  unfold eqK
  by_cases h1 : s[i].kind = x.kind <;> by_cases h2 : s[i].key = x.key <;> simp [h1, h2])
  (fun q _ => by simp only [Z5t]; rw [dnlt, Wv]) (s := []) (by simp)
 rw [this.1, Wb]
 simp only [Z5q]
 congr 1
 have : ∀ (r q : List Y9m), r.foldl (fun q e => if eqK e x then q else q ++ [e]) q = q ++ r.filter fun e => !decide (eqK e x) := by
  intro r
  induction r with
  | nil => intro q; simp
  | cons e r ih =>
   intro q
   rw [List.foldl_cons, ih]
   by_cases h : eqK e x
   ·
    rw [if_pos h, List.filter_cons_of_neg (by simp [h])]
   ·
    rw [if_neg h, List.filter_cons_of_pos (by simp [h])]; simp
 rw [this]; simp

theorem Ygn {x : Y9m} : ∀ {s : List Y9m}, UpS s → putS s x = ((s.filter fun e => !decide (eqK e x)).takeWhile fun e => decide (ltK e x)) ++ x :: ((s.filter fun e => !decide (eqK e x)).dropWhile fun e => decide (ltK e x))
 | [], _ => rfl
 | e :: r, h => by
  obtain ⟨h1, h2⟩ := List.pairwise_cons.1 h
  have hgt : ∀ y : Y9m, ¬ ltK e x → y ∈ r → ltK x y := fun y hn hy => by
   have := h1 y hy
   unfold ltK at *; omega
  have hfil : ¬ ltK e x → r.filter (fun e => !decide (eqK e x)) = r := fun hn => List.filter_eq_self.2 fun y hy => by
   have := hgt y hn hy
   rw [Bool.not_eq_true', decide_eq_false_iff_not]
   unfold ltK at this; unfold eqK; omega
  have htw : ¬ ltK e x → r.takeWhile (fun e => decide (ltK e x)) = [] ∧ r.dropWhile (fun e => decide (ltK e x)) = r := fun hn => by
   cases r with
   | nil => exact ⟨rfl, rfl⟩
   | cons y r =>
    have : ¬ ltK y x := by have := hgt y hn (by simp); unfold ltK at *; omega
    rw [List.takeWhile_cons_of_neg (by simp [this]), List.dropWhile_cons_of_neg (by simp [this])]
    exact ⟨rfl, rfl⟩
  unfold putS
  by_cases hlt : ltK e x
  ·
   have hne : ¬ eqK e x := by unfold ltK at hlt; unfold eqK; omega
   rw [if_pos hlt, List.filter_cons_of_pos (by simp [hne]), List.takeWhile_cons_of_pos (by simp [hlt]), List.dropWhile_cons_of_pos (by simp [hlt]), Ygn h2]
   rfl
  ·
   rw [if_neg hlt]
   by_cases he : eqK e x
   ·
    rw [if_pos he, List.filter_cons_of_neg (by simp [he]), hfil hlt, (htw hlt).1, (htw hlt).2]; rfl
   ·
    rw [if_neg he, List.filter_cons_of_pos (by simp [he]), List.takeWhile_cons_of_neg (by simp [hlt]), List.dropWhile_cons_of_neg (by simp [hlt]), hfil hlt]; rfl

theorem Ygo {s : List Y9m} (hs : UpS s) (x : Y9m) (hl : s.length < 1000000) : Z62 s x = some (putS s x) := by
 unfold Z62
 rw [Ygm _ _ (by omega), Wb, Ygn hs]
 have hfl : (s.filter fun e => !decide (eqK e x)).length ≤ s.length := List.length_filter_le _ _
 generalize s.filter (fun e => !decide (eqK e x)) = l at hfl
 rw [Ygj (l := l) (fun e => decide (ltK e x)) (by omega) (fun i hi => by
  simp only [Z61, Z60]
  rw [dlt hi, Wu, Ycv hi, Wb, Ygi, Wb, Ycw hi (by omega)]
  cases decide (ltK l[i] x) <;> rfl) (by simp only [Z61, Z60]; rw [dnlt, Wv, Wv]), Wb]
 simp only [Z5z]
 have hk : (l.takeWhile fun e => decide (ltK e x)).length ≤ l.length := (List.takeWhile_prefix _).length_le
 obtain ⟨e1, e2⟩ := Ygk (fun e => decide (ltK e x)) l
 rw [Y65 hk, Wb, e1, Ygl (by simp; omega), Wb, Ygl (by simp; omega), Wb, Y66 hk, Wb, e2]
 have hd : (l.dropWhile fun e => decide (ltK e x)).length ≤ l.length := (List.dropWhile_suffix _).length_le
 rw [Ygl (by simp; omega), Wb]
 simp
end Go.Proofs.YtomachnjepgpbaaGreat
namespace Go.Proofs.YtomachnjepgpbaaGreat
open Go Go.Abs

theorem Ygp (l : List Int) (hl : l.length < 9223372036854775807) : Zbm l = some ((l.find? fun x => !decide (x = 0)).getD 0) := by
 unfold Zbm
 rcases Ycr (step := Zbl l) (n := l.length) (fun i => if h : i < l.length then cond (!decide (l[i] = 0)) (some (.inl l[i])) none else none) (.inr ()) hl (fun i hi => by
  simp only [Zbl, hi, dif_pos]
  rw [dlt hi, Wu, Ycv hi, Wb, Ycw hi hl, bned]
  cases decide (l[i] = 0) <;> rfl) (by simp only [Zbl]; rw [dnlt, Wv]) with ⟨i, o, hi, ho, hb, hx⟩ | ⟨h, hx⟩
 ·
  rw [hx, Wb]
  simp only [hi, dif_pos] at ho
  cases hp : (!decide (l[i] = 0)) with
  | false => rw [hp] at ho; cases ho
  | true =>
   rw [hp] at ho; cases ho
   have : l.find? (fun x => !decide (x = 0)) = some l[i] := by
    rw [List.find?_eq_some_iff_getElem]
    refine ⟨hp, i, hi, rfl, fun j hj => ?_⟩
    have hjl : j < l.length := by omega
    have := hb j hj
    simp only [hjl, dif_pos] at this
    cases hq : (!decide (l[j] = 0)) with
    | true => rw [hq] at this; cases this
    | false => rfl
   rw [this]; rfl
 ·
  rw [hx, Wb]
  have : l.find? (fun x => !decide (x = 0)) = none := by
   rw [List.find?_eq_none]
   intro x hxm hx
   obtain ⟨i, hi, rfl⟩ := List.mem_iff_getElem.1 hxm
   have := h i hi
   simp only [hi, dif_pos, hx, Wu] at this
   cases this
  rw [this]; rfl

def cmpE (a b : Y9m) : Int := ([cmpI a.kind b.kind, cmpI a.key b.key].find? fun x => !decide (x = 0)).getD 0
theorem Ygq (a b : Y9m) : Zbo a b = some (cmpE a b) := by
 unfold Zbo
 rw [Ye4, Wb, Ye4, Wb, Ygp _ (by simp)]; rfl
theorem Ygr (a b : Int) : (a < b ∧ cmpI a b = -1) ∨ (a = b ∧ cmpI a b = 0) ∨ (b < a ∧ cmpI a b = 1) := by
 unfold cmpI
 split
 ·
  omega
 ·
  split <;> omega
theorem or2 (x y : Int) : ([x, y].find? fun z => !decide (z = 0)).getD 0 = if x = 0 then y else x := by
 by_cases h : x = 0
 ·
  subst h
  by_cases h2 : y = 0
  ·
   subst h2; rfl
  ·
   rw [List.find?_cons_of_neg (by simp), List.find?_cons_of_pos (by simp [h2]), if_pos rfl]; rfl
 ·
  rw [List.find?_cons_of_pos (by simp [h]), if_neg h]; rfl
theorem Ygs (a b : Y9m) : (ltK a b ∧ cmpE a b < 0) ∨ (eqK a b ∧ cmpE a b = 0) ∨ (ltK b a ∧ cmpE a b > 0) := by
 unfold cmpE ltK eqK
 rw [or2]
 rcases Ygr a.kind b.kind with ⟨h1, h2⟩ | ⟨h1, h2⟩ | ⟨h1, h2⟩
 ·
  rw [h2, if_neg (by omega)]; omega
 ·
  rw [if_pos h2]
  rcases Ygr a.key b.key with ⟨h3, h4⟩ | ⟨h3, h4⟩ | ⟨h3, h4⟩ <;> omega
 ·
  rw [h2, if_neg (by omega)]; omega
theorem Ygt (a b : Y9m) : decide (cmpE a b < 0) = decide (ltK a b) := by
 rcases Ygs a b with ⟨h1, h2⟩ | ⟨h1, h2⟩ | ⟨h1, h2⟩
 ·
  rw [Wt h1, Wt h2]
 ·
  rw [Wf (by omega), Wf (by unfold ltK; unfold eqK at h1; omega)]
 ·
  rw [Wf (by omega), Wf (by unfold ltK at *; omega)]
theorem Ygu (a b : Y9m) : (cmpE a b == 0) = decide (eqK a b) := by
 rw [beqd]
 rcases Ygs a b with ⟨h1, h2⟩ | ⟨h1, h2⟩ | ⟨h1, h2⟩
 ·
  rw [Wf (by omega), Wf (by unfold ltK at h1; unfold eqK; omega)]
 ·
  rw [Wt h1, Wt h2]
 ·
  rw [Wf (by omega), Wf (by unfold ltK at h1; unfold eqK; omega)]

def cutS (s : List Y9m) (x : Y9m) : Nat := s.countP fun e => decide (ltK e x)
def hasK (s : List Y9m) (x : Y9m) : Bool := s.any fun e => decide (eqK e x)
theorem UpS.cut {s : List Y9m} (h : UpS s) (x : Y9m) {i : Nat} (hi : i < s.length) : ltK s[i] x ↔ i < cutS s x := by
 have := Ye1 (p := fun e : Y9m => decide (ltK e x)) (l := s) (h.imp fun {a b} hab hb => by simp at hb ⊢; unfold ltK at *; omega) i hi
 rw [decide_eq_true_eq] at this
 exact this
theorem Ygv (s : List Y9m) (x : Y9m) : cutS s x ≤ s.length := List.countP_le_length
theorem UpS.lt {s : List Y9m} (h : UpS s) {i j : Nat} (hj : j < s.length) (hij : i < j) : ltK (s[i]'(Nat.lt_trans hij hj)) s[j] := List.pairwise_iff_getElem.1 h i j _ hj hij
theorem UpS.has_cut {s : List Y9m} (h : UpS s) (x : Y9m) : hasK s x = true ↔ ∃ hc : cutS s x < s.length, eqK s[cutS s x] x := by
 unfold hasK
 rw [List.any_eq_true]
 constructor
 ·
  rintro ⟨e, he, h1⟩
  rw [decide_eq_true_eq] at h1
  obtain ⟨k, hk, rfl⟩ := List.mem_iff_getElem.1 he
  have h3 := h.cut x hk
  have h6 : ¬ ltK s[k] x := by unfold ltK; unfold eqK at h1; omega
  have h7 : ¬ k < cutS s x := fun h8 => h6 (h3.2 h8)
  have hc : cutS s x < s.length := by omega
  refine ⟨hc, ?_⟩
  have h4 := h.cut x hc
  rcases Nat.lt_or_ge (cutS s x) k with h5 | h5
  ·
   have h8 := h.lt hk h5
   have : ltK s[cutS s x] x := by unfold ltK at h8 ⊢; unfold eqK at h1; omega
   have := h4.1 this; omega
  ·
   obtain rfl : k = cutS s x := by omega
   exact h1
 ·
  rintro ⟨hc, h1⟩
  exact ⟨_, Wm hc, Wt h1⟩

theorem Ygw {s : List Y9m} (x : Y9m) (h : UpS s) (hl : s.length < 4611686018427387904) : Zea s x = some ((cutS s x : Int), hasK s x) := by
 unfold Zea Ze8
 rw [Ye3 (n := s.length) (k := cutS s x) hl (Ygv _ _) ?_ ?_]
 ·
  rw [Wb]
  unfold Ze6 Ze5
  by_cases hk : cutS s x < s.length
  ·
   rw [dlt hk, Wu, Ycv hk, Wb, Ygq, Wb, Ygu, Wb]
   simp only [Option.some.injEq, Prod.mk.injEq, true_and]
   by_cases hh : hasK s x = true
   ·
    rw [hh, Wt ((h.has_cut x).1 hh).2]
   ·
    rw [Bool.eq_false_iff.2 hh, Wf (fun h1 => hh ((h.has_cut x).2 ⟨hk, h1⟩))]
  ·
   have : hasK s x = false := Bool.eq_false_iff.2 fun hh => hk ((h.has_cut x).1 hh).1
   rw [Wf (by omega), Wv, this]; rfl
 ·
  intro i j hij hj
  simp only [Ze7]
  have hm : (i + j) / 2 < s.length := by omega
  rw [dlt hij, Wu, Ye2 (by omega), Ycv hm, Wb, Ygq, Wb, Ygt, Ycw hm (by omega)]
  have := h.cut x hm
  by_cases hlt : ltK s[(i + j) / 2] x
  ·
   rw [Wt hlt, if_pos (this.1 hlt)]; rfl
  ·
   rw [Wf hlt, if_neg (fun h1 => hlt (this.2 h1))]; rfl
 ·
  intro i hi
  simp only [Ze7]
  rw [dnlt, Wv]

theorem Ygx {s : List Y9m} (kind key : Int) (h : UpS s) (hl : s.length < 4611686018427387904) : Zec s kind key = some (idS s kind key) := by
 unfold Zec
 rw [Ygw _ h hl, Wb]
 simp only
 unfold idS
 cases hh : hasK s (Y9m.mk kind key 0) with
 | false =>
  have : s.find? (fun x => decide (x.kind = kind ∧ x.key = key)) = none := by
   rw [List.find?_eq_none]
   intro x hx h1
   exact List.any_eq_false.1 hh x hx h1
  rw [this]; rfl
 | true =>
  obtain ⟨hc, h1⟩ := (h.has_cut _).1 hh
  have : s.find? (fun x => decide (x.kind = kind ∧ x.key = key)) = some s[cutS s (Y9m.mk kind key 0)] := by
   rw [List.find?_eq_some_iff_getElem]
   refine ⟨Wt h1, _, hc, rfl, fun j hj => ?_⟩
   have := h.lt hc hj
   rw [Bool.not_eq_true', decide_eq_false_iff_not]
   unfold ltK at this; unfold eqK at h1
   simp only at h1
   omega
  rw [this, Wu, Ycv hc]; rfl

theorem Ygy {x : Y9m} : ∀ {s : List Y9m}, UpS s → putS s x = if hasK s x = true then s.set (cutS s x) x else s.take (cutS s x) ++ [x] ++ s.drop (cutS s x)
 | [], _ => rfl
 | e :: r, h => by
  obtain ⟨h1, h2⟩ := List.pairwise_cons.1 h
  unfold putS
  by_cases hlt : ltK e x
  ·
   have hne : ¬ eqK e x := by unfold ltK at hlt; unfold eqK; omega
   have e1 : cutS (e :: r) x = cutS r x + 1 := by unfold cutS; rw [List.countP_cons_of_pos (by simp [hlt])]
   have e2 : hasK (e :: r) x = hasK r x := by unfold hasK; simp [hne]
   rw [if_pos hlt, Ygy h2, e1, e2]
   split <;> simp
  ·
   have hgt : ∀ y ∈ r, ltK x y ∨ (eqK e x ∧ ltK x y) := fun y hy => by
    have := h1 y hy
    unfold ltK eqK at *; omega
   have e1 : cutS (e :: r) x = 0 := by
    unfold cutS
    rw [List.countP_eq_zero]
    intro y hy
    rw [decide_eq_true_eq]
    rcases List.mem_cons.1 hy with rfl | hy
    ·
     exact hlt
    ·
     have := hgt y hy; unfold ltK eqK at *; omega
   rw [if_neg hlt, e1]
   by_cases he : eqK e x
   ·
    have e2 : hasK (e :: r) x = true := by unfold hasK; simp [he]
    rw [if_pos he, if_pos e2]; rfl
   ·
    have e2 : hasK (e :: r) x = false := by
     unfold hasK
     rw [List.any_eq_false]
     intro y hy
     rw [decide_eq_true_eq]
     rcases List.mem_cons.1 hy with rfl | hy
     ·
      exact he
     ·
      have := hgt y hy; unfold ltK eqK at *; omega
    rw [if_neg he, e2]; rfl

theorem Ygz {s : List Y9m} (hs : UpS s) (x : Y9m) (hx : x.id ≠ 0) (hl : s.length < 1000000) : Zfe s x = some (putS s x) := by
 unfold Zfe
 have : Zf4 s = some s := by unfold Zf4; rw [Ygl (by omega)]; rfl
 rw [this, Wb, Ygw _ hs (by omega), Wb, beqd, Wf hx, Wv]
 simp only [Zfd]
 rw [Wv, beqd, Wf hx, Wv, Ygy hs]
 by_cases hh : hasK s x = true
 ·
  obtain ⟨hc, _⟩ := (hs.has_cut _).1 hh
  rw [hh, Wu, Ycv hc, Wb, if_pos rfl]; rfl
 ·
  rw [Bool.eq_false_iff.2 hh, Wv, if_neg (by simp)]
  unfold Zfa insI
  have := Ygv s x
  rw [if_pos ⟨by omega, by omega, by simp, by simp; omega⟩]; rfl


structure StOk (l : List Y9j) (s : List Y9m) : Prop where
 up : UpS s
 ev : ∀ x ∈ s, ∃ e, evAt l x.id = some e ∧ e.kind = x.kind ∧ e.key = x.key

def Ids1 (l : List Y9j) : Prop := ∀ e ∈ l, 1 ≤ e.id
theorem GOk.ids {g : Y9k} (h : GOk g) : Ids1 g.events := fun e he => (h.ev e he).1.id.1

theorem Yh0 (s : List Y9m) (kind key : Int) : (idS s kind key = 0 ∧ ∀ x ∈ s, ¬ (x.kind = kind ∧ x.key = key)) ∨ ∃ x ∈ s, x.kind = kind ∧ x.key = key ∧ idS s kind key = x.id := by
 unfold idS
 cases hf : s.find? (fun x => decide (x.kind = kind ∧ x.key = key)) with
 | none =>
  left
  refine ⟨rfl, fun x hx h => ?_⟩
  have := List.find?_eq_none.1 hf x hx
  simp [h] at this
 | some x =>
  right
  have h1 := List.mem_of_find?_eq_some hf
  have h2 := List.find?_some hf
  rw [decide_eq_true_eq] at h2
  exact ⟨x, h1, h2.1, h2.2, rfl⟩

def cur (l : List Y9j) (s : List Y9m) (kind key : Int) : Option Y9j := evAt l (idS s kind key)

theorem Yh1 (l : List Y9j) (id : Int) : hasE l id = (evAt l id).isSome := by
 cases h : hasE l id with
 | false => rw [Ydw h]; rfl
 | true => obtain ⟨k, hk, _, _, h3⟩ := Ydv h; rw [h3]; rfl

theorem no0 {l : List Y9j} (h : Ids1 l) {id : Int} (hi : id ≤ 0) : evAt l id = none := by
 cases he : evAt l id with
 | none => rfl
 | some e => have := Ydz he; have := h e this.1; omega

theorem Yh2 {l : List Y9j} {s : List Y9m} (hl : Ids1 l) (hs : StOk l s) (kind key : Int) : (decide (idS s kind key > 0) = (cur l s kind key).isSome) ∧ (decide (idS s kind key = 0) = (cur l s kind key).isNone) ∧ 0 ≤ idS s kind key := by
 unfold cur
 rcases Yh0 s kind key with ⟨h0, _⟩ | ⟨x, hx, _, _, h⟩
 ·
  rw [h0, no0 hl (Int.le_refl 0)]; exact ⟨rfl, rfl, Int.le_refl 0⟩
 ·
  rw [h]
  obtain ⟨e, he, _⟩ := hs.ev x hx
  have h1 := Ydz he
  have h2 := hl e h1.1
  rw [he, Wt (by omega), Wf (by omega)]
  exact ⟨rfl, rfl, by omega⟩

theorem Yh3 {g : Y9k} {s : List Y9m} (hu : Up2 g.events) (hlen : g.events.length < 1000000) (hs : UpS s) (hsl : s.length < 1000000) (kind key : Int) : Zee g s kind key = some ((cur g.events s kind key).getD zEv, (cur g.events s kind key).isSome) := by
 unfold Zee
 rw [Ygx _ _ hs (by omega), Wb, c_at _ _ hu (by omega), Wb, Yh1]; rfl

theorem Yh4 {l : List Y9j} {id : Int} {e : Y9j} (h : evAt l id = some e) : getI l (plc l id) = some e ∧ 0 ≤ plc l id := by
 have : hasE l id = true := by rw [Yh1, h]; rfl
 obtain ⟨k, hk, h1, _, h3⟩ := Ydv this
 rw [h1, Ycv hk]
 rw [h] at h3
 exact ⟨h3.symm, by omega⟩

theorem Yh5 {g : Y9k} {s : List Y9m} (hl : Ids1 g.events) (hlen : g.events.length < 1000000) (hs : StOk g.events s) (hsl : s.length < 1000000) (kind key : Int) : Z6a g s kind key = some ((cur g.events s kind key).getD zEv) := by
 unfold Z6a
 rw [Ygh _ _ _ (by omega), Wb, beqd, (Yh2 hl hs kind key).2.1]
 cases hc : cur g.events s kind key with
 | none => rfl
 | some e =>
  simp only [Option.isNone_some, Wv, Option.getD_some]
  unfold cur at hc
  rw [Yds _ _ (by omega), Wb, (Yh4 hc).1]; rfl

def mbr (l : List Y9j) (s : List Y9m) (user : Int) : Int := ((cur l s 2 user).getD zEv).n
def lvl (l : List Y9j) (s : List Y9m) (user : Int) : Int := match cur l s 3 user with
 | some e => e.n
 | none => if ((cur l s 1 0).getD zEv).author = user then 100 else 0

structure Sts (g : Y9k) (s : List Y9m) : Prop where
 up : Up2 g.events
 len : g.events.length < 1000000
 ids : Ids1 g.events
 ok : StOk g.events s
 sl : s.length < 1000000

section
variable {g : Y9k} {s : List Y9m} (h : Sts g s)
include h
theorem Yh6 (user : Int) : Zeg g s user = some (mbr g.events s user) := by
 unfold Zeg; rw [Yh3 h.up h.len h.ok.up h.sl]; rfl
theorem Yh7 (user : Int) : Z6c g s user = some (mbr g.events s user) := by
 unfold Z6c; rw [Yh5 h.ids h.len h.ok h.sl]; rfl
theorem Yh8 {user : Int} (hu : user ≠ 0) : Zej g s user = some (lvl g.events s user) := by
 unfold Zej lvl
 rw [Yh3 h.up h.len h.ok.up h.sl, Wb, Yh3 h.up h.len h.ok.up h.sl]
 cases cur g.events s 3 user with
 | some e => rfl
 | none =>
  simp only [Option.isSome_none, Wv, Wb, Zei]
  cases cur g.events s 1 0 with
  | none =>
   have : ¬ zEv.author = user := fun h => hu h.symm
   simp [this]
  | some e =>
   simp only [Option.isSome_some, Wu, Option.getD_some, beqd]
   by_cases h1 : e.author = user <;> simp [h1]
theorem Yh9 (user : Int) : Z6e g s user = some (lvl g.events s user) := by
 unfold Z6e lvl
 rw [Ygh _ _ _ (by have := h.sl; omega), Wb, (Yh2 h.ids h.ok 3 user).1, Yh5 h.ids h.len h.ok h.sl, Yh5 h.ids h.len h.ok h.sl]
 cases cur g.events s 3 user with
 | some e => rfl
 | none =>
  simp only [Option.isSome_none, Wv, Wb, beqd]
  by_cases h1 : ((cur g.events s 1 0).getD zEv).author = user <;> simp [h1]
end

theorem Yha (b : Bool) : Zel b = some (cond b 11 0) := by cases b <;> rfl
theorem Yhb (b : Bool) : Z6g b = some (cond b 11 0) := by cases b <;> rfl

def alw (g : Y9k) (s : List Y9m) (e : Y9j) : Int := (Z6w g s e).getD 0

theorem Yhc {g : Y9k} {s : List Y9m} (h : Sts g s) (e : Y9j) (m : Int) : ∃ r, Z6l g s e m = some r ∧ Zep g s e m = some r := by
 unfold Z6l Zep
 simp only [Z6k, Zeo, Z6j, Z6i, Zen, Yh5 h.ids h.len h.ok h.sl, Yh3 h.up h.len h.ok.up h.sl, Yha, Yhb, Wb, beqd, bned]
 by_cases h1 : m = 1 <;> by_cases h2 : e.n = 1 <;> by_cases h3 : m = 3 <;> by_cases h4 : m = 4 <;> by_cases h5 : e.n = 2 <;> by_cases h6 : ((cur g.events s 5 0).getD zEv).n = 1 <;> by_cases h7 : ((cur g.events s 1 0).getD zEv).author = e.author <;> simp [h1, h2, h3, h4, h5, h6, h7]

theorem Yhd {g : Y9k} {s : List Y9m} (h : Sts g s) (e : Y9j) (p : Int) (hk : e.key ≠ 0) : ∃ r, Z6q g s e p = some r ∧ Zev g s e p = some r := by
 unfold Z6q Zev
 simp only [Zeu, Zet, Zes, Zer, Z6p, Z6o, Z6n, Yh7 h, Yh6 h, Yh9 h, Yh8 h hk, Yha, Yhb, Wb, beqd, bned]
 generalize mbr g.events s e.key = t
 generalize lvl g.events s e.key = q
 by_cases h1 : p < 50 <;> by_cases h2 : p ≤ q <;> by_cases h3 : e.n = 4 <;> by_cases h4 : e.n = 2 <;> by_cases h5 : e.n = 3 <;> by_cases h6 : t = 1 <;> by_cases h7 : t = 3 <;> by_cases h8 : t = 0 <;> by_cases h9 : t = 2 <;> simp [h1, h2, h3, h4, h5, h6, h7, h8, h9]
end Go.Proofs.YtomachnjepgpbaaGreat
namespace Go.Proofs.YtomachnjepgpbaaGreat
open Go Go.Abs

theorem Yhe {g : Y9k} {s : List Y9m} (h : Sts g s) {e : Y9j} (ha : e.author ≠ 0) (hk : e.kind = 2 ∨ e.kind = 3 → e.key ≠ 0) : ∃ r, Z6w g s e = some r ∧ Zf2 g s e = some r := by
 unfold Z6w Zf2
 simp only [Zf1, Zf0, Zez, Zey, Zex, Z6v, Z6u, Z6t, Z6s]
 rw [Ygh _ _ _ (by have := h.sl; omega), Wb, (Yh2 h.ids h.ok 1 0).1, Yh3 h.up h.len h.ok.up h.sl, Wb, Yh6 h, Wb, Yh8 h ha, Wb, Yh7 h, Yh9 h]
 simp only [Wb, beqd, bned, Yha, Yhb]
 generalize hm : mbr g.events s e.author = m
 generalize hp : lvl g.events s e.author = p
 by_cases k1 : e.kind = 1
 ·
  cases (cur g.events s 1 0).isSome <;> simp [k1]
 ·
  cases (cur g.events s 1 0).isSome with
  | false => simp [k1]
  | true =>
   by_cases k2 : e.kind = 2
   ·
    obtain ⟨r1, a1, a2⟩ := Yhc h e m
    obtain ⟨r2, b1, b2⟩ := Yhd h e p (hk (.inl k2))
    by_cases q1 : e.key = e.author
    ·
     refine ⟨r1, ?_, ?_⟩ <;> simp [k2, q1, a1, a2]
    ·
     by_cases q2 : m = 1
     ·
      refine ⟨r2, ?_, ?_⟩ <;> simp [k2, q1, q2, b1, b2]
     ·
      simp [k2, q1, q2]
   ·
    by_cases q2 : m = 1
    ·
     by_cases k3 : e.kind = 3
     ·
      have e1 := Yh8 h (hk (.inr k3))
      have e2 := Yh9 h e.key
      by_cases q3 : p < 50 <;> by_cases q4 : e.n > p <;> by_cases q5 : e.key = e.author <;> simp [k3, q2, q3, q4, q5, e1, e2]
      all_goals (subst q5; simp_all)
     ·
      by_cases k4 : e.kind = 4
      ·
       simp [k4, q2]
      ·
       by_cases k5 : e.kind = 5
       ·
        simp [k5, q2]
       ·
        by_cases k6 : e.kind = 6
        ·
         simp [k6, q2]
        ·
         by_cases k8 : e.kind = 8
         ·
          rw [c_at _ _ h.up (by have := h.len; omega), Yds _ _ (by have := h.len; omega), Yh1]
          simp only [Wb, Ydu, Yh1]
          cases he : evAt g.events e.key with
          | none => simp [k8, q2]
          | some e' =>
           have := (Yh4 he).1
           by_cases q3 : p < 50 <;> simp [k8, q2, q3, this]
         ·
          simp [k1, k2, k3, k4, k5, k6, k8, q2]
    ·
     simp [k1, k2, q2]

def Ask (e : Y9j) : Prop := e.author ≠ 0 ∧ (e.kind = 2 ∨ e.kind = 3 → e.key ≠ 0)

theorem Yhf {g : Y9k} {s : List Y9m} (h : Sts g s) {e : Y9j} (ha : Ask e) : Z6w g s e = some (alw g s e) ∧ Zf2 g s e = some (alw g s e) := by
 obtain ⟨r, h1, h2⟩ := Yhe h ha.1 ha.2
 unfold alw
 rw [h1, h2]
 exact ⟨rfl, rfl⟩

theorem EvOk.ask {e : Y9j} (h : EvOk e) : Ask e := by
 refine ⟨by have := h.author; omega, fun hk => ?_⟩
 have hb := h.body
 unfold Ydj Z28 Z20 Z21 Z22 Z23 Z24 Z25 Z26 Z27 at hb
 simp only [Yd1, Ycz, Yd0, Wb, beqd] at hb
 rcases hk with hk | hk
 ·
  rw [hk] at hb
  intro h0
  rw [h0] at hb
  simp at hb
 ·
  rw [hk] at hb
  intro h0
  rw [h0] at hb
  simp at hb


abbrev UpI (l : List Int) : Prop := l.Pairwise (· < ·)
def setI : List Int → Int → List Int
 | [], n => [n]
 | a :: r, n => if a < n then a :: setI r n else if a = n then a :: r else n :: a :: r

theorem Yhg {n : Int} : ∀ {l : List Int}, UpI l → setI l n = if (l.dropWhile fun a => decide (a < n)).head? = some n then l else (l.takeWhile fun a => decide (a < n)) ++ n :: (l.dropWhile fun a => decide (a < n))
 | [], _ => rfl
 | a :: r, h => by
  obtain ⟨h1, h2⟩ := List.pairwise_cons.1 h
  unfold setI
  by_cases hlt : a < n
  ·
   rw [if_pos hlt, List.takeWhile_cons_of_pos (by simp [hlt]), List.dropWhile_cons_of_pos (by simp [hlt]), Yhg h2]
   split <;> rfl
  ·
   rw [if_neg hlt, List.takeWhile_cons_of_neg (by simp [hlt]), List.dropWhile_cons_of_neg (by simp [hlt])]
   by_cases he : a = n
   ·
    subst he; simp
   ·
    rw [if_neg he, if_neg (by simp [he])]; rfl

theorem Yhh {l : List Int} (hl : UpI l) (n : Int) (hb : l.length < 1000000) : Zx l n = some (setI l n) := by
 unfold Zx
 rw [Ygj (l := l) (fun a => decide (a < n)) (by omega) (fun i hi => by
  simp only [Zw, Zv]
  rw [dlt hi, Wu, Ycv hi, Wb, Ycw hi (by omega)]
  cases decide (l[i] < n) <;> rfl) (by simp only [Zw, Zv]; rw [dnlt, Wv, Wv]), Wb, Yhg hl]
 have hk : (l.takeWhile fun a => decide (a < n)).length ≤ l.length := (List.takeWhile_prefix _).length_le
 obtain ⟨e1, e2⟩ := Ygk (fun a => decide (a < n)) l
 have hd : (l.dropWhile fun a => decide (a < n)).length ≤ l.length := (List.dropWhile_suffix _).length_le
 simp only [Zu, Zt]
 have hins : (Y2d l 0 (((l.takeWhile fun a => decide (a < n)).length : Nat) : Int)).bind (fun s19 => (chk (decide ((([] : List Int).length + s19.length) * 8 ≤ 140737488355328))).bind fun u22 => (chk (decide (((([] : List Int) ++ s19).length + [n].length) * 8 ≤ 140737488355328))).bind fun u26 => (Y2d l (((l.takeWhile fun a => decide (a < n)).length : Nat) : Int) (l.length : Int)).bind fun s28 => (chk (decide ((((([] : List Int) ++ s19) ++ [n]).length + s28.length) * 8 ≤ 140737488355328))).bind fun u31 => some (((([] : List Int) ++ s19) ++ [n]) ++ s28)) = some ((l.takeWhile fun a => decide (a < n)) ++ n :: (l.dropWhile fun a => decide (a < n))) := by
  rw [Y65 hk, Wb, e1, chk8 (by simp; omega), Wb, chk8 (by simp; omega), Wb, Y66 hk, Wb, e2, chk8 (by simp; omega), Wb]
  simp
 by_cases hlt : (l.takeWhile fun a => decide (a < n)).length < l.length
 ·
  rw [dlt hlt, Wu, Ycv hlt, Wb, beqd]
  have e3 : (l.dropWhile fun a => decide (a < n)).head? = some l[(l.takeWhile fun a => decide (a < n)).length] := by
   rw [← e2, List.head?_drop, We hlt]
  rw [e3]
  by_cases he : l[(l.takeWhile fun a => decide (a < n)).length] = n
  ·
   rw [Wt he, Wu, if_pos (by rw [he])]
  ·
   rw [Wf he, Wv, if_neg (by simpa using he)]
   exact hins
 ·
  rw [Wf (by omega), Wv, Wv]
  have e3 : (l.dropWhile fun a => decide (a < n)) = [] := by
   rw [← e2]; exact List.drop_of_length_le (by omega)
  rw [if_neg (by rw [e3]; simp)]
  exact hins

theorem Yhi {n x : Int} : ∀ {l : List Int}, x ∈ setI l n ↔ x ∈ l ∨ x = n
 | [] => by simp [setI]
 | a :: r => by
  unfold setI
  split
  ·
   simp [Yhi (l := r), or_assoc]
  ·
   split
   ·
    rename_i h; subst h; simp only [List.mem_cons]
    constructor
    ·
     exact fun h => .inl h
    ·
     rintro (h | h)
     ·
      exact h
     ·
      exact .inl h
   ·
    simp only [List.mem_cons]
    constructor
    ·
     rintro (h | h | h)
     ·
      exact .inr h
     ·
      exact .inl (.inl h)
     ·
      exact .inl (.inr h)
    ·
     rintro ((h | h) | h)
     ·
      exact .inr (.inl h)
     ·
      exact .inr (.inr h)
     ·
      exact .inl h
theorem Yhj {n : Int} : ∀ {l : List Int}, UpI l → UpI (setI l n)
 | [], _ => List.pairwise_singleton _ _
 | a :: r, h => by
  obtain ⟨h1, h2⟩ := List.pairwise_cons.1 h
  unfold setI
  split
  ·
   refine List.pairwise_cons.2 ⟨fun y hy => ?_, Yhj h2⟩
   rcases Yhi.1 hy with hy | rfl
   ·
    exact h1 y hy
   ·
    assumption
  ·
   split
   ·
    exact h
   ·
    refine List.pairwise_cons.2 ⟨fun y hy => ?_, h⟩
    rcases List.mem_cons.1 hy with rfl | hy
    ·
     omega
    ·
     have := h1 y hy; omega
theorem Yhk {n : Int} : ∀ {l : List Int}, (setI l n).length ≤ l.length + 1
 | [] => by simp [setI]
 | a :: r => by
  unfold setI
  have := @Yhk n r
  split
  ·
   simp; omega
  ·
   split <;> simp


theorem Yhl {x y : Y9m} : ∀ {s : List Y9m}, UpS s → (y ∈ putS s x ↔ y = x ∨ (y ∈ s ∧ ¬ eqK y x))
 | [], _ => by simp [putS]
 | e :: r, h => by
  obtain ⟨h1, h2⟩ := List.pairwise_cons.1 h
  unfold putS
  by_cases hlt : ltK e x
  ·
   rw [if_pos hlt, List.mem_cons, Yhl h2, List.mem_cons]
   constructor
   ·
    rintro (rfl | rfl | ⟨h3, h4⟩)
    ·
     exact .inr ⟨.inl rfl, by unfold ltK at hlt; unfold eqK; omega⟩
    ·
     exact .inl rfl
    ·
     exact .inr ⟨.inr h3, h4⟩
   ·
    rintro (rfl | ⟨rfl | h3, h4⟩)
    ·
     exact .inr (.inl rfl)
    ·
     exact .inl rfl
    ·
     exact .inr (.inr ⟨h3, h4⟩)
  ·
   rw [if_neg hlt]
   have hgt : ∀ z ∈ r, ¬ eqK z x := fun z hz => by have := h1 z hz; unfold ltK eqK at *; omega
   by_cases he : eqK e x
   ·
    rw [if_pos he, List.mem_cons, List.mem_cons]
    constructor
    ·
     rintro (rfl | h3)
     ·
      exact .inl rfl
     ·
      exact .inr ⟨.inr h3, hgt y h3⟩
    ·
     rintro (rfl | ⟨rfl | h3, h4⟩)
     ·
      exact .inl rfl
     ·
      exact absurd he h4
     ·
      exact .inr h3
   ·
    rw [if_neg he, List.mem_cons]
    constructor
    ·
     rintro (rfl | h3)
     ·
      exact .inl rfl
     ·
      rcases List.mem_cons.1 h3 with rfl | h4
      ·
       exact .inr ⟨h3, he⟩
      ·
       exact .inr ⟨h3, hgt y h4⟩
    ·
     rintro (rfl | ⟨h3, _⟩)
     ·
      exact .inl rfl
     ·
      exact .inr h3
theorem Yhm {x : Y9m} : ∀ {s : List Y9m}, UpS s → UpS (putS s x)
 | [], _ => List.pairwise_singleton _ _
 | e :: r, h => by
  obtain ⟨h1, h2⟩ := List.pairwise_cons.1 h
  unfold putS
  by_cases hlt : ltK e x
  ·
   rw [if_pos hlt]
   refine List.pairwise_cons.2 ⟨fun y hy => ?_, Yhm h2⟩
   rcases (Yhl h2).1 hy with rfl | ⟨hy, _⟩
   ·
    exact hlt
   ·
    exact h1 y hy
  ·
   rw [if_neg hlt]
   by_cases he : eqK e x
   ·
    rw [if_pos he]
    exact List.pairwise_cons.2 ⟨fun y hy => by have := h1 y hy; unfold ltK eqK at *; omega, h2⟩
   ·
    rw [if_neg he]
    refine List.pairwise_cons.2 ⟨fun y hy => ?_, h⟩
    rcases List.mem_cons.1 hy with rfl | hy
    ·
     unfold ltK eqK at *; omega
    ·
     have := h1 y hy; unfold ltK eqK at *; omega
theorem Yhn {x : Y9m} : ∀ {s : List Y9m}, (putS s x).length ≤ s.length + 1
 | [] => by simp [putS]
 | e :: r => by
  unfold putS
  have := @Yhn x r
  split
  ·
   simp; omega
  ·
   split <;> simp

theorem StOk.put {l : List Y9j} {s : List Y9m} (h : StOk l s) {e : Y9j} (he : evAt l e.id = some e) : StOk l (putS s (Y9m.mk e.kind e.key e.id)) := by
 refine ⟨Yhm h.up, fun x hx => ?_⟩
 rcases (Yhl h.up).1 hx with rfl | ⟨hx, _⟩
 ·
  exact ⟨e, he, rfl, rfl⟩
 ·
  exact h.ev x hx
theorem StOk.nil (l : List Y9j) : StOk l [] := ⟨.nil, fun x hx => by cases hx⟩
theorem StOk.eq {l : List Y9j} {s t : List Y9m} (h1 : StOk l s) (h2 : StOk l t) {x y : Y9m} (hx : x ∈ s) (hy : y ∈ t) (hid : x.id = y.id) : x = y := by
 obtain ⟨e, a1, a2, a3⟩ := h1.ev x hx
 obtain ⟨f, b1, b2, b3⟩ := h2.ev y hy
 rw [← hid, a1] at b1
 cases b1
 cases x; cases y
 simp_all
theorem StOk.len {l : List Y9j} {s : List Y9m} (h : StOk l s) : s.length ≤ l.length := by
 have h1 : (s.map (·.id)).Nodup := by
  rw [List.nodup_iff_pairwise_ne, List.pairwise_map]
  refine List.Pairwise.imp_of_mem (fun {a b} ha hb hab hid => ?_) h.up
  have := h.eq h ha hb hid
  subst this
  unfold ltK at hab; omega
 have h2 : ∀ x ∈ s.map (·.id), x ∈ l.map (·.id) := fun x hx => by
  obtain ⟨y, hy, rfl⟩ := List.mem_map.1 hx
  obtain ⟨e, he, _⟩ := h.ev y hy
  have := Ydz he
  exact List.mem_map.2 ⟨e, this.1, this.2⟩
 have := h1.length_le_of_subset h2
 simpa using this

theorem Yho {s t : List Y9m} (hs : UpS s) (ht : UpS t) (h : ∀ x, x ∈ s ↔ x ∈ t) : s = t := by
 have n1 : s.Nodup := by rw [List.nodup_iff_pairwise_ne]; exact hs.imp fun {a b} hab e => by subst e; unfold ltK at hab; omega
 have n2 : t.Nodup := by rw [List.nodup_iff_pairwise_ne]; exact ht.imp fun {a b} hab e => by subst e; unfold ltK at hab; omega
 exact List.Perm.eq_of_pairwise (fun a b _ _ h1 h2 => by unfold ltK at h1 h2; omega) hs ht ((List.perm_ext_iff_of_nodup n1 n2).2 h)
end Go.Proofs.YtomachnjepgpbaaGreat
namespace Go.Proofs.YtomachnjepgpbaaGreat
open Go Go.Abs

def StP {τ ω : Type} (P : τ → Prop) (x : Option (τ ⊕ ω)) : Prop := ∃ z, x = some (.inl z) ∧ P z
theorem StP.bind {α τ ω : Type} {s s0 : Y9i} {P : τ → Prop} {Q : α → Prop} {x : Option (α × Y9i)} {f : α × Y9i → Option (τ ⊕ ω)} (h : DrP s0 Q x) (hs : s0.size = s.size) (k : ∀ r, Yed r.2 → r.2.size = s.size → Q r.1 → StP P (f r)) : StP P (x.bind f) := by
 obtain ⟨r, rfl, h1, h2, h3⟩ := h
 exact k r h1 (h2.trans hs) h3
theorem StP.cond {τ ω : Type} {P : τ → Prop} {b : Bool} {x y : Option (τ ⊕ ω)} (h1 : b = true → StP P x) (h2 : b = false → StP P y) : StP P (cond b x y) := by
 cases b with
 | true => exact h1 rfl
 | false => exact h2 rfl
theorem StP.get {α τ ω : Type} {P : τ → Prop} {l : List α} {i : Int} {f : α → Option (τ ⊕ ω)} (h0 : 0 ≤ i) (h1 : i < l.length) (k : ∀ e ∈ l, StP P (f e)) : StP P ((getI l i).bind f) := by
 obtain ⟨n, rfl⟩ := Int.eq_ofNat_of_zero_le h0
 rw [Ycv (by omega : n < l.length), Wb]
 exact k _ (Wm _)

structure Tale (l : List Y9j) (m : Nat) : Prop where
 len : l.length = m
 ev : ∀ e ∈ l, 1 ≤ e.id ∧ e.id ≤ 100000 ∧ e.prev.length ≤ 4

abbrev Yhp := List Int × Int × Int × Int × List Y9j × Int
def Yhq (s : Y9i) (m : Nat) (j : Nat) (z : Yhp) : Prop := Yed ⟨z.1, z.2.1, z.2.2.1, z.2.2.2.1⟩ ∧ z.2.2.2.1 = s.size ∧ z.2.2.2.2.1.length = m ∧ (∀ e ∈ z.2.2.2.2.1, 1 ≤ e.id ∧ e.id ≤ (m : Int) ∧ e.prev.length ≤ 2) ∧ z.2.2.2.2.2 = (j : Int)

theorem Yhr {s s' : Y9i} {l : List Y9j} {m j : Nat} (hm : l.length = m) (hmm : m ≤ 1000) (hj : j ≤ 1000) (hl : ∀ e ∈ l, 1 ≤ e.id ∧ e.id ≤ (m : Int) ∧ e.prev.length ≤ 2) {i ti r a k n key : Int} {t : ByteArray} {p : List Int} (hi : 1 ≤ i ∧ i ≤ (m : Int) + 1) (hp : p.length ≤ 2) (h1 : Yed s') (h2 : s'.size = s.size) :
  StP (Yhq s (m + 1) (j + 1)) (Z10 l (j : Int) i ti r a k n t key s'.b s'.at_ s'.mix s'.size p) := by
 simp only [Z10]
 rw [Y4z (by simp; omega), Wb, Y4y (by omega) (by omega)]
 refine ⟨_, rfl, h1, h2, by simp [hm], fun e he => ?_, by simp⟩
 simp only [List.mem_append, List.mem_singleton] at he
 rcases he with he | rfl
 ·
  have := hl e he
  exact ⟨this.1, by omega, this.2.2⟩
 ·
  exact ⟨hi.1, by simp only; omega, hp⟩

section
variable {s s' : Y9i} {l : List Y9j} {m j : Nat} (hm : l.length = m) (h0m : 1 ≤ m) (hmm : m ≤ 1000) (hj : j ≤ 1000) (hl : ∀ e ∈ l, 1 ≤ e.id ∧ e.id ≤ (m : Int) ∧ e.prev.length ≤ 2)
include hm h0m hmm hj hl
theorem Yhs {i ti r a k n key : Int} {t : ByteArray} {x : Int} {e : Y9j} {b : Bool} (hi : 1 ≤ i ∧ i ≤ (m : Int) + 1) (h1 : Yed s') (h2 : s'.size = s.size) :
  StP (Yhq s (m + 1) (j + 1)) (Z11 l (j : Int) i ti r a k n t key [x] e s'.b s'.at_ s'.mix s'.size b) := by
 have _ := h0m
 simp only [Z11]
 refine StP.cond (fun _ => ?_) (fun _ => Yhr hm hmm hj hl hi (by simp) h1 h2)
 rw [Yhh (by simp) _ (by simp), Wb]
 exact Yhr hm hmm hj hl hi (Nat.le_trans Yhk (by simp)) h1 h2
theorem Yht {i ti r a k n key : Int} {t : ByteArray} {x : Int} (hi : 1 ≤ i ∧ i ≤ (m : Int) + 1) (h1 : Yed s') (h2 : s'.size = s.size) :
  StP (Yhq s (m + 1) (j + 1)) (Z12 l (j : Int) i ti r a k n t key s'.b s'.at_ s'.mix s'.size [x]) := by
 simp only [Z12]
 refine StP.bind (nD h1 (by omega) (by omega)) h2 fun q a1 a2 a3 => ?_
 refine StP.get a3.1 a3.2 fun e _ => ?_
 refine StP.bind (oneD a1 (by omega)) a2 fun w b1 b2 _ => ?_
 refine StP.cond (fun _ => ?_) (fun _ => Yhs hm h0m hmm hj hl hi b1 b2)
 exact StP.get (by omega) (by simp) fun y _ => Yhs hm h0m hmm hj hl hi b1 b2
theorem Yhu {i ti r a k n key : Int} {t : ByteArray} {e : Y9j} (he : e ∈ l) (hi : 1 ≤ i ∧ i ≤ (m : Int) + 1) (h1 : Yed s') (h2 : s'.size = s.size) :
  StP (Yhq s (m + 1) (j + 1)) (Z13 l (j : Int) e i ti r a k n t s'.b s'.at_ s'.mix s'.size key) := by
 have hle := hl e he
 simp only [Z13]
 refine StP.bind (oneD h1 (by omega)) h2 fun w b1 b2 _ => ?_
 refine StP.cond (fun _ => ?_) (fun _ => Yht hm h0m hmm hj hl hi b1 b2)
 refine StP.bind (nD b1 hle.1 (by omega)) b2 fun q a1 a2 a3 => ?_
 refine StP.get (by omega) (by simp) fun y _ => ?_
 rw [Yds _ _ (by omega), Wb]
 exact StP.cond (fun _ => Yht hm h0m hmm hj hl hi a1 a2) (fun _ => Yht hm h0m hmm hj hl hi a1 a2)
theorem Yhv {i ti r a k n key : Int} {t : ByteArray} {e : Y9j} {pl : List Int} (he : e ∈ l) (hi : 1 ≤ i ∧ i ≤ (m : Int) + 1) (h1 : Yed s') (h2 : s'.size = s.size) :
  StP (Yhq s (m + 1) (j + 1)) (Z14 l (j : Int) e i ti s'.b s'.at_ s'.mix s'.size r a k key n t pl) := by
 have hle := hl e he
 simp only [Z14]
 refine StP.cond (fun _ => ?_) (fun _ => Yhu hm h0m hmm hj hl he hi h1 h2)
 exact StP.bind (nD h1 hle.1 (by omega)) h2 fun q a1 a2 a3 => Yhu hm h0m hmm hj hl he hi a1 a2
theorem Yhw {p1 i ti r a k n key : Int} {t : ByteArray} {e : Y9j} {pl : List Int} {b : Bool} (he : e ∈ l) (hi : 1 ≤ i ∧ i ≤ (m : Int) + 1) (h1 : Yed s') (h2 : s'.size = s.size) :
  StP (Yhq s (m + 1) (j + 1)) (Z15 p1 l (j : Int) e i r a k key n t pl ti s'.b s'.at_ s'.mix s'.size b) := by
 simp only [Z15]
 exact StP.cond (fun _ => Yhv hm h0m hmm hj hl he hi h1 h2) (fun _ => Yhv hm h0m hmm hj hl he hi h1 h2)
theorem Yhx {p1 i ti r a k n key : Int} {t : ByteArray} {e : Y9j} {pl : List Int} (he : e ∈ l) (hi : 1 ≤ i ∧ i ≤ (m : Int) + 1) (h1 : Yed s') (h2 : s'.size = s.size) :
  StP (Yhq s (m + 1) (j + 1)) (Z16 p1 l (j : Int) e s'.b s'.at_ s'.mix s'.size i r a k key n t pl ti) := by
 simp only [Z16]
 refine StP.cond (fun _ => ?_) (fun _ => Yhw hm h0m hmm hj hl he hi h1 h2)
 exact StP.bind (oneD h1 (by omega)) h2 fun w b1 b2 _ => Yhw hm h0m hmm hj hl he hi b1 b2
theorem Yhy {p1 p2 : Int} (h1 : Yed s') (h2 : s'.size = s.size) (hlt : (j : Int) < p2) :
  StP (Yhq s (m + 1) (j + 1)) (Z17 p1 p2 s'.b s'.at_ s'.mix s'.size l (j : Int)) := by
 simp only [Z17]
 rw [Wt hlt, Wu, Y4y (n := (l.length : Int) - 1) (by omega) (by omega)]
 refine StP.get (by omega) (by omega) fun e he => ?_
 have hle := hl e he
 refine StP.bind (nD h1 (by omega) (by omega)) h2 fun q a1 a2 a3 => ?_
 refine StP.bind (nD a1 (by omega) (by omega)) a2 fun q2 b1 b2 b3 => ?_
 refine StP.bind (Yen b1 _) b2 fun v c1 c2 c3 => ?_
 refine Yhx hm h0m hmm hj hl he ?_ c1 c2
 rw [c3.1]
 simp only
 rw [Y4y (by omega) (by omega)]
 omega
end

theorem Yhz {s : Y9i} (h : Yed s) {room many : Int} (hm : many ≤ 100) : DrP s (fun l : List Y9j => 2 ≤ l.length ∧ l.length ≤ 103 ∧ ∀ e ∈ l, 1 ≤ e.id ∧ e.id ≤ 103 ∧ e.prev.length ≤ 2) (Z19 s room many) := by
 have key : ∀ (s' : Y9i) (l : List Y9j) (m : Nat), Yed s' → s'.size = s.size → l.length = m → 2 ≤ m → m ≤ 3 → (∀ e ∈ l, 1 ≤ e.id ∧ e.id ≤ (m : Int) ∧ e.prev.length ≤ 2) → DrP s (fun l : List Y9j => 2 ≤ l.length ∧ l.length ≤ 103 ∧ ∀ e ∈ l, 1 ≤ e.id ∧ e.id ≤ 103 ∧ e.prev.length ≤ 2) (Z18 room many s'.b s'.at_ s'.mix s'.size l) := fun s' l m h1 h2 h3 h4 h5 h6 => by
  simp only [Z18]
  obtain ⟨o, e1, e2⟩ := Y51 (step := fun z : Yhp => Z17 room many z.1 z.2.1 z.2.2.1 z.2.2.2.1 z.2.2.2.2.1 z.2.2.2.2.2) (p := fun o : List Y9j × List Int × Int × Int × Int => Yed ⟨o.2.1, o.2.2.1, o.2.2.2.1, o.2.2.2.2⟩ ∧ o.2.2.2.2 = s.size ∧ 2 ≤ o.1.length ∧ o.1.length ≤ 103 ∧ ∀ e ∈ o.1, 1 ≤ e.id ∧ e.id ≤ 103 ∧ e.prev.length ≤ 2)
   (fun n (z : Yhp) => ∃ j : Nat, Yhq s (m + j) j z ∧ j ≤ 100 ∧ n = 100 - j) (by
   rintro n ⟨b, a, x, sz, q, y⟩ ⟨j, ⟨g1, g2, g3, g4, g5⟩, hj, rfl⟩
   simp only at g1 g2 g3 g4 g5
   subst g5
   by_cases hlt : (j : Int) < many
   ·
    right
    obtain ⟨z, z1, z2⟩ := Yhy (p1 := room) (p2 := many) g3 (by omega) (by omega) (by omega) g4 g1 g2 hlt
    exact ⟨z, 100 - (j + 1), z1, by omega, j + 1, z2, by omega, rfl⟩
   ·
    left
    simp only [Z17]
    rw [Wf hlt, Wv]
    refine ⟨_, rfl, g1, g2, by simp only; omega, by simp only; omega, fun e he => ?_⟩
    have := g4 e he
    omega) big 100 (s'.b, s'.at_, s'.mix, s'.size, l, 0) ⟨0, ⟨h1, h2, h3, h6, rfl⟩, by omega, rfl⟩ (Ycq (by omega))
  rw [e1, Wb]
  exact ⟨_, rfl, e2.1, e2.2.1, e2.2.2⟩
 unfold Z19
 rw [Y4z (by simp), Wb]
 refine DrP.bind (oneD h (by omega)) rfl fun r7 a1 a2 _ => ?_
 refine DrP.cond (fun _ => key r7.2 _ 2 a1 a2 rfl (by omega) (by omega) (by simp)) (fun _ => ?_)
 rw [Y4z (by simp), Wb]
 exact key r7.2 _ 3 a1 a2 rfl (by omega) (by omega) (by simp)
end Go.Proofs.YtomachnjepgpbaaGreat
namespace Go.Proofs.YtomachnjepgpbaaGreat
open Go Go.Abs

section
variable {s : Y9i} {Pe : Y9j → Prop}
def Yi0 (Pe : Y9j → Prop) (m : Nat) (l : List Y9j) : Prop := l.length ≤ m ∧ ∀ e ∈ l, Pe e

theorem Yi1 {s' : Y9i} {l : List Y9j} {m : Nat} {b : Bool} (hm : m ≤ 1000) (hl : Yi0 Pe m l) (hb : b = true → 2 ≤ l.length) (h1 : Yed s') (h2 : s'.size = s.size) : DrP s (Yi0 Pe m) (Z1d l s'.b s'.at_ s'.mix s'.size b) := by
 have hlen := hl.1
 simp only [Z1d, Z1c]
 refine DrP.cond (fun hb1 => ?_) (fun _ => DrP.ret h1 h2 hl)
 have hb2 := hb hb1
 refine DrP.bind (nD h1 (by omega) (by omega)) h2 fun q a1 a2 a3 => ?_
 obtain ⟨n, hn⟩ := Int.eq_ofNat_of_zero_le a3.1
 have h3 := a3.2
 rw [hn] at h3 ⊢
 rw [Y4y (by omega) (by omega), Y4z (Wt (by omega)), Wb, Y4z (Wt (by omega)), Wb, Y4z (Wt (by omega)), Wb]
 refine DrP.ret a1 a2 ⟨by simp; omega, fun e he => ?_⟩
 rcases List.mem_append.1 he with he | he
 ·
  exact hl.2 e (List.mem_of_mem_take he)
 ·
  exact hl.2 e (List.mem_of_mem_drop he)

theorem Yi2 {s' : Y9i} {l : List Y9j} {m : Nat} {p2 : Bool} (hm : m ≤ 1000) (hl : Yi0 Pe m l) (h1 : Yed s') (h2 : s'.size = s.size) : DrP s (Yi0 Pe m) (Z1e p2 s'.b s'.at_ s'.mix s'.size l) := by
 simp only [Z1e]
 refine DrP.cond (fun _ => ?_) (fun _ => Yi1 hm hl (by simp) h1 h2)
 refine DrP.bind (oneD h1 (by omega)) h2 fun q a1 a2 _ => ?_
 exact DrP.cond (fun _ => Yi1 hm hl (fun h => by have := Wo h; omega) a1 a2) (fun _ => Yi1 hm hl (by simp) a1 a2)

theorem Yi3 {s' : Y9i} {l : List Y9j} {m : Nat} {p2 b : Bool} (hm : m ≤ 999) (hl : Yi0 Pe m l) (hb : b = true → 1 ≤ l.length) (h1 : Yed s') (h2 : s'.size = s.size) : DrP s (Yi0 Pe (m + 1)) (Z1f p2 l s'.b s'.at_ s'.mix s'.size b) := by
 have hlen := hl.1
 simp only [Z1f]
 refine DrP.cond (fun hb1 => ?_) (fun _ => Yi2 (by omega) ⟨by omega, hl.2⟩ h1 h2)
 have hb2 := hb hb1
 refine DrP.bind (nD h1 (by omega) (by omega)) h2 fun q a1 a2 a3 => ?_
 refine DrP.get a3.1 a3.2 fun e he => ?_
 rw [Y4z (by simp; omega), Wb]
 refine Yi2 (by omega) ⟨by simp; omega, fun x hx => ?_⟩ a1 a2
 simp only [List.mem_append, List.mem_singleton] at hx
 rcases hx with hx | rfl
 ·
  exact hl.2 x hx
 ·
  exact hl.2 _ he

theorem Yi4 {l : List Y9j} {m : Nat} {p2 : Bool} (h : Yed s) (hm : m ≤ 900) (hl : Yi0 Pe m l) : DrP s (Yi0 Pe (m + 1)) (Z1j s l p2) := by
 have hlen := hl.1
 unfold Z1j
 rw [Y4z (by simp; omega), Wb]
 refine DrP.bind (nD h (by omega) (by omega)) rfl fun r5 a1 a2 a3 => ?_
 obtain ⟨o, e1, e2⟩ := Y51 (step := fun z : Yhp => Z1i z.1 z.2.1 z.2.2.1 z.2.2.2.1 z.2.2.2.2.1 z.2.2.2.2.2) (p := fun o : List Int × Int × Int × Int × List Y9j => Yed ⟨o.1, o.2.1, o.2.2.1, o.2.2.2.1⟩ ∧ o.2.2.2.1 = s.size ∧ Yi0 Pe m o.2.2.2.2)
  (fun n (z : Yhp) => Yed ⟨z.1, z.2.1, z.2.2.1, z.2.2.2.1⟩ ∧ z.2.2.2.1 = s.size ∧ Yi0 Pe m z.2.2.2.2.1 ∧ ∃ j : Nat, z.2.2.2.2.2 = (j : Int) ∧ j ≤ 6 ∧ n = j) (by
  rintro n ⟨b, a, x, sz, q, y⟩ ⟨g1, g2, g3, j, g4, hj, rfl⟩
  simp only at g1 g2 g3 g4
  subst g4
  have hq := g3.1
  simp only [Z1i]
  by_cases h1 : (n : Int) > 0
  ·
   rw [Wt h1, Wu]
   simp only [Z1h]
   by_cases h2 : (q.length : Int) > 1
   ·
    right
    rw [Wt h2, Wu]
    obtain ⟨u, u1, u2, u3, u4⟩ := nD g1 (k := (q.length : Int)) (by omega) (by omega)
    obtain ⟨v, v1, v2, v3, v4⟩ := nD u2 (k := (q.length : Int)) (by omega) (by omega)
    obtain ⟨iu, hiu⟩ := Int.eq_ofNat_of_zero_le u4.1
    obtain ⟨iv, hiv⟩ := Int.eq_ofNat_of_zero_le v4.1
    have u5 := u4.2
    have v5 := v4.2
    rw [u1, Wb, v1, Wb]
    rw [hiu] at u5 ⊢
    rw [hiv] at v5 ⊢
    rw [Ycv (by omega : iu < q.length), Wb, Ycv (by omega : iv < q.length), Wb, Ycv (by simp; omega : iv < (List.set q (Int.toNat (iu : Int)) q[iv]).length), Wb, Y4y (by omega) (by omega)]
    refine ⟨_, n - 1, rfl, by omega, v2, v3.trans (u3.trans g2), ⟨by simp; omega, fun e he => ?_⟩, n - 1, by simp only; omega, by omega, rfl⟩
    rcases List.mem_or_eq_of_mem_set he with he | rfl
    ·
     rcases List.mem_or_eq_of_mem_set he with he | rfl
     ·
      exact g3.2 e he
     ·
      exact g3.2 _ (Wm _)
    ·
     exact g3.2 _ (Wm _)
   ·
    left
    rw [Wf h2, Wv]
    exact ⟨_, rfl, g1, g2, g3⟩
  ·
   left
   rw [Wf h1, Wv]
   simp only [Z1h, Wv]
   exact ⟨_, rfl, g1, g2, g3⟩) big r5.1.toNat (r5.2.b, r5.2.at_, r5.2.mix, r5.2.size, ([] : List Y9j) ++ l, r5.1) ⟨a1, a2, by simpa using hl, r5.1.toNat, by simp only; omega, by omega, rfl⟩ (Ycq (by omega))
 rw [e1, Wb]
 simp only [Z1g]
 have hlen2 := e2.2.2.1
 refine DrP.bind (oneD e2.1 (by omega)) e2.2.1 fun q b1 b2 _ => ?_
 exact DrP.cond (fun _ => Yi3 (by omega) e2.2.2 (fun h => by have := Wo h; omega) b1 b2) (fun _ => Yi3 (by omega) e2.2.2 (by simp) b1 b2)
end
end Go.Proofs.YtomachnjepgpbaaGreat
namespace Go.Proofs.YtomachnjepgpbaaGreat
open Go Go.Abs

structure Mrg (g : Y9k) (ls : List (List Y9m)) : Prop where
 fits : Fits g.events
 ev : ∀ e ∈ g.events, EvOk e
 deep : Deep g.events
 ok : ∀ s ∈ ls, StOk g.events s
 len : ls.length ≤ 1000

theorem Mrg.ids {g : Y9k} {ls : List (List Y9m)} (h : Mrg g ls) : Ids1 g.events := fun e he => (h.ev e he).id.1
theorem Mrg.slen {g : Y9k} {ls : List (List Y9m)} (h : Mrg g ls) {s : List Y9m} (hs : StOk g.events s) : s.length ≤ 60 := Nat.le_trans hs.len h.fits.len
theorem Mrg.sts {g : Y9k} {ls : List (List Y9m)} (h : Mrg g ls) {s : List Y9m} (hs : StOk g.events s) : Sts g s := ⟨h.fits.up, by have := h.fits.len; omega, h.ids, hs, by have := h.slen hs; omega⟩
theorem Mrg.ne0 {g : Y9k} {ls : List (List Y9m)} (h : Mrg g ls) {s : List Y9m} (hs : StOk g.events s) {x : Y9m} (hx : x ∈ s) : 1 ≤ x.id := by
 obtain ⟨e, he, _⟩ := hs.ev x hx
 have h1 := Ydz he
 have := h.ids e h1.1
 omega

def Yi5 (ls : List (List Y9m)) (x : Y9m) : Bool := ls.all fun s => decide (idS s x.kind x.key = x.id)
def memS (s : List Y9m) (x : Y9m) : Bool := s.any fun e => decide (x.kind = e.kind) && (decide (x.key = e.key) && decide (x.id = e.id))
theorem Yi6 {s : List Y9m} {x : Y9m} : memS s x = true ↔ x ∈ s := by
 unfold memS
 rw [List.any_eq_true]
 constructor
 ·
  rintro ⟨e, he, h⟩
  simp only [Bool.and_eq_true, decide_eq_true_eq] at h
  have : x = e := by cases x; cases e; simp_all
  exact this ▸ he
 ·
  intro h
  exact ⟨x, h, by simp⟩

theorem Yi7 (ls : List (List Y9m)) (x : Y9m) (hl : ls.length < 1000000) (hs : ∀ s ∈ ls, s.length < 1000000) : Z5o ls x = some (Yi5 ls x) := by
 unfold Z5o
 rw [Ydb (l := ls) (fun s => decide (idS s x.kind x.key = x.id)) (.inl false) (.inr ()) (by omega) (fun i hi => by
  have := hs _ (Wm hi)
  simp only [Z5n]
  rw [dlt hi, Wu, Ycv hi, Wb, Ygh _ _ _ (by omega), Wb, bned, Ycw hi (by omega)]
  cases decide (idS ls[i] x.kind x.key = x.id) <;> rfl) (by simp only [Z5n]; rw [dnlt, Wv])]
 unfold Yi5
 cases ls.all fun s => decide (idS s x.kind x.key = x.id) <;> rfl

theorem Yi8 (s : List Y9m) (x : Y9m) (hl : s.length < 1000000) : Ze0 s x = some (memS s x) := by
 unfold Ze0 Zdy
 rw [Yde (Yd9 (l := s) (step := Zdx s x) (fun e => decide (x.kind = e.kind) && (decide (x.key = e.key) && decide (x.id = e.id))) (by omega) (fun i hi => by
  simp only [Zdx]
  rw [dlt hi, Wu, Ycv hi, Wb, Ycw hi (by omega), beqd, beqd, beqd, Bool.and_true]
  cases (decide (x.kind = s[i].kind) && (decide (x.key = s[i].key) && decide (x.id = s[i].id))) <;> rfl) (by simp only [Zdx]; rw [dnlt, Wv])) (fun _ => rfl) rfl]
 rw [Wb, Ydd]; rfl

theorem Yi9 {s : List Y9m} (h : UpS s) {x : Y9m} (hx : x ∈ s) : idS s x.kind x.key = x.id := by
 rcases Yh0 s x.kind x.key with ⟨_, h0⟩ | ⟨y, hy, h1, h2, h3⟩
 ·
  exact absurd ⟨rfl, rfl⟩ (h0 x hx)
 ·
  obtain ⟨i, hi, rfl⟩ := List.mem_iff_getElem.1 hx
  obtain ⟨j, hj, rfl⟩ := List.mem_iff_getElem.1 hy
  rw [h3]
  rcases Nat.lt_trichotomy i j with h4 | h4 | h4
  ·
   have := h.lt hj h4; unfold ltK at this; omega
  ·
   subst h4; rfl
  ·
   have := h.lt hi h4; unfold ltK at this; omega

theorem Yia {g : Y9k} {ls : List (List Y9m)} (h : Mrg g ls) {s : List Y9m} (hs : s ∈ ls) {x : Y9m} (hx : x ∈ s) : Yi5 ls x = true ↔ ∀ t ∈ ls, x ∈ t := by
 unfold Yi5
 rw [List.all_eq_true]
 constructor
 ·
  intro ha t ht
  have h1 := Wo (ha t ht)
  have h0 := h.ne0 (h.ok s hs) hx
  rcases Yh0 t x.kind x.key with ⟨h2, _⟩ | ⟨y, hy, _, _, h4⟩
  ·
   omega
  ·
   have := (h.ok t ht).eq (h.ok s hs) hy hx (by omega)
   exact this ▸ hy
 ·
  intro ha t ht
  exact Wt (Yi9 (h.ok t ht).up (ha t ht))


def Yib (ls : List (List Y9m)) (q : List Y9m × List Int) (x : Y9m) : List Y9m × List Int := if Yi5 ls x = true then (putS q.1 x, q.2) else (q.1, setI q.2 x.id)
def Yic (ls : List (List Y9m)) : List Y9m × List Int := ls.foldl (fun q s => s.foldl (Yib ls) q) ([], [])

theorem Yid {α β : Type} (f : β → α → β) : ∀ (ls : List (List α)) (q : β), ls.foldl (fun q s => s.foldl f q) q = ls.flatten.foldl f q
 | [], _ => rfl
 | s :: ls, q => by rw [List.foldl_cons, Yid f ls, List.flatten_cons, List.foldl_append]

structure RInv (g : Y9k) (q : List Y9m × List Int) : Prop where
 ok : StOk g.events q.1
 up : UpI q.2
 ids : ∀ n ∈ q.2, n ∈ g.events.map (·.id)

theorem Yie {l : List Int} {m : List Int} (h : UpI l) (hs : ∀ n ∈ l, n ∈ m) : l.length ≤ m.length :=
 List.Nodup.length_le_of_subset (by rw [List.nodup_iff_pairwise_ne]; exact h.imp fun {a b} hab => by omega) hs

theorem RInv.step {g : Y9k} {ls : List (List Y9m)} {q : List Y9m × List Int} (h : RInv g q) {s : List Y9m} (hs : StOk g.events s) {x : Y9m} (hx : x ∈ s) : RInv g (Yib ls q x) := by
 obtain ⟨e, he, h1, h2⟩ := hs.ev x hx
 have h3 := Ydz he
 unfold Yib
 split
 ·
  refine ⟨?_, h.up, h.ids⟩
  have e1 : x = Y9m.mk e.kind e.key e.id := by cases x; simp_all
  have := h.ok.put (e := e) (by rw [h3.2]; exact he)
  rw [← e1] at this
  exact this
 ·
  refine ⟨h.ok, Yhj h.up, fun n hn => ?_⟩
  rcases Yhi.1 hn with hn | rfl
  ·
   exact h.ids n hn
  ·
   exact List.mem_map.2 ⟨e, h3.1, h3.2⟩

theorem RInv.fold {g : Y9k} {ls : List (List Y9m)} : ∀ {xs : List Y9m} {q : List Y9m × List Int}, RInv g q → (∀ x ∈ xs, ∃ s, StOk g.events s ∧ x ∈ s) → RInv g (xs.foldl (Yib ls) q)
 | [], _, h, _ => h
 | x :: xs, q, h, hx => by
  obtain ⟨s, h1, h2⟩ := hx x (by simp)
  show RInv g (xs.foldl (Yib ls) (Yib ls q x))
  exact RInv.fold (h.step h1 h2) fun y hy => hx y (by simp [hy])

theorem RInv.len {g : Y9k} {q : List Y9m × List Int} (h : RInv g q) (hl : g.events.length ≤ 60) : q.1.length ≤ 60 ∧ q.2.length ≤ 60 := by
 refine ⟨Nat.le_trans h.ok.len hl, ?_⟩
 have := Yie h.up h.ids
 simp at this
 omega

theorem RInv.zero (g : Y9k) : RInv g ([], []) := ⟨.nil _, .nil, fun n hn => by cases hn⟩

theorem Yif {g : Y9k} {ls : List (List Y9m)} (h : Mrg g ls) : iter (fun z : List Y9m × List Int × Int => Z7b ls z.1 z.2.1 z.2.2) big ([], [], 0) = some (Yic ls) ∧ RInv g (Yic ls) := by
 have hlen := h.len
 have hfl := h.fits.len
 have := Ydc (l := ls) (step := fun z : List Y9m × List Int × Int => Z7b ls z.1 z.2.1 z.2.2) (fun (q : List Y9m × List Int) j => (q.1, q.2, j)) (fun q => q) (fun q s => s.foldl (Yib ls) q) (fun _ q => RInv g q) (by omega) (fun i q hi hq => by
  have hs := h.ok _ (Wm hi)
  have hsl := h.slen hs
  refine ⟨?_, RInv.fold hq fun x hx => ⟨_, hs, hx⟩⟩
  simp only [Z7b]
  have inner := Ydc (l := ls[i]) (step := fun z : List Y9m × List Int × Int => Z7a ls (i : Int) z.1 z.2.1 z.2.2) (fun (q : List Y9m × List Int) j => (q.1, q.2, j)) (fun q => q) (Yib ls) (fun _ q => RInv g q) (by omega) (fun j q hj hq => by
   refine ⟨?_, hq.step hs (Wm hj)⟩
   have hql := hq.len hfl
   simp only [Z7a]
   rw [Ycv hi, Wb, dlt hj, Wu, Ycv hj, Wb, Yi7 _ _ (by omega) (fun s hs => by have := h.slen (h.ok s hs); omega), Wb]
   simp only [Z79, Ycw hj (by omega : ls[i].length < 9223372036854775807)]
   unfold Yib
   cases Yi5 ls ls[i][j] with
   | true => rw [Wu, Ygo hq.ok.up _ (by omega)]; rfl
   | false => rw [Wv, Yhh hq.up _ (by omega)]; rfl)
   (fun q _ => by simp only [Z7a]; rw [Ycv hi, Wb, dnlt, Wv]) (s := q) hq
  rw [dlt hi, Wu, inner.1, Wb]
  simp only [Z78, Ycw hi (by omega : ls.length < 9223372036854775807)])
  (fun q _ => by simp only [Z7b]; rw [dnlt, Wv]) (s := ([], [])) (RInv.zero g)
 exact this

theorem Yig {g : Y9k} {ls : List (List Y9m)} (h : Mrg g ls) : (∀ y, y ∈ (Yic ls).1 ↔ (∃ s ∈ ls, y ∈ s) ∧ Yi5 ls y = true) ∧ (∀ n, n ∈ (Yic ls).2 ↔ ∃ s ∈ ls, ∃ x ∈ s, Yi5 ls x = false ∧ x.id = n) := by
 have hx : ∀ x ∈ ls.flatten, ∃ s ∈ ls, x ∈ s := fun x hx => by obtain ⟨s, h1, h2⟩ := List.mem_flatten.1 hx; exact ⟨s, h1, h2⟩
 have hsame : ∀ x y, (∃ s ∈ ls, x ∈ s) → (∃ s ∈ ls, y ∈ s) → Yi5 ls x = true → Yi5 ls y = true → eqK x y → x = y := by
  rintro x y ⟨s, hs, hxs⟩ ⟨t, ht, hyt⟩ h1 h2 ⟨h3, h4⟩
  have h5 := (Yia h hs hxs).1 h1 t ht
  have e1 := Yi9 (h.ok t ht).up h5
  have e2 := Yi9 (h.ok t ht).up hyt
  rw [h3, h4, e2] at e1
  exact ((h.ok t ht).eq (h.ok t ht) h5 hyt e1.symm)
 have key : ∀ (xs : List Y9m) (q : List Y9m × List Int), (∀ x ∈ xs, ∃ s ∈ ls, x ∈ s) → (∀ x ∈ q.1, (∃ s ∈ ls, x ∈ s) ∧ Yi5 ls x = true) → RInv g q →
   (∀ y, y ∈ (xs.foldl (Yib ls) q).1 ↔ y ∈ q.1 ∨ y ∈ xs ∧ Yi5 ls y = true) ∧ (∀ n, n ∈ (xs.foldl (Yib ls) q).2 ↔ n ∈ q.2 ∨ ∃ x ∈ xs, Yi5 ls x = false ∧ x.id = n) := by
  intro xs
  induction xs with
  | nil => intro q _ _ _; exact ⟨fun y => by simp, fun n => by simp⟩
  | cons x xs ih =>
   intro q h1 h2 h3
   obtain ⟨s, hs, hxs⟩ := h1 x (by simp)
   have h3' := h3.step (ls := ls) (h.ok s hs) hxs
   rw [List.foldl_cons]
   cases ha : Yi5 ls x with
   | true =>
    have e1 : Yib ls q x = (putS q.1 x, q.2) := by unfold Yib; rw [if_pos ha]
    have hm : ∀ y, y ∈ putS q.1 x ↔ y = x ∨ y ∈ q.1 := fun y => by
     rw [Yhl h3.ok.up]
     constructor
     ·
      rintro (h | ⟨h, _⟩)
      ·
       exact .inl h
      ·
       exact .inr h
     ·
      rintro (h4 | h4)
      ·
       exact .inl h4
      ·
       by_cases h5 : eqK y x
       ·
        exact .inl (hsame y x (h2 y h4).1 ⟨s, hs, hxs⟩ (h2 y h4).2 ha h5)
       ·
        exact .inr ⟨h4, h5⟩
    rw [e1] at h3' ⊢
    obtain ⟨i1, i2⟩ := ih (putS q.1 x, q.2) (fun y hy => h1 y (by simp [hy])) (fun y hy => by
     rcases (hm y).1 hy with rfl | hy
     ·
      exact ⟨⟨s, hs, hxs⟩, ha⟩
     ·
      exact h2 y hy) h3'
    refine ⟨fun y => ?_, fun n => ?_⟩
    ·
     rw [i1]
     simp only [hm, List.mem_cons]
     constructor
     ·
      rintro ((rfl | h4) | ⟨h4, h5⟩)
      ·
       exact .inr ⟨.inl rfl, ha⟩
      ·
       exact .inl h4
      ·
       exact .inr ⟨.inr h4, h5⟩
     ·
      rintro (h4 | ⟨rfl | h4, h5⟩)
      ·
       exact .inl (.inr h4)
      ·
       exact .inl (.inl rfl)
      ·
       exact .inr ⟨h4, h5⟩
    ·
     rw [i2]
     constructor
     ·
      rintro (h4 | ⟨y, h4, h5⟩)
      ·
       exact .inl h4
      ·
       exact .inr ⟨y, by simp [h4], h5⟩
     ·
      rintro (h4 | ⟨y, h4, h5, h6⟩)
      ·
       exact .inl h4
      ·
       rcases List.mem_cons.1 h4 with rfl | h4
       ·
        rw [ha] at h5; cases h5
       ·
        exact .inr ⟨y, h4, h5, h6⟩
   | false =>
    have e1 : Yib ls q x = (q.1, setI q.2 x.id) := by unfold Yib; rw [if_neg (by simp [ha])]
    rw [e1] at h3' ⊢
    obtain ⟨i1, i2⟩ := ih (q.1, setI q.2 x.id) (fun y hy => h1 y (by simp [hy])) h2 h3'
    refine ⟨fun y => ?_, fun n => ?_⟩
    ·
     rw [i1]
     simp only [List.mem_cons]
     constructor
     ·
      rintro (h4 | ⟨h4, h5⟩)
      ·
       exact .inl h4
      ·
       exact .inr ⟨.inr h4, h5⟩
     ·
      rintro (h4 | ⟨rfl | h4, h5⟩)
      ·
       exact .inl h4
      ·
       rw [ha] at h5; cases h5
      ·
       exact .inr ⟨h4, h5⟩
    ·
     rw [i2]
     simp only [Yhi]
     constructor
     ·
      rintro ((h4 | rfl) | ⟨y, h4, h5⟩)
      ·
       exact .inl h4
      ·
       exact .inr ⟨x, by simp, ha, rfl⟩
      ·
       exact .inr ⟨y, by simp [h4], h5⟩
     ·
      rintro (h4 | ⟨y, h4, h5, h6⟩)
      ·
       exact .inl (.inl h4)
      ·
       rcases List.mem_cons.1 h4 with rfl | h4
       ·
        exact .inl (.inr h6.symm)
       ·
        exact .inr ⟨y, h4, h5, h6⟩
 obtain ⟨k1, k2⟩ := key ls.flatten ([], []) hx (fun x hx => by cases hx) (RInv.zero g)
 have e : Yic ls = ls.flatten.foldl (Yib ls) ([], []) := Yid _ _ _
 rw [e]
 refine ⟨fun y => ?_, fun n => ?_⟩
 ·
  rw [k1]
  constructor
  ·
   rintro (h1 | ⟨h1, h2⟩)
   ·
    cases h1
   ·
    exact ⟨hx y h1, h2⟩
  ·
   rintro ⟨⟨s, h1, h2⟩, h3⟩
   exact .inr ⟨List.mem_flatten.2 ⟨s, h1, h2⟩, h3⟩
 ·
  rw [k2]
  constructor
  ·
   rintro (h1 | ⟨x, h1, h2, h3⟩)
   ·
    cases h1
   ·
    obtain ⟨s, h4, h5⟩ := hx x h1
    exact ⟨s, h4, x, h5, h2, h3⟩
  ·
   rintro ⟨s, h1, x, h2, h3, h4⟩
   exact .inr ⟨x, List.mem_flatten.2 ⟨s, h1, h2⟩, h3, h4⟩


def comI (ls : List (List Y9m)) : List Y9m := (ls.head?.getD []).filter fun x => ls.all fun t => memS t x

theorem Yih {g : Y9k} {ls : List (List Y9m)} (h : Mrg g ls) : comI ls = (Yic ls).1 := by
 have hR := (Yif h).2
 refine Yho ?_ hR.ok.up fun x => ?_
 ·
  unfold comI
  cases ls with
  | nil => exact .nil
  | cons s ls => exact (h.ok s (by simp)).up.filter _
 ·
  rw [(Yig h).1]
  unfold comI
  rw [List.mem_filter, List.all_eq_true]
  cases ls with
  | nil => simp
  | cons s ls =>
   simp only [List.head?_cons, Option.getD_some]
   constructor
   ·
    rintro ⟨h1, h2⟩
    exact ⟨⟨s, by simp, h1⟩, (Yia h (s := s) (by simp) h1).2 fun t ht => Yi6.1 (h2 t ht)⟩
   ·
    rintro ⟨⟨t, h1, h2⟩, h3⟩
    have h4 := (Yia h h1 h2).1 h3
    exact ⟨h4 s (by simp), fun t ht => Yi6.2 (h4 t ht)⟩
end Go.Proofs.YtomachnjepgpbaaGreat
