/- Plain laws for the graphs: loops over lists; events are right alike on both sides; places. -/
import Derived.Test.YtnndihmamfomcaaGreatCGA
set_option autoImplicit false
set_option linter.unusedVariables false
set_option linter.unusedSimpArgs false
namespace Go.Proofs.YtnndihmamfomcaaGreat
open Go Go.Abs


section
variable {α ω τ σ : Type}

theorem loop_idx {l : List α} {step : Int → Option (Int ⊕ (Int ⊕ Unit))} (p : α → Bool) (hl : l.length < 9223372036854775807)
  (h1 : ∀ (i : Nat) (hi : i < l.length), step (i : Int) = some (cond (p l[i]) (.inr (.inl (i : Int))) (.inl ((i + 1 : Nat) : Int)))) (h2 : step (l.length : Int) = some (.inr (.inr ()))) :
  iter step big 0 = some (match l.findIdx? p with | some k => .inl (k : Int) | none => .inr ()) := by
 rcases loop_first (step := step) (n := l.length) (fun i => if h : i < l.length then cond (p l[i]) (some (.inl (i : Int))) none else none) (.inr ()) hl (fun i hi => by
  rw [h1 i hi]; simp only [hi, dif_pos]; cases p l[i] <;> rfl) h2 with ⟨i, o, hi, ho, hb, hx⟩ | ⟨h, hx⟩
 ·
  rw [hx]
  simp only [hi, dif_pos] at ho
  cases hp : p l[i] with
  | false => simp [hp] at ho
  | true =>
   simp [hp] at ho
   have : l.findIdx? p = some i := List.findIdx?_eq_some_iff_getElem.2 ⟨hi, hp, fun j hj => by
    have hjl : j < l.length := by omega
    have := hb j hj
    simp only [hjl, dif_pos] at this
    cases hq : p l[j] with
    | false => simp
    | true => simp [hq] at this⟩
   rw [this, ← ho]
 ·
  rw [hx]
  have : l.findIdx? p = none := by
   rw [List.findIdx?_eq_none_iff]
   intro x hxm
   obtain ⟨i, hi, rfl⟩ := List.mem_iff_getElem.1 hxm
   have := h i hi
   simp only [hi, dif_pos] at this
   cases hq : p l[i] with
   | false => rfl
   | true => simp [hq] at this
  rw [this]

theorem all_iff {l : List α} {p : α → Bool} : (∀ i, i < l.length → (if h : i < l.length then p l[i] else true) = true) ↔ l.all p = true := by
 rw [List.all_eq_true]
 constructor
 ·
  intro h x hx
  obtain ⟨i, hi, rfl⟩ := List.mem_iff_getElem.1 hx
  have := h i hi
  simpa [hi] using this
 ·
  intro h i hi
  simp only [hi, dif_pos]
  exact h _ (List.getElem_mem hi)

theorem loop_allL {l : List α} {step : Int → Option (Int ⊕ ω)} (p : α → Bool) (bad fin : ω) (hl : l.length < 9223372036854775807)
  (h1 : ∀ (i : Nat) (hi : i < l.length), step (i : Int) = some (cond (p l[i]) (.inl ((i + 1 : Nat) : Int)) (.inr bad))) (h2 : step (l.length : Int) = some (.inr fin)) :
  iter step big 0 = some (cond (l.all p) fin bad) := by
 rw [loop_all (fun i => if h : i < l.length then p l[i] else true) bad fin hl (fun i hi => by simp only [hi, dif_pos]; exact h1 i hi) h2]
 cases hp : l.all p with
 | true => rw [if_pos (all_iff.2 hp)]; rfl
 | false => rw [if_neg (fun h => by rw [all_iff.1 h] at hp; cases hp)]; rfl

theorem loop_fold {l : List α} {step : τ → Option (τ ⊕ ω)} (emb : σ → Int → τ) (fin : σ → ω) (g : σ → α → σ) (I : Nat → σ → Prop) (hl : l.length < 9223372036854775807)
  (h1 : ∀ (i : Nat) (s : σ) (hi : i < l.length), I i s → step (emb s i) = some (.inl (emb (g s l[i]) ((i + 1 : Nat) : Int))) ∧ I (i + 1) (g s l[i]))
  (h2 : ∀ s, I l.length s → step (emb s l.length) = some (.inr (fin s))) {s : σ} (h0 : I 0 s) :
  iter step big (emb s 0) = some (fin (l.foldl g s)) ∧ I l.length (l.foldl g s) := by
 have key : ∀ m i k : Nat, ∀ s, i + m = l.length → m < k → I i s → iter step k (emb s i) = some (fin ((l.drop i).foldl g s)) ∧ I l.length ((l.drop i).foldl g s) := by
  intro m
  induction m with
  | zero =>
   intro i k s hm hk hi
   obtain ⟨k, rfl⟩ : ∃ k', k = k' + 1 := ⟨k - 1, by omega⟩
   obtain rfl : i = l.length := by omega
   rw [iter, h2 s hi, List.drop_length]
   exact ⟨rfl, hi⟩
  | succ m ih =>
   intro i k s hm hk hi
   obtain ⟨k, rfl⟩ : ∃ k', k = k' + 1 := ⟨k - 1, by omega⟩
   have hil : i < l.length := by omega
   obtain ⟨e1, e2⟩ := h1 i s hil hi
   rw [iter, e1, List.drop_eq_getElem_cons hil, List.foldl_cons]
   exact ih (i + 1) k _ (by omega) (by omega) e2
 have := key l.length 0 big s (by omega) (big_gt (by omega)) h0
 simpa using this

def idxP (p : α → Bool) (l : List α) : Int := match l.findIdx? p with | some k => (k : Int) | none => -1

theorem idxP_nn (p : α → Bool) (l : List α) : decide (idxP p l ≥ 0) = l.any p := by
 unfold idxP
 cases h : l.findIdx? p with
 | none =>
  rw [List.findIdx?_eq_none_iff] at h
  have : l.any p = false := by rw [List.any_eq_false]; intro x hx; simp [h x hx]
  rw [this]; rfl
 | some k =>
  obtain ⟨hk, hp, _⟩ := List.findIdx?_eq_some_iff_getElem.1 h
  have : l.any p = true := List.any_eq_true.2 ⟨_, List.getElem_mem hk, hp⟩
  rw [this]; simp

theorem bind_idx {x : Option (Int ⊕ Unit)} {f : Int ⊕ Unit → Option Int} {p : α → Bool} {l : List α} (h : x = some (match l.findIdx? p with | some k => .inl (k : Int) | none => .inr ())) (f1 : ∀ y, f (.inl y) = some y) (f2 : f (.inr ()) = some (-1)) :
  x.bind f = some (idxP p l) := by
 rw [h]; unfold idxP
 cases l.findIdx? p with
 | none => exact f2
 | some k => exact f1 _
end


theorem pair_of (l : List Int) : (∀ (i : Nat) (hi : i < l.length), 0 < i → l[i - 1] < l[i]) ↔ l.Pairwise (· < ·) := by
 rw [← up_iff]
 constructor
 ·
  exact fun h => Up.of_next fun i hi => by simpa using h (i + 1) hi (by omega)
 ·
  exact fun h i hi h0 => h _ _ _ _ (by omega)

theorem c_increasing (l : List Int) (lo hi : Int) (hl : l.length < 9223372036854775807) : Z7o l lo hi = some (decide ((∀ x ∈ l, lo ≤ x ∧ x ≤ hi) ∧ l.Pairwise (· < ·))) := by
 unfold Z7o
 let ok : Nat → Bool := fun i => if h : i < l.length then decide ((lo ≤ l[i] ∧ l[i] ≤ hi) ∧ (0 < i → l[i - 1] < l[i])) else true
 rw [loop_all ok (.inl false) (.inr ()) hl ?_ (by unfold Z3g; rw [dnlt, cond_false])]
 ·
  have : (∀ i, i < l.length → ok i = true) ↔ ((∀ x ∈ l, lo ≤ x ∧ x ≤ hi) ∧ l.Pairwise (· < ·)) := by
   rw [← pair_of]
   constructor
   ·
    intro h
    have hx : ∀ (i : Nat) (hi' : i < l.length), (lo ≤ l[i] ∧ l[i] ≤ hi) ∧ (0 < i → l[i - 1] < l[i]) := fun i hi' => by
     have := h i hi'
     simp only [ok, hi', dif_pos, decide_eq_true_eq] at this
     exact this
    refine ⟨fun x hx' => ?_, fun i hi' => (hx i hi').2⟩
    obtain ⟨i, hi', rfl⟩ := List.mem_iff_getElem.1 hx'
    exact (hx i hi').1
   ·
    rintro ⟨h1, h2⟩ i hi'
    simp only [ok, hi', dif_pos, decide_eq_true_eq]
    exact ⟨h1 _ (List.getElem_mem hi'), h2 i hi'⟩
  by_cases hP : (∀ x ∈ l, lo ≤ x ∧ x ≤ hi) ∧ l.Pairwise (· < ·)
  ·
   rw [if_pos (this.2 hP), decide_eq_true hP]; rfl
  ·
   rw [if_neg (fun h => hP (this.1 h)), decide_eq_false hP]; rfl
 ·
  intro i hi'
  unfold Z3g
  rw [dlt hi', cond_true, get_of_lt hi', Option.bind_some, c_in, Option.bind_some]
  simp only [Z3f, wrap1 hi' hl]
  by_cases h1 : lo ≤ l[i] ∧ l[i] ≤ hi
  ·
   by_cases h3 : i = 0
   ·
    subst h3
    simp [ok, hi', h1]
   ·
    have h0 : 0 < i := by omega
    have hm : i - 1 < l.length := by omega
    rw [show decide ((i : Int) > 0) = true from decide_eq_true (by omega), wrapm1 h0 (by omega), get_of_lt hm]
    by_cases h5 : l[i - 1] < l[i]
    ·
     simp [ok, hi', h1, h0, h5, show ¬ l[i] ≤ l[i - 1] from by omega]
    ·
     simp [ok, hi', h1, h0, h5, show l[i] ≤ l[i - 1] from by omega]
  ·
   have : ok i = false := by simp only [ok, hi', dif_pos, h1, false_and, decide_false]
   simp [this, h1]

theorem c_Contains_int64 (l : List Int) (x : Int) (hl : l.length < 9223372036854775807) : Z5u l x = some (decide (x ∈ l)) := by
 unfold Z5u Zaq
 have := loop_idx (l := l) (step := Z23 l x) (fun y => x == y) hl (fun i hi => by
  unfold Z23
  rw [dlt hi, cond_true, get_of_lt hi, Option.bind_some, wrap1 hi hl]
  cases x == l[i] <;> rfl) (by unfold Z23; rw [dnlt, cond_false])
 rw [bind_idx this (fun _ => rfl) rfl, Option.bind_some, idxP_nn]
 congr 1
 by_cases h : x ∈ l
 ·
  rw [decide_eq_true h]; exact List.any_eq_true.2 ⟨x, h, by simp⟩
 ·
  rw [decide_eq_false h]; rw [List.any_eq_false]; intro y hy; simp; rintro rfl; exact h hy

theorem text_nil (t : ByteArray) : (t.toList == ByteArray.empty.toList) = ((t.size : Int) == 0) := by
 have h : t.toList = t.data.toList := ByteArray.toList_eq t
 have h2 : ByteArray.empty.toList = [] := by rw [ByteArray.toList_eq]; rfl
 rw [h, h2, beqd]
 have h3 : t.size = t.data.toList.length := (Array.length_toList (xs := t.data)).symm
 rw [h3]
 cases t.data.toList with
 | nil => rfl
 | cons a r => simp; omega

def bodyOk (e : TEvent) : Bool := (Z29 e).getD false

theorem c_l02Body (e : TEvent) : Z29 e = some (bodyOk e) := by
 unfold bodyOk
 unfold Z29 Zu Zv Zw Zx Zy Zz Zi Z10
 simp only [c_l02User, c_l02Is, c_l02Id, Option.bind_some, Bool.cond_eq_ite]
 repeat' split
 all_goals rfl

theorem same_body (e : TEvent) : Z76 e = some (bodyOk e) := by
 rw [← c_l02Body]
 unfold Z29 Zu Zv Zw Zx Zy Zz Zi Z10
 unfold Z76 Z2u Z2v Z2w Z2x Z2y Z2z Z30 Z1c
 simp only [c_l02User, c_l02Is, c_l02Id, c_isUser, c_in, c_isId, Option.bind_some, text_nil]
 have : (cond (decide ((e.text.size : Int) ≥ 1)) (some (decide ((e.text.size : Int) ≤ 30))) (some false)) = some (decide (1 ≤ (e.text.size : Int) ∧ (e.text.size : Int) ≤ 30)) := by
  by_cases h1 : (e.text.size : Int) ≥ 1
  ·
   simp [h1]
  ·
   simp [h1]
 rw [this]

def evOk (e : TEvent) : Bool := (Z42 e).getD false
structure EvOk (e : TEvent) : Prop where
 id : 1 ≤ e.id ∧ e.id ≤ 1000000
 room : 1 ≤ e.room ∧ e.room ≤ 3
 author : 1 ≤ e.author ∧ e.author ≤ 6
 time : 0 ≤ e.time ∧ e.time ≤ 1000000
 prev : PrevOk e.prev e.id
 kind : (e.kind = 1 ↔ e.prev = [])
 body : bodyOk e = true

theorem len0 {α : Type} (l : List α) : decide (((l.length : Nat) : Int) = 0) = decide (l = []) := by
 cases l with
 | nil => rfl
 | cons a r => simp; omega

theorem c_EventRight (e : TEvent) : Z42 e = some (evOk e) ∧ (evOk e = true ↔ EvOk e) := by
 have : ∃ b, Z42 e = some b ∧ (b = true ↔ EvOk e) := by
  unfold Z42 Ze
  simp only [c_l02Id, c_l02Is, c_l02User, c_l02Time, c_l02Prev, c_l02Body, Option.bind_some, len0, beqd]
  by_cases h1 : 1 ≤ e.id ∧ e.id ≤ 1000000
  ·
   by_cases h2 : 1 ≤ e.room ∧ e.room ≤ 3
   ·
    by_cases h3 : 1 ≤ e.author ∧ e.author ≤ 6
    ·
     by_cases h4 : 0 ≤ e.time ∧ e.time ≤ 1000000
     ·
      by_cases h5 : PrevOk e.prev e.id
      ·
       by_cases h6 : e.kind = 1 ↔ e.prev = []
       ·
        refine ⟨bodyOk e, ?_, ⟨fun h => ⟨h1, h2, h3, h4, h5, h6, h⟩, fun h => h.body⟩⟩
        have : (decide (e.kind = 1) == decide (e.prev = [])) = true := by
         by_cases hk : e.kind = 1
         ·
          rw [decide_eq_true hk, decide_eq_true (h6.1 hk)]; rfl
         ·
          rw [decide_eq_false hk, decide_eq_false (fun h => hk (h6.2 h))]; rfl
        rw [decide_eq_true h1, decide_eq_true h2, decide_eq_true h3, decide_eq_true h4, decide_eq_true h5, this]
        rfl
       ·
        refine ⟨false, ?_, ⟨(fun h => nomatch h), fun h => absurd h.kind h6⟩⟩
        have : (decide (e.kind = 1) == decide (e.prev = [])) = false := by
         by_cases hk : e.kind = 1
         ·
          rw [decide_eq_true hk, decide_eq_false (fun h => h6 ⟨fun _ => h, fun _ => hk⟩)]; rfl
         ·
          by_cases hp : e.prev = []
          ·
           rw [decide_eq_false hk, decide_eq_true hp]; rfl
          ·
           exact absurd ⟨fun h => absurd h hk, fun h => absurd h hp⟩ h6
        rw [decide_eq_true h1, decide_eq_true h2, decide_eq_true h3, decide_eq_true h4, decide_eq_true h5, this]
        rfl
      ·
       exact ⟨false, by rw [decide_eq_true h1, decide_eq_true h2, decide_eq_true h3, decide_eq_true h4, decide_eq_false h5]; rfl, ⟨(fun h => nomatch h), fun h => absurd h.prev h5⟩⟩
     ·
      exact ⟨false, by rw [decide_eq_true h1, decide_eq_true h2, decide_eq_true h3, decide_eq_false h4]; rfl, ⟨(fun h => nomatch h), fun h => absurd h.time h4⟩⟩
    ·
     exact ⟨false, by rw [decide_eq_true h1, decide_eq_true h2, decide_eq_false h3]; rfl, ⟨(fun h => nomatch h), fun h => absurd h.author h3⟩⟩
   ·
    exact ⟨false, by rw [decide_eq_true h1, decide_eq_false h2]; rfl, ⟨(fun h => nomatch h), fun h => absurd h.room h2⟩⟩
  ·
   exact ⟨false, by rw [decide_eq_false h1]; rfl, ⟨(fun h => nomatch h), fun h => absurd h.id h1⟩⟩
 obtain ⟨b, h1, h2⟩ := this
 have : evOk e = b := by unfold evOk; rw [h1]; rfl
 rw [this]
 exact ⟨h1, h2⟩

theorem same_EventRight (e : TEvent) (hl : e.prev.length < 9223372036854775807) : Z4s e = some (evOk e) := by
 have : ∃ b, Z4s e = some b ∧ (b = true ↔ EvOk e) := by
  unfold Z4s Z9m Z4t Z9
  simp only [c_isId, c_isRoom, c_isUser, c_isTime, c_increasing _ _ _ hl, c_Contains_int64 _ _ hl, same_body, Option.bind_some, len0, beqd]
  by_cases h1 : 1 ≤ e.id ∧ e.id ≤ 1000000
  ·
   by_cases h2 : 1 ≤ e.room ∧ e.room ≤ 3
   ·
    by_cases h3 : 1 ≤ e.author ∧ e.author ≤ 6
    ·
     by_cases h4 : 0 ≤ e.time ∧ e.time ≤ 1000000
     ·
      rw [decide_eq_true h1, decide_eq_true h2, decide_eq_true h3, decide_eq_true h4]
      simp only [cond_true]
      by_cases h5 : e.prev.length ≤ 4
      ·
       rw [decide_eq_true (by omega : (e.prev.length : Int) ≤ 4), cond_true]
       by_cases h6 : (∀ x ∈ e.prev, 1 ≤ x ∧ x ≤ 1000000) ∧ e.prev.Pairwise (· < ·)
       ·
        rw [decide_eq_true h6, cond_true]
        by_cases h7 : e.id ∈ e.prev
        ·
         rw [decide_eq_true h7]
         exact ⟨false, rfl, ⟨(fun h => nomatch h), fun h => absurd rfl (h.prev.2.1 _ h7).2.2⟩⟩
        ·
         rw [decide_eq_false h7, cond_false, Option.bind_some]
         have hp : PrevOk e.prev e.id := ⟨h5, fun x hx => ⟨(h6.1 x hx).1, (h6.1 x hx).2, fun h => h7 (h ▸ hx)⟩, h6.2⟩
         cases hb : bodyOk e with
         | false => exact ⟨false, rfl, ⟨(fun h => nomatch h), fun h => by rw [h.body] at hb; cases hb⟩⟩
         | true =>
          simp only [cond_true]
          refine ⟨_, rfl, ?_⟩
          constructor
          ·
           intro h
           refine ⟨h1, h2, h3, h4, hp, ?_, hb⟩
           have := beq_iff_eq.1 h
           rw [decide_eq_decide] at this
           exact this
          ·
           intro h
           rw [beq_iff_eq, decide_eq_decide]
           exact h.kind
       ·
        rw [decide_eq_false h6]
        exact ⟨false, rfl, ⟨(fun h => nomatch h), fun h => absurd ⟨fun x hx => ⟨(h.prev.2.1 x hx).1, (h.prev.2.1 x hx).2.1⟩, h.prev.2.2⟩ h6⟩⟩
      ·
       rw [decide_eq_false (by omega : ¬ (e.prev.length : Int) ≤ 4)]
       exact ⟨false, rfl, ⟨(fun h => nomatch h), fun h => absurd h.prev.1 h5⟩⟩
     ·
      exact ⟨false, by rw [decide_eq_true h1, decide_eq_true h2, decide_eq_true h3, decide_eq_false h4]; rfl, ⟨(fun h => nomatch h), fun h => absurd h.time h4⟩⟩
    ·
     exact ⟨false, by rw [decide_eq_true h1, decide_eq_true h2, decide_eq_false h3]; rfl, ⟨(fun h => nomatch h), fun h => absurd h.author h3⟩⟩
   ·
    exact ⟨false, by rw [decide_eq_true h1, decide_eq_false h2]; rfl, ⟨(fun h => nomatch h), fun h => absurd h.room h2⟩⟩
  ·
   exact ⟨false, by rw [decide_eq_false h1]; rfl, ⟨(fun h => nomatch h), fun h => absurd h.id h1⟩⟩
 obtain ⟨b, h1, h2⟩ := this
 rw [h1]
 have h3 := (c_EventRight e).2
 congr 1
 cases b with
 | true => exact (h3.2 (h2.1 rfl)).symm
 | false =>
  cases hx : evOk e with
  | false => rfl
  | true => exact absurd (h2.2 (h3.1 hx)) (by simp)
end Go.Proofs.YtnndihmamfomcaaGreat
