/- Plain laws for the graphs: states are merged alike. -/
import Derived.Test.YtnndihmamfomcaaGreatCGM
set_option autoImplicit false
set_option linter.unusedVariables false
set_option linter.unusedSimpArgs false
namespace Go.Proofs.YtnndihmamfomcaaGreat
open Go Go.Abs

theorem chk96 {n : Nat} (h : n < 1000000000) : chk (decide (n * 96 ≤ 140737488355328)) = some () := chk_t (decide_eq_true (by omega))


def hv (e : TEvent) : Bool := decide (e.kind = 1) || (decide (e.kind = 3) || (decide (e.kind = 5) || (decide (e.kind = 2) && !decide (e.key = e.author))))
def hn (e : TEvent) : Int := if hv e = true then 0 else 1
theorem c_isFirst (e : TEvent) : Z31 e = some (hv e) := by
 unfold Z31 Zk hv
 rw [beqd, beqd, beqd, beqd, bned]
 by_cases h1 : e.kind = 1
 ·
  simp [h1]
 ·
  by_cases h2 : e.kind = 3
  ·
   simp [h2]
  ·
   by_cases h3 : e.kind = 5
   ·
    simp [h3]
   ·
    by_cases h4 : e.kind = 2 <;> simp [h1, h2, h3, h4]
theorem c_l06Heavy (e : TEvent) : Z70 e = some (hv e) := by
 rw [← c_isFirst]; rfl

def Lt3 (dm : TEvent → Int) (a b : TEvent) : Prop := hn a < hn b ∨ hn a = hn b ∧ (dm a < dm b ∨ dm a = dm b ∧ (a.time < b.time ∨ a.time = b.time ∧ a.id < b.id))
instance (dm : TEvent → Int) (a b : TEvent) : Decidable (Lt3 dm a b) := by unfold Lt3; infer_instance

theorem or3 (x y z : Int) : ([x, y, z].find? fun z => !decide (z = 0)).getD 0 = if x = 0 then (if y = 0 then z else y) else x := by
 by_cases h : x = 0
 ·
  rw [List.find?_cons_of_neg (by simp [h]), or2, if_pos h]
 ·
  rw [List.find?_cons_of_pos (by simp [h]), if_neg h]; rfl

def dmI (h : THistory) (e : TEvent) : Int := Option.getD (mget h.depth e.id) 0

theorem c_resolve_2 (h : THistory) (a b : TEvent) : ∃ r, Za a b h = some r ∧ ((Lt3 (dmI h) a b ∧ r < 0) ∨ (¬ Lt3 (dmI h) a b ∧ 0 ≤ r)) := by
 unfold Za
 rw [c_isFirst, c_isFirst, Option.bind_some, Option.bind_some, c_Compare, Option.bind_some, c_Compare, Option.bind_some, c_Compare, Option.bind_some, c_cmp_Or _ (by simp), Option.bind_some, or3, Option.bind_some]
 have hnn : ∀ e, (hv e = true ∧ hn e = 0) ∨ (hv e = false ∧ hn e = 1) := fun e => by unfold hn; cases hv e <;> simp
 have hs : hv a = hv b → hn a = hn b := fun h => by unfold hn; rw [h]
 show ∃ r, cond (hv a == hv b) (some (if cmpI (dmI h a) (dmI h b) = 0 then (if cmpI a.time b.time = 0 then cmpI a.id b.id else cmpI a.time b.time) else cmpI (dmI h a) (dmI h b))) _ = some r ∧ _
 unfold Lt3
 rcases hnn a with ⟨a1, a2⟩ | ⟨a1, a2⟩ <;> rcases hnn b with ⟨b1, b2⟩ | ⟨b1, b2⟩ <;> rw [a1, b1]
 ·
  refine ⟨_, rfl, ?_⟩
  rcases cmpI_cases (dmI h a) (dmI h b) with ⟨h1, h2⟩ | ⟨h1, h2⟩ | ⟨h1, h2⟩ <;> rcases cmpI_cases a.time b.time with ⟨h3, h4⟩ | ⟨h3, h4⟩ | ⟨h3, h4⟩ <;> rcases cmpI_cases a.id b.id with ⟨h5, h6⟩ | ⟨h5, h6⟩ | ⟨h5, h6⟩ <;> rw [h2, h4, h6] <;> simp <;> omega
 ·
  exact ⟨-1, rfl, .inl ⟨.inl (by omega), by omega⟩⟩
 ·
  exact ⟨1, rfl, .inr ⟨by omega, by omega⟩⟩
 ·
  refine ⟨_, rfl, ?_⟩
  rcases cmpI_cases (dmI h a) (dmI h b) with ⟨h1, h2⟩ | ⟨h1, h2⟩ | ⟨h1, h2⟩ <;> rcases cmpI_cases a.time b.time with ⟨h3, h4⟩ | ⟨h3, h4⟩ | ⟨h3, h4⟩ <;> rcases cmpI_cases a.id b.id with ⟨h5, h6⟩ | ⟨h5, h6⟩ | ⟨h5, h6⟩ <;> rw [h2, h4, h6] <;> simp <;> omega

theorem ltc_is (h : THistory) (a b : TEvent) : ltc (fun z1 z2 => Za z1 z2 h) a b = decide (Lt3 (dmI h) a b) := by
 obtain ⟨r, h1, h2⟩ := c_resolve_2 h a b
 show decide ((Za a b h).getD 0 < 0) = _
 rw [h1, Option.getD_some]
 rcases h2 with ⟨h2, h3⟩ | ⟨h2, h3⟩
 ·
  rw [decide_eq_true h2, decide_eq_true h3]
 ·
  rw [decide_eq_false h2, decide_eq_false (by omega)]

abbrev OwnIds (l : List TEvent) : Prop := l.Pairwise fun a b => a.id ≠ b.id

theorem Zen (h : THistory) {l : List TEvent} (ho : OwnIds l) (hl : l.length ≤ 1000) : ∃ r, sortF (fun z1 z2 => Za z1 z2 h) l = some r ∧ r.Perm l ∧ r.Pairwise (Lt3 (dmI h)) := by
 unfold sortF
 have hok : SortOk (fun z1 z2 => Za z1 z2 h) l := by
  refine ⟨fun x _ y _ => ?_, fun x _ => ?_, fun x _ y _ z _ h1 h2 => ?_, ho.imp fun {a b} hab => ?_, by omega⟩
  ·
   obtain ⟨r, h1, _⟩ := c_resolve_2 h x y; simp only; rw [h1]; rfl
  ·
   rw [ltc_is]; exact decide_eq_false (by unfold Lt3; omega)
  ·
   rw [ltc_is, decide_eq_true_eq] at *; unfold Lt3 at *; omega
  ·
   rw [ltc_is, ltc_is]
   by_cases h1 : Lt3 (dmI h) a b
   ·
    rw [decide_eq_true h1, decide_eq_false (by unfold Lt3 at *; omega)]; rfl
   ·
    rw [decide_eq_false h1, decide_eq_true (by unfold Lt3 at *; omega)]; rfl
 rw [if_pos hok]
 have hp : (l.mergeSort fun x y => !ltc (fun z1 z2 => Za z1 z2 h) y x).Perm l := List.mergeSort_perm _ _
 refine ⟨_, rfl, hp, ?_⟩
 have hs := List.pairwise_mergeSort (le := fun x y => !ltc (fun z1 z2 => Za z1 z2 h) y x) (fun a b c h1 h2 => by
  rw [ltc_is, Bool.not_eq_true', decide_eq_false_iff_not] at *; unfold Lt3 at *; omega) (fun a b => by
  rw [ltc_is, ltc_is]
  by_cases h1 : Lt3 (dmI h) b a
  ·
   rw [decide_eq_true h1, decide_eq_false (by unfold Lt3 at *; omega)]; rfl
  ·
   rw [decide_eq_false h1]; rfl) l
 have ho2 : OwnIds (l.mergeSort fun x y => !ltc (fun z1 z2 => Za z1 z2 h) y x) := hp.symm.pairwise ho fun h => h.symm
 have := hs.and ho2
 refine this.imp fun {a b} hab => ?_
 obtain ⟨h1, h2⟩ := hab
 rw [ltc_is, Bool.not_eq_true', decide_eq_false_iff_not] at h1
 unfold Lt3 at *; omega


def stepO (l : List TEvent) (q : List TEvent × List (Int × Bool)) (x : TEntry) : List TEvent × List (Int × Bool) :=
 if Option.getD (mget q.2 x.id) false = true then q else (q.1 ++ [(evAt l x.id).getD zEv], mset q.2 x.id true)

structure OInv (l : List TEvent) (q : List TEvent × List (Int × Bool)) : Prop where
 own : OwnIds q.1
 ev : ∀ e ∈ q.1, e ∈ l ∧ Option.getD (mget q.2 e.id) false = true

theorem OInv.step {l : List TEvent} {q : List TEvent × List (Int × Bool)} (h : OInv l q) {x : TEntry} {e : TEvent} (hx : evAt l x.id = some e) : OInv l (stepO l q x) ∧
  (∀ id, Option.getD (mget (stepO l q x).2 id) false = true ↔ Option.getD (mget q.2 id) false = true ∨ x.id = id) ∧ (∀ e', e' ∈ (stepO l q x).1 ↔ e' ∈ q.1 ∨ (evAt l x.id = some e' ∧ ¬ Option.getD (mget q.2 x.id) false = true)) := by
 have h1 := evAt_some hx
 unfold stepO
 by_cases hm : Option.getD (mget q.2 x.id) false = true
 ·
  rw [if_pos hm]
  refine ⟨h, fun id => ⟨.inl, ?_⟩, fun e' => ⟨.inl, ?_⟩⟩
  ·
   rintro (h2 | rfl)
   ·
    exact h2
   ·
    exact hm
  ·
   rintro (h2 | ⟨_, h2⟩)
   ·
    exact h2
   ·
    exact absurd hm h2
 ·
  rw [if_neg hm, hx, Option.getD_some]
  have hget : ∀ id, Option.getD (mget (mset q.2 x.id true) id) false = true ↔ Option.getD (mget q.2 id) false = true ∨ x.id = id := fun id => by
   rw [mget_mset]
   by_cases h2 : id = x.id
   ·
    rw [if_pos h2]; exact ⟨fun _ => .inr h2.symm, fun _ => rfl⟩
   ·
    rw [if_neg h2]; exact ⟨.inl, fun h3 => h3.resolve_right fun h4 => h2 h4.symm⟩
  refine ⟨⟨pw_app.2 ⟨h.own, List.pairwise_singleton _ _, fun a ha b hb hab => ?_⟩, fun e' he' => ?_⟩, hget, fun e' => ?_⟩
  ·
   rw [List.mem_singleton] at hb
   subst hb
   have := (h.ev a ha).2
   rw [hab, h1.2] at this
   exact hm this
  ·
   rcases List.mem_append.1 he' with he' | he'
   ·
    exact ⟨(h.ev e' he').1, (hget _).2 (.inl (h.ev e' he').2)⟩
   ·
    rw [List.mem_singleton] at he'
    subst he'
    exact ⟨h1.1, (hget _).2 (.inr h1.2.symm)⟩
  ·
   simp only [List.mem_append, List.mem_singleton]
   constructor
   ·
    rintro (h2 | rfl)
    ·
     exact .inl h2
    ·
     exact .inr ⟨rfl, hm⟩
   ·
    rintro (h2 | ⟨h2, _⟩)
    ·
     exact .inl h2
    ·
     cases h2; exact .inr rfl

theorem OInv.fold {l : List TEvent} : ∀ {xs : List TEntry} {q : List TEvent × List (Int × Bool)}, OInv l q → (∀ x ∈ xs, ∃ e, evAt l x.id = some e) → OInv l (xs.foldl (stepO l) q) ∧
  (∀ id, Option.getD (mget (xs.foldl (stepO l) q).2 id) false = true ↔ Option.getD (mget q.2 id) false = true ∨ ∃ x ∈ xs, x.id = id) ∧ (∀ e', e' ∈ (xs.foldl (stepO l) q).1 ↔ e' ∈ q.1 ∨ ∃ x ∈ xs, evAt l x.id = some e' ∧ ¬ Option.getD (mget q.2 x.id) false = true)
 | [], q, h, _ => ⟨h, fun id => by simp, fun e' => by simp⟩
 | x :: xs, q, h, hx => by
  obtain ⟨e, he⟩ := hx x (by simp)
  obtain ⟨h1, h2, h3⟩ := h.step he
  obtain ⟨i1, i2, i3⟩ := OInv.fold (xs := xs) h1 fun y hy => hx y (by simp [hy])
  rw [List.foldl_cons]
  refine ⟨i1, fun id => ?_, fun e' => ?_⟩
  ·
   rw [i2, h2]
   simp only [List.mem_cons, exists_eq_or_imp, or_assoc]
  ·
   rw [i3, h3]
   constructor
   ·
    rintro ((h4 | ⟨h4, h5⟩) | ⟨y, h4, h5, h6⟩)
    ·
     exact .inl h4
    ·
     exact .inr ⟨x, by simp, h4, h5⟩
    ·
     rw [h2] at h6
     exact .inr ⟨y, by simp [h4], h5, fun h7 => h6 (.inl h7)⟩
   ·
    rintro (h4 | ⟨y, h4, h5, h6⟩)
    ·
     exact .inl (.inl h4)
    ·
     rcases List.mem_cons.1 h4 with rfl | h4
     ·
      exact .inl (.inr ⟨h5, h6⟩)
     ·
      by_cases h7 : x.id = y.id
      ·
       rw [← h7] at h5 h6
       exact .inl (.inr ⟨h5, h6⟩)
      ·
       refine .inr ⟨y, h4, h5, fun h8 => ?_⟩
       rcases (h2 _).1 h8 with h8 | h8
       ·
        exact h6 h8
       ·
        exact h7 h8

theorem OInv.len {l : List TEvent} {q : List TEvent × List (Int × Bool)} (h : OInv l q) : q.1.length ≤ l.length := by
 have h1 : (q.1.map (·.id)).Nodup := by rw [List.nodup_iff_pairwise_ne, List.pairwise_map]; exact h.own
 have := h1.length_le_of_subset (l₂ := l.map (·.id)) fun n hn => by
  obtain ⟨e, he, rfl⟩ := List.mem_map.1 hn
  exact List.mem_map.2 ⟨e, (h.ev e he).1, rfl⟩
 simpa using this

def metI (com : List TEntry) : List (Int × Bool) := com.foldl (fun m x => mset m x.id true) []
theorem metI_mem (com : List TEntry) (id : Int) : Option.getD (mget (metI com) id) false = true ↔ ∃ x ∈ com, x.id = id := by
 have : ∀ (xs : List TEntry) (m : List (Int × Bool)), Option.getD (mget (xs.foldl (fun m x => mset m x.id true) m) id) false = true ↔ Option.getD (mget m id) false = true ∨ ∃ x ∈ xs, x.id = id := by
  intro xs
  induction xs with
  | nil => intro m; simp
  | cons x xs ih =>
   intro m
   rw [List.foldl_cons, ih, mget_mset]
   by_cases h : id = x.id
   ·
    rw [if_pos h]; simp [h]
   ·
    rw [if_neg h]
    constructor
    ·
     rintro (h1 | ⟨y, h1, h2⟩)
     ·
      exact .inl h1
     ·
      exact .inr ⟨y, by simp [h1], h2⟩
    ·
     rintro (h1 | ⟨y, h1, h2⟩)
     ·
      exact .inl h1
     ·
      rcases List.mem_cons.1 h1 with rfl | h1
      ·
       exact absurd h2.symm h
      ·
       exact .inr ⟨y, h1, h2⟩
 unfold metI
 rw [this]
 constructor
 ·
  rintro (h | h)
  ·
   cases h
  ·
   exact h
 ·
  exact .inr

def othersI (l : List TEvent) (ls : List (List TEntry)) : List TEvent := (ls.flatten.foldl (stepO l) ([], metI (comI ls))).1

theorem othersI_is {g : TGraph'} {ls : List (List TEntry)} (h : Mrg g ls) : OwnIds (othersI g.events ls) ∧ (othersI g.events ls).length ≤ 60 ∧ ∀ e, e ∈ othersI g.events ls ↔ e ∈ g.events ∧ e.id ∈ (partsR ls).2 := by
 have hx : ∀ x ∈ ls.flatten, ∃ s ∈ ls, x ∈ s := fun x hx => by obtain ⟨s, h1, h2⟩ := List.mem_flatten.1 hx; exact ⟨s, h1, h2⟩
 obtain ⟨h1, _, h3⟩ := OInv.fold (l := g.events) (xs := ls.flatten) (q := ([], metI (comI ls))) ⟨.nil, fun e he => by cases he⟩ fun x hx' => by
  obtain ⟨s, h4, h5⟩ := hx x hx'
  obtain ⟨e, he, _⟩ := (h.ok s h4).ev x h5
  exact ⟨e, he⟩
 refine ⟨h1.own, Nat.le_trans h1.len h.fits.len, fun e => ?_⟩
 unfold othersI
 rw [h3]
 obtain ⟨p1, p2⟩ := partsR_mem h
 constructor
 ·
  rintro (h4 | ⟨x, h4, h5, h6⟩)
  ·
   cases h4
  ·
   obtain ⟨s, h7, h8⟩ := hx x h4
   have h9 := evAt_some h5
   refine ⟨h9.1, (p2 _).2 ⟨s, h7, x, h8, ?_, h9.2.symm⟩⟩
   rw [Bool.eq_false_iff]
   intro ha
   refine h6 ((metI_mem _ _).2 ⟨x, ?_, rfl⟩)
   rw [comI_is h]
   exact (p1 x).2 ⟨⟨s, h7, h8⟩, ha⟩
 ·
  rintro ⟨h4, h5⟩
  obtain ⟨s, h6, x, h7, h8, h9⟩ := (p2 _).1 h5
  refine .inr ⟨x, List.mem_flatten.2 ⟨s, h6, h7⟩, ?_, fun hm => ?_⟩
  ·
   rw [h9]; exact h.fits.up.evAt_mem h4
  ·
   obtain ⟨y, hy, hyx⟩ := (metI_mem _ _).1 hm
   rw [comI_is h] at hy
   obtain ⟨⟨t, ht, hyt⟩, ha⟩ := (p1 y).1 hy
   have := (h.ok t ht).eq (h.ok s h6) hyt h7 hyx
   subst this
   rw [ha] at h8; cases h8

def putE (s : List TEntry) (e : TEvent) : List TEntry := putS s (TEntry.mk e.kind e.key e.id)
def layE (g : TGraph') (s : List TEntry) (e : TEvent) : List TEntry := if alw g s e = 0 then putE s e else s

theorem layE_ok {g : TGraph'} (hu : Up2 g.events) : ∀ {es : List TEvent} {s : List TEntry}, StOk g.events s → (∀ e ∈ es, e ∈ g.events) → StOk g.events (es.foldl (layE g) s)
 | [], _, h, _ => h
 | e :: es, s, h, he => by
  show StOk g.events (es.foldl (layE g) (layE g s e))
  refine layE_ok hu ?_ fun e' h' => he e' (by simp [h'])
  unfold layE
  split
  ·
   exact h.put (hu.evAt_mem (he e (by simp)))
  ·
   exact h
end Go.Proofs.YtnndihmamfomcaaGreat
