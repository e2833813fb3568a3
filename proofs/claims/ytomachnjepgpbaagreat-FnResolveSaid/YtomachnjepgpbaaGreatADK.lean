/- Plain laws for the graphs: states are merged alike. -/
import Derived.Test.YtomachnjepgpbaaGreatAGM
set_option autoImplicit false
set_option linter.unusedVariables false
set_option linter.unusedSimpArgs false
namespace Go.Proofs.YtomachnjepgpbaaGreat
open Go Go.Abs

theorem Yii {n : Nat} (h : n < 1000000000) : chk (decide (n * 96 ≤ 140737488355328)) = some () := Y4z (Wt (by omega))


def hv (e : Y9j) : Bool := decide (e.kind = 1) || (decide (e.kind = 3) || (decide (e.kind = 5) || (decide (e.kind = 2) && !decide (e.key = e.author))))
def hn (e : Y9j) : Int := if hv e = true then 0 else 1
theorem Yij (e : Y9j) : Ze3 e = some (hv e) := by
 unfold Ze3 Ze2 hv
 rw [beqd, beqd, beqd, beqd, bned]
 by_cases h1 : e.kind = 1
 ·
  simp [h1]
 ·
  by_cases h2 : e.kind = 3
  ·
   simp [h2]
  ·
   by_cases h3 : e.kind = 5
   ·
    simp [h3]
   ·
    by_cases h4 : e.kind = 2 <;> simp [h1, h2, h3, h4]
theorem Yik (e : Y9j) : Z65 e = some (hv e) := by
 rw [← Yij]; rfl

def Lt3 (dm : Y9j → Int) (a b : Y9j) : Prop := hn a < hn b ∨ hn a = hn b ∧ (dm a < dm b ∨ dm a = dm b ∧ (a.time < b.time ∨ a.time = b.time ∧ a.id < b.id))
instance (dm : Y9j → Int) (a b : Y9j) : Decidable (Lt3 dm a b) := by unfold Lt3; infer_instance

theorem or3 (x y z : Int) : ([x, y, z].find? fun z => !decide (z = 0)).getD 0 = if x = 0 then (if y = 0 then z else y) else x := by
 by_cases h : x = 0
 ·
  rw [List.find?_cons_of_neg (by simp [h]), or2, if_pos h]
 ·
  rw [List.find?_cons_of_pos (by simp [h]), if_neg h]; rfl

def dmI (h : Y9p) (e : Y9j) : Int := Option.getD (mget h.depth e.id) 0

theorem Yil (h : Y9p) (a b : Y9j) : ∃ r, Zfo a b h = some r ∧ ((Lt3 (dmI h) a b ∧ r < 0) ∨ (¬ Lt3 (dmI h) a b ∧ 0 ≤ r)) := by
 unfold Zfo
 rw [Yij, Yij, Wb, Wb, Ye4, Wb, Ye4, Wb, Ye4, Wb, Ygp _ (by simp), Wb, or3, Wb]
 have hnn : ∀ e, (hv e = true ∧ hn e = 0) ∨ (hv e = false ∧ hn e = 1) := fun e => by unfold hn; cases hv e <;> simp
 have hs : hv a = hv b → hn a = hn b := fun h => by unfold hn; rw [h]
 show ∃ r, cond (hv a == hv b) (some (if cmpI (dmI h a) (dmI h b) = 0 then (if cmpI a.time b.time = 0 then cmpI a.id b.id else cmpI a.time b.time) else cmpI (dmI h a) (dmI h b))) _ = some r ∧ _
 unfold Lt3
 rcases hnn a with ⟨a1, a2⟩ | ⟨a1, a2⟩ <;> rcases hnn b with ⟨b1, b2⟩ | ⟨b1, b2⟩ <;> rw [a1, b1]
 ·
  refine ⟨_, rfl, ?_⟩
  rcases Ygr (dmI h a) (dmI h b) with ⟨h1, h2⟩ | ⟨h1, h2⟩ | ⟨h1, h2⟩ <;> rcases Ygr a.time b.time with ⟨h3, h4⟩ | ⟨h3, h4⟩ | ⟨h3, h4⟩ <;> rcases Ygr a.id b.id with ⟨h5, h6⟩ | ⟨h5, h6⟩ | ⟨h5, h6⟩ <;> rw [h2, h4, h6] <;> simp <;> omega
 ·
  exact ⟨-1, rfl, .inl ⟨.inl (by omega), by omega⟩⟩
 ·
  exact ⟨1, rfl, .inr ⟨by omega, by omega⟩⟩
 ·
  refine ⟨_, rfl, ?_⟩
  rcases Ygr (dmI h a) (dmI h b) with ⟨h1, h2⟩ | ⟨h1, h2⟩ | ⟨h1, h2⟩ <;> rcases Ygr a.time b.time with ⟨h3, h4⟩ | ⟨h3, h4⟩ | ⟨h3, h4⟩ <;> rcases Ygr a.id b.id with ⟨h5, h6⟩ | ⟨h5, h6⟩ | ⟨h5, h6⟩ <;> rw [h2, h4, h6] <;> simp <;> omega

theorem Yim (h : Y9p) (a b : Y9j) : ltc (fun z1 z2 => Zfo z1 z2 h) a b = decide (Lt3 (dmI h) a b) := by
 obtain ⟨r, h1, h2⟩ := Yil h a b
 show decide ((Zfo a b h).getD 0 < 0) = _
 rw [h1, Option.getD_some]
 rcases h2 with ⟨h2, h3⟩ | ⟨h2, h3⟩
 ·
  rw [Wt h2, Wt h3]
 ·
  rw [Wf h2, Wf (by omega)]

abbrev Yin (l : List Y9j) : Prop := l.Pairwise fun a b => a.id ≠ b.id

theorem Zke (h : Y9p) {l : List Y9j} (ho : Yin l) (hl : l.length ≤ 1000) : ∃ r, Y80 (fun z1 z2 => Zfo z1 z2 h) l = some r ∧ r.Perm l ∧ r.Pairwise (Lt3 (dmI h)) := by
 unfold Y80
 have hok : Y7z (fun z1 z2 => Zfo z1 z2 h) l := by
  refine ⟨fun x _ y _ => ?_, fun x _ => ?_, fun x _ y _ z _ h1 h2 => ?_, ho.imp fun {a b} hab => ?_, by omega⟩
  ·
   obtain ⟨r, h1, _⟩ := Yil h x y; simp only; rw [h1]; rfl
  ·
   rw [Yim]; exact Wf (by unfold Lt3; omega)
  ·
   rw [Yim, decide_eq_true_eq] at *; unfold Lt3 at *; omega
  ·
   rw [Yim, Yim]
   by_cases h1 : Lt3 (dmI h) a b
   ·
    rw [Wt h1, Wf (by unfold Lt3 at *; omega)]; rfl
   ·
    rw [Wf h1, Wt (by unfold Lt3 at *; omega)]; rfl
 rw [if_pos hok]
 have hp : (l.mergeSort fun x y => !ltc (fun z1 z2 => Zfo z1 z2 h) y x).Perm l := List.mergeSort_perm _ _
 refine ⟨_, rfl, hp, ?_⟩
 have hs := List.pairwise_mergeSort (le := fun x y => !ltc (fun z1 z2 => Zfo z1 z2 h) y x) (fun a b c h1 h2 => by
  rw [Yim, Bool.not_eq_true', decide_eq_false_iff_not] at *; unfold Lt3 at *; omega) (fun a b => by
  rw [Yim, Yim]
  by_cases h1 : Lt3 (dmI h) b a
  ·
   rw [Wt h1, Wf (by unfold Lt3 at *; omega)]; rfl
  ·
   rw [Wf h1]; rfl) l
 have ho2 : Yin (l.mergeSort fun x y => !ltc (fun z1 z2 => Zfo z1 z2 h) y x) := hp.symm.pairwise ho fun h => h.symm
 have := hs.and ho2
 refine this.imp fun {a b} hab => ?_
 obtain ⟨h1, h2⟩ := hab
 rw [Yim, Bool.not_eq_true', decide_eq_false_iff_not] at h1
 unfold Lt3 at *; omega


def Yio (l : List Y9j) (q : List Y9j × List (Int × Bool)) (x : Y9m) : List Y9j × List (Int × Bool) :=
 if Option.getD (mget q.2 x.id) false = true then q else (q.1 ++ [(evAt l x.id).getD zEv], mset q.2 x.id true)

structure OInv (l : List Y9j) (q : List Y9j × List (Int × Bool)) : Prop where
 own : Yin q.1
 ev : ∀ e ∈ q.1, e ∈ l ∧ Option.getD (mget q.2 e.id) false = true

theorem OInv.step {l : List Y9j} {q : List Y9j × List (Int × Bool)} (h : OInv l q) {x : Y9m} {e : Y9j} (hx : evAt l x.id = some e) : OInv l (Yio l q x) ∧
  (∀ id, Option.getD (mget (Yio l q x).2 id) false = true ↔ Option.getD (mget q.2 id) false = true ∨ x.id = id) ∧ (∀ e', e' ∈ (Yio l q x).1 ↔ e' ∈ q.1 ∨ (evAt l x.id = some e' ∧ ¬ Option.getD (mget q.2 x.id) false = true)) := by
 have h1 := Ydz hx
 unfold Yio
 by_cases hm : Option.getD (mget q.2 x.id) false = true
 ·
  rw [if_pos hm]
  refine ⟨h, fun id => ⟨.inl, ?_⟩, fun e' => ⟨.inl, ?_⟩⟩
  ·
   rintro (h2 | rfl)
   ·
    exact h2
   ·
    exact hm
  ·
   rintro (h2 | ⟨_, h2⟩)
   ·
    exact h2
   ·
    exact absurd hm h2
 ·
  rw [if_neg hm, hx, Option.getD_some]
  have hget : ∀ id, Option.getD (mget (mset q.2 x.id true) id) false = true ↔ Option.getD (mget q.2 id) false = true ∨ x.id = id := fun id => by
   rw [Y6b]
   by_cases h2 : id = x.id
   ·
    rw [if_pos h2]; exact ⟨fun _ => .inr h2.symm, fun _ => rfl⟩
   ·
    rw [if_neg h2]; exact ⟨.inl, fun h3 => h3.resolve_right fun h4 => h2 h4.symm⟩
  refine ⟨⟨Yf6.2 ⟨h.own, List.pairwise_singleton _ _, fun a ha b hb hab => ?_⟩, fun e' he' => ?_⟩, hget, fun e' => ?_⟩
  ·
   rw [List.mem_singleton] at hb
   subst hb
   have := (h.ev a ha).2
   rw [hab, h1.2] at this
   exact hm this
  ·
   rcases List.mem_append.1 he' with he' | he'
   ·
    exact ⟨(h.ev e' he').1, (hget _).2 (.inl (h.ev e' he').2)⟩
   ·
    rw [List.mem_singleton] at he'
    subst he'
    exact ⟨h1.1, (hget _).2 (.inr h1.2.symm)⟩
  ·
   simp only [List.mem_append, List.mem_singleton]
   constructor
   ·
    rintro (h2 | rfl)
    ·
     exact .inl h2
    ·
     exact .inr ⟨rfl, hm⟩
   ·
    rintro (h2 | ⟨h2, _⟩)
    ·
     exact .inl h2
    ·
     cases h2; exact .inr rfl

theorem OInv.fold {l : List Y9j} : ∀ {xs : List Y9m} {q : List Y9j × List (Int × Bool)}, OInv l q → (∀ x ∈ xs, ∃ e, evAt l x.id = some e) → OInv l (xs.foldl (Yio l) q) ∧
  (∀ id, Option.getD (mget (xs.foldl (Yio l) q).2 id) false = true ↔ Option.getD (mget q.2 id) false = true ∨ ∃ x ∈ xs, x.id = id) ∧ (∀ e', e' ∈ (xs.foldl (Yio l) q).1 ↔ e' ∈ q.1 ∨ ∃ x ∈ xs, evAt l x.id = some e' ∧ ¬ Option.getD (mget q.2 x.id) false = true)
 | [], q, h, _ => ⟨h, fun id => by simp, fun e' => by simp⟩
 | x :: xs, q, h, hx => by
  obtain ⟨e, he⟩ := hx x (by simp)
  obtain ⟨h1, h2, h3⟩ := h.step he
  obtain ⟨i1, i2, i3⟩ := OInv.fold (xs := xs) h1 fun y hy => hx y (by simp [hy])
  rw [List.foldl_cons]
  refine ⟨i1, fun id => ?_, fun e' => ?_⟩
  ·
   rw [i2, h2]
   simp only [List.mem_cons, exists_eq_or_imp, or_assoc]
  ·
   rw [i3, h3]
   constructor
   ·
    rintro ((h4 | ⟨h4, h5⟩) | ⟨y, h4, h5, h6⟩)
    ·
     exact .inl h4
    ·
     exact .inr ⟨x, by simp, h4, h5⟩
    ·
     rw [h2] at h6
     exact .inr ⟨y, by simp [h4], h5, fun h7 => h6 (.inl h7)⟩
   ·
    rintro (h4 | ⟨y, h4, h5, h6⟩)
    ·
     exact .inl (.inl h4)
    ·
     rcases List.mem_cons.1 h4 with rfl | h4
     ·
      exact .inl (.inr ⟨h5, h6⟩)
     ·
      by_cases h7 : x.id = y.id
      ·
       rw [← h7] at h5 h6
       exact .inl (.inr ⟨h5, h6⟩)
      ·
       refine .inr ⟨y, h4, h5, fun h8 => ?_⟩
       rcases (h2 _).1 h8 with h8 | h8
       ·
        exact h6 h8
       ·
        exact h7 h8

theorem OInv.len {l : List Y9j} {q : List Y9j × List (Int × Bool)} (h : OInv l q) : q.1.length ≤ l.length := by
 have h1 : (q.1.map (·.id)).Nodup := by rw [List.nodup_iff_pairwise_ne, List.pairwise_map]; exact h.own
 have := h1.length_le_of_subset (l₂ := l.map (·.id)) fun n hn => by
  obtain ⟨e, he, rfl⟩ := List.mem_map.1 hn
  exact List.mem_map.2 ⟨e, (h.ev e he).1, rfl⟩
 simpa using this

def metI (com : List Y9m) : List (Int × Bool) := com.foldl (fun m x => mset m x.id true) []
theorem Yip (com : List Y9m) (id : Int) : Option.getD (mget (metI com) id) false = true ↔ ∃ x ∈ com, x.id = id := by
 have : ∀ (xs : List Y9m) (m : List (Int × Bool)), Option.getD (mget (xs.foldl (fun m x => mset m x.id true) m) id) false = true ↔ Option.getD (mget m id) false = true ∨ ∃ x ∈ xs, x.id = id := by
  intro xs
  induction xs with
  | nil => intro m; simp
  | cons x xs ih =>
   intro m
   rw [List.foldl_cons, ih, Y6b]
   by_cases h : id = x.id
   ·
    rw [if_pos h]; simp [h]
   ·
    rw [if_neg h]
    constructor
    ·
     rintro (h1 | ⟨y, h1, h2⟩)
     ·
      exact .inl h1
     ·
      exact .inr ⟨y, by simp [h1], h2⟩
    ·
     rintro (h1 | ⟨y, h1, h2⟩)
     ·
      exact .inl h1
     ·
      rcases List.mem_cons.1 h1 with rfl | h1
      ·
       exact absurd h2.symm h
      ·
       exact .inr ⟨y, h1, h2⟩
 unfold metI
 rw [this]
 constructor
 ·
  rintro (h | h)
  ·
   cases h
  ·
   exact h
 ·
  exact .inr

def Yiq (l : List Y9j) (ls : List (List Y9m)) : List Y9j := (ls.flatten.foldl (Yio l) ([], metI (comI ls))).1

theorem Yir {g : Y9k} {ls : List (List Y9m)} (h : Mrg g ls) : Yin (Yiq g.events ls) ∧ (Yiq g.events ls).length ≤ 60 ∧ ∀ e, e ∈ Yiq g.events ls ↔ e ∈ g.events ∧ e.id ∈ (Yic ls).2 := by
 have hx : ∀ x ∈ ls.flatten, ∃ s ∈ ls, x ∈ s := fun x hx => by obtain ⟨s, h1, h2⟩ := List.mem_flatten.1 hx; exact ⟨s, h1, h2⟩
 obtain ⟨h1, _, h3⟩ := OInv.fold (l := g.events) (xs := ls.flatten) (q := ([], metI (comI ls))) ⟨.nil, fun e he => by cases he⟩ fun x hx' => by
  obtain ⟨s, h4, h5⟩ := hx x hx'
  obtain ⟨e, he, _⟩ := (h.ok s h4).ev x h5
  exact ⟨e, he⟩
 refine ⟨h1.own, Nat.le_trans h1.len h.fits.len, fun e => ?_⟩
 unfold Yiq
 rw [h3]
 obtain ⟨p1, p2⟩ := Yig h
 constructor
 ·
  rintro (h4 | ⟨x, h4, h5, h6⟩)
  ·
   cases h4
  ·
   obtain ⟨s, h7, h8⟩ := hx x h4
   have h9 := Ydz h5
   refine ⟨h9.1, (p2 _).2 ⟨s, h7, x, h8, ?_, h9.2.symm⟩⟩
   rw [Bool.eq_false_iff]
   intro ha
   refine h6 ((Yip _ _).2 ⟨x, ?_, rfl⟩)
   rw [Yih h]
   exact (p1 x).2 ⟨⟨s, h7, h8⟩, ha⟩
 ·
  rintro ⟨h4, h5⟩
  obtain ⟨s, h6, x, h7, h8, h9⟩ := (p2 _).1 h5
  refine .inr ⟨x, List.mem_flatten.2 ⟨s, h6, h7⟩, ?_, fun hm => ?_⟩
  ·
   rw [h9]; exact h.fits.up.evAt_mem h4
  ·
   obtain ⟨y, hy, hyx⟩ := (Yip _ _).1 hm
   rw [Yih h] at hy
   obtain ⟨⟨t, ht, hyt⟩, ha⟩ := (p1 y).1 hy
   have := (h.ok t ht).eq (h.ok s h6) hyt h7 hyx
   subst this
   rw [ha] at h8; cases h8

def putE (s : List Y9m) (e : Y9j) : List Y9m := putS s (Y9m.mk e.kind e.key e.id)
def layE (g : Y9k) (s : List Y9m) (e : Y9j) : List Y9m := if alw g s e = 0 then putE s e else s

theorem Yis {g : Y9k} (hu : Up2 g.events) : ∀ {es : List Y9j} {s : List Y9m}, StOk g.events s → (∀ e ∈ es, e ∈ g.events) → StOk g.events (es.foldl (layE g) s)
 | [], _, h, _ => h
 | e :: es, s, h, he => by
  show StOk g.events (es.foldl (layE g) (layE g s e))
  refine Yis hu ?_ fun e' h' => he e' (by simp [h'])
  unfold layE
  split
  ·
   exact h.put (hu.evAt_mem (he e (by simp)))
  ·
   exact h
end Go.Proofs.YtomachnjepgpbaaGreat
namespace Go.Proofs.YtomachnjepgpbaaGreat
open Go Go.Abs

theorem Zkf {h : Y9p} {ls : List (List Y9m)} (hm : Mrg h.graph ls) {es : List Y9j} (hes : ∀ e ∈ es, e ∈ h.graph.events) (hel : es.length ≤ 1000) {s : List Y9m} (hs : StOk h.graph.events s) :
  iter (fun z : List Y9m × Int => Zfs h es z.1 z.2) big (s, 0) = some (es.foldl (layE h.graph) s) := by
 have := Ydc (l := es) (step := fun z : List Y9m × Int => Zfs h es z.1 z.2) (fun q j => (q, j)) (fun q => q) (layE h.graph) (fun _ q => StOk h.graph.events q) (by omega) (fun i q hi hq => by
  have he := hes _ (Wm hi)
  refine ⟨?_, Yis (es := [es[i]]) hm.fits.up hq (by simpa using he)⟩
  have hql := hm.slen hq
  simp only [Zfs]
  rw [dlt hi, Wu, Ycv hi, Wb, (Yhf (hm.sts hq) (hm.ev _ he).ask).2, Wb, beqd]
  simp only [Zfr, Ycw hi (by omega : es.length < 9223372036854775807)]
  have h1 := (hm.ev _ he).id.1
  unfold layE putE
  by_cases ha : alw h.graph q es[i] = 0
  ·
   rw [Wt ha, Wu, if_pos ha, Ygz hq.up _ (by simp only; omega) (by omega)]; rfl
  ·
   rw [Wf ha, Wv, if_neg ha])
  (fun q _ => by simp only [Zfs]; rw [dnlt, Wv]) (s := s) hs
 exact this.1

theorem Yit {α : Type} (p : α → Bool) (l : List α) : l.any (fun x => !p x) = !l.all p := by simp [List.all_eq_not_any_not]

theorem Yiu {ls : List (List Y9m)} (x : Y9m) (hl : ls.length ≤ 1000) (hs : ∀ s ∈ ls, s.length < 1000000) : Zfm ls x = some (!ls.all fun t => memS t x) := by
 unfold Zfm Zfk
 rw [Yde (Yd9 (l := ls) (step := Zfj ls x) (fun t => !memS t x) (by omega) (fun i hi => by
  simp only [Zfj, Zfg]
  rw [dlt hi, Wu, Ycv hi, Wb, Yi8 _ _ (hs _ (Wm hi)), Wb, Wb, Ycw hi (by omega)]
  cases memS ls[i] x <;> rfl) (by simp only [Zfj]; rw [dnlt, Wv])) (fun _ => rfl) rfl]
 rw [Wb, Ydd, Yit]

theorem Yiv {α : Type} (p : α → Bool) : ∀ (l q : List α), l.foldl (fun q x => if p x = true then q ++ [x] else q) q = q ++ l.filter p
 | [], q => by simp
 | x :: l, q => by
  rw [List.foldl_cons, Yiv p l]
  cases h : p x with
  | true => rw [if_pos rfl, List.filter_cons_of_pos h]; simp
  | false => rw [if_neg (by simp), List.filter_cons_of_neg (by simp [h])]

theorem Zkg {h : Y9p} {ls : List (List Y9m)} (hm : Mrg h.graph ls) : ∃ r : List Y9j, Zg4 h ls = some (r.foldl (layE h.graph) (Yic ls).1) ∧ r.Perm (Yiq h.graph.events ls) ∧ r.Pairwise (Lt3 (dmI h)) := by
 have hR := (Yif hm).2
 have hlen := hm.len
 have hsl : ∀ s ∈ ls, s.length ≤ 60 := fun s hs => hm.slen (hm.ok s hs)
 obtain ⟨o1, o2, o3⟩ := Yir hm
 obtain ⟨r, r1, r2, r3⟩ := Zke h o1 (by omega)
 refine ⟨r, ?_, r2, r3⟩
 have hcom : Zg4 h ls = Zg1 h ls (comI ls) := by
  unfold Zg4
  cases ls with
  | nil => rfl
  | cons s ls =>
   have hs := hsl s (by simp)
   rw [Wt (by simp), Wu, show (0 : Int) = ((0 : Nat) : Int) from rfl, Ycv (by simp), Wb]
   simp only [List.getElem_cons_zero]
   have := Ydc (l := s) (step := fun z : List Y9m × Int => Zg3 (s :: ls) s z.1 z.2) (fun q j => (q, j)) (fun q => q) (fun q x => if ((s :: ls).all fun t => memS t x) = true then q ++ [x] else q) (fun i q => q.length ≤ i) (by omega) (fun i q hi hq => by
    refine ⟨?_, by split <;> first | omega | (rw [List.length_append, List.length_singleton]; omega)⟩
    simp only [Zg3]
    rw [dlt hi, Wu, Ycv hi, Wb, Yiu _ hlen (fun s hs => by have := hsl s hs; omega), Wb, Ygl (by simp; omega), Wb]
    simp only [Zg2, Ycw hi (by omega : s.length < 9223372036854775807)]
    cases (s :: ls).all fun t => memS t s[i] <;> rfl)
    (fun q _ => by simp only [Zg3]; rw [dnlt, Wv]) (s := []) (by simp)
   rw [Yiv (fun x => (s :: ls).all fun t => memS t x), List.nil_append] at this
   rw [show ((0 : Nat) : Int) = 0 from rfl, this.1]
   rfl
 rw [hcom]
 have hc60 : (comI ls).length ≤ 60 := by rw [Yih hm]; exact (hR.len hm.fits.len).1
 unfold Zg1
 have h2 := Ydc (l := comI ls) (step := fun z : List (Int × Bool) × Int => Zg0 (comI ls) z.1 z.2) (fun q j => (q, j)) (fun q => q) (fun m x => mset m x.id true) (fun _ _ => True) (by omega) (fun i q hi _ => by
  refine ⟨?_, trivial⟩
  simp only [Zg0]
  rw [dlt hi, Wu, Ycv hi, Wb, Ycw hi (by omega)])
  (fun q _ => by simp only [Zg0]; rw [dnlt, Wv]) (s := []) trivial
 rw [h2.1, Wb]
 unfold Zfz
 have h3 := Ydc (l := ls) (step := fun z : List Y9j × List (Int × Bool) × Int => Zfy h ls z.1 z.2.1 z.2.2) (fun (q : List Y9j × List (Int × Bool)) j => (q.1, q.2, j)) (fun q => q.1) (fun q s => s.foldl (Yio h.graph.events) q) (fun _ q => OInv h.graph.events q) (by omega) (fun i q hi hq => by
  have hs := hm.ok _ (Wm hi)
  have hs6 := hm.slen hs
  have hev : ∀ x ∈ ls[i], ∃ e, evAt h.graph.events x.id = some e := fun x hx => by obtain ⟨e, he, _⟩ := hs.ev x hx; exact ⟨e, he⟩
  refine ⟨?_, (OInv.fold hq hev).1⟩
  simp only [Zfy]
  have inner := Ydc (l := ls[i]) (step := fun z : List Y9j × List (Int × Bool) × Int => Zfx h ls[i] z.1 z.2.1 z.2.2) (fun (q : List Y9j × List (Int × Bool)) j => (q.1, q.2, j)) (fun q => q) (Yio h.graph.events) (fun _ q => OInv h.graph.events q) (by omega) (fun j q hj hq => by
   obtain ⟨e, he⟩ := hev _ (Wm hj)
   refine ⟨?_, (hq.step he).1⟩
   have hql := hq.len
   have := hm.fits.len
   simp only [Zfx]
   rw [dlt hj, Wu, Ycv hj, Wb]
   simp only [Zfv, Zfw, Ycw hj (by omega : ls[i].length < 9223372036854775807)]
   unfold Yio
   cases Option.getD (mget q.2 ls[i][j].id) false with
   | true => rfl
   | false =>
    rw [Wv, c_at _ _ hm.fits.up (by omega), Wb, Yii (by simp; omega), Wb]; rfl)
   (fun q _ => by simp only [Zfx]; rw [dnlt, Wv]) (s := q) hq
  rw [dlt hi, Wu, Ycv hi, Wb, inner.1, Wb]
  simp only [Zfu, Ycw hi (by omega : ls.length < 9223372036854775807)])
  (fun q _ => by simp only [Zfy]; rw [dnlt, Wv]) (s := ([], metI (comI ls))) ⟨.nil, fun e he => by cases he⟩
 have h3' := h3.1
 simp only at h3'
 rw [show (comI ls).foldl (fun m x => mset m x.id true) [] = metI (comI ls) from rfl, h3', Wb]
 have e4 : (ls.foldl (fun q s => s.foldl (Yio h.graph.events) q) ([], metI (comI ls))).1 = Yiq h.graph.events ls := by unfold Yiq; rw [Yid]
 rw [e4]
 unfold Zft
 rw [r1, Wb, Yih hm]
 have hrl : r.length ≤ 60 := by rw [r2.length_eq]; exact o2
 rw [Zkf hm (fun e he => ((o3 e).1 (r2.mem_iff.1 he)).1) (by omega) hR.ok]
 rfl


def dmR (l : List Y9j) (e : Y9j) : Int := dOf l (Yep l) e.id
def evD (l : List Y9j) (id : Int) : Y9j := (evAt l id).getD zEv

theorem Yiw {l : List Y9j} {id : Int} (h : id ∈ l.map (·.id)) (hu : Up2 l) : evAt l id = some (evD l id) ∧ evD l id ∈ l ∧ (evD l id).id = id := by
 obtain ⟨e, he, rfl⟩ := List.mem_map.1 h
 have := hu.evAt_mem he
 unfold evD
 rw [this]
 exact ⟨rfl, he, rfl⟩

theorem Yix {dm : Y9j → Int} {x y : Int} {ea eb : Y9j} (hx : dm ea = x) (hy : dm eb = y) :
  cond (hv ea == hv eb) (cond (x != y) (some (decide (x < y))) (cond (ea.time != eb.time) (some (decide (ea.time < eb.time))) (some (decide (ea.id < eb.id))))) ((some (hv ea)).bind fun r => some r) = some (decide (Lt3 dm ea eb)) := by
 have hnn : ∀ e, (hv e = true ∧ hn e = 0) ∨ (hv e = false ∧ hn e = 1) := fun e => by unfold hn; cases hv e <;> simp
 have hc : hn ea = hn eb → cond (x != y) (some (decide (x < y))) (cond (ea.time != eb.time) (some (decide (ea.time < eb.time))) (some (decide (ea.id < eb.id)))) = some (decide (Lt3 dm ea eb)) := fun he => by
  rw [bned, bned]
  by_cases h1 : x = y
  ·
   rw [Wt h1]
   by_cases h2 : ea.time = eb.time
   ·
    rw [Wt h2]
    exact congrArg some (decide_eq_decide.2 (by unfold Lt3; omega))
   ·
    rw [Wf h2]
    exact congrArg some (decide_eq_decide.2 (by unfold Lt3; omega))
  ·
   rw [Wf h1]
   exact congrArg some (decide_eq_decide.2 (by unfold Lt3; omega))
 rcases hnn ea with ⟨p1, p2⟩ | ⟨p1, p2⟩ <;> rcases hnn eb with ⟨q1, q2⟩ | ⟨q1, q2⟩ <;> rw [p1, q1]
 ·
  exact hc (by omega)
 ·
  exact congrArg some (Wt (by unfold Lt3; omega)).symm
 ·
  exact congrArg some (Wf (by unfold Lt3; omega)).symm
 ·
  exact hc (by omega)

theorem Yiy {g : Y9k} {ls : List (List Y9m)} (hm : Mrg g ls) {a b : Int} (ha : a ∈ g.events.map (·.id)) (hb : b ∈ g.events.map (·.id)) : Z68 g (Yep g.events) a b = some (decide (Lt3 (dmR g.events) (evD g.events a) (evD g.events b))) := by
 have hfl := hm.fits.len
 obtain ⟨a1, a2, a3⟩ := Yiw ha hm.fits.up
 obtain ⟨b1, b2, b3⟩ := Yiw hb hm.fits.up
 have hd := (Yev hm.fits).2.len
 have da := (Yeq hd (Ydx a2)).1
 have db := (Yeq hd (Ydx b2)).1
 rw [a3] at da; rw [b3] at db
 unfold Z68
 rw [Yds _ _ (by omega), Wb, Yds _ _ (by omega), Wb, (Yh4 a1).1, Wb, (Yh4 b1).1, Wb]
 unfold Z67
 rw [show ∀ e : Y9j, Y9j.mk e.id e.room e.author e.kind e.key e.n e.text e.prev e.time = e from fun _ => rfl, show ∀ e : Y9j, Y9j.mk e.id e.room e.author e.kind e.key e.n e.text e.prev e.time = e from fun _ => rfl]
 rw [Yik, Wb, Yik, Wb, da, Wb, db, Wb]
 exact Yix (by unfold dmR; rw [a3]) (by unfold dmR; rw [b3])

theorem Yiz {g : Y9k} {ls : List (List Y9m)} (hm : Mrg g ls) {ids : List Int} (hids : ∀ n ∈ ids, n ∈ g.events.map (·.id)) (hup : UpI ids) (hl : ids.length ≤ 1000) :
  ∃ od : List Int, iter (fun z : List Int × Int => Z76 g (Yep g.events) ids z.1 z.2) big ([], 0) = some od ∧ od.Perm ids ∧ od.Pairwise fun a b => Lt3 (dmR g.events) (evD g.events a) (evD g.events b) := by
 obtain ⟨o, h1, h2⟩ := Yct (τ := List Int × Int) (ω := List Int) (σ := List Int) (step := fun z : List Int × Int => Z76 g (Yep g.events) ids z.1 z.2) (n := ids.length) (fun s j => (s, j))
  (fun i s => s.Perm (ids.take i) ∧ s.Pairwise fun a b => Lt3 (dmR g.events) (evD g.events a) (evD g.events b)) (fun od => od.Perm ids ∧ od.Pairwise fun a b => Lt3 (dmR g.events) (evD g.events a) (evD g.events b)) (by omega) (by
  rintro i s hi ⟨hp, hs⟩
  have hsl : s.length = i := by rw [hp.length_eq]; simp; omega
  have hx := hids _ (Wm hi)
  have hsm : ∀ n ∈ s, n ∈ g.events.map (·.id) := fun n hn => hids n (List.mem_of_mem_take (hp.mem_iff.1 hn))
  have hne : ∀ n ∈ s, n < ids[i] := fun n hn => by
   obtain ⟨j, hj, hji, rfl⟩ := Yfd (hp.mem_iff.1 hn)
   exact List.pairwise_iff_getElem.1 hup j i hj hi hji
  obtain ⟨k, k1, k2, k3, k4⟩ := Y51 (step := Z75 g (Yep g.events) ids s (i : Int)) (p := fun o => ∃ k : Nat, o = (k : Int) ∧ k ≤ s.length ∧ (∀ y ∈ s.take k, Lt3 (dmR g.events) (evD g.events y) (evD g.events ids[i])) ∧ ∀ y ∈ s.drop k, Lt3 (dmR g.events) (evD g.events ids[i]) (evD g.events y))
   (fun m (z : Int) => ∃ k : Nat, z = (k : Int) ∧ k ≤ s.length ∧ (∀ y ∈ s.drop k, Lt3 (dmR g.events) (evD g.events ids[i]) (evD g.events y)) ∧ m = k) (by
   rintro k z ⟨k', rfl, hk, hd, rfl⟩
   simp only [Z75, Z74]
   cases k with
   | zero =>
    left
    exact ⟨_, rfl, 0, rfl, by omega, by simp, hd⟩
   | succ k =>
    have hks : k < s.length := by omega
    rw [Wt (by omega), Wu, Ycv hi, Wb, Ycx (by omega) (by omega), Nat.add_sub_cancel, Ycv hks, Wb, Yiy hm hx (hsm _ (Wm hks)), Wb]
    by_cases hlt : Lt3 (dmR g.events) (evD g.events ids[i]) (evD g.events s[k])
    ·
     right
     rw [Wt hlt, Wu]
     refine ⟨_, k, rfl, by omega, k, rfl, by omega, fun y hy => ?_, rfl⟩
     rw [List.drop_eq_getElem_cons hks] at hy
     rcases List.mem_cons.1 hy with rfl | hy
     ·
      exact hlt
     ·
      exact hd y hy
    ·
     left
     rw [Wf hlt, Wv]
     refine ⟨_, rfl, k + 1, rfl, hk, fun y hy => ?_, hd⟩
     have hkx : Lt3 (dmR g.events) (evD g.events s[k]) (evD g.events ids[i]) := by
      have h4 := hne _ (Wm hks)
      have e1 := (Yiw hx hm.fits.up).2.2
      have e2 := (Yiw (hsm _ (Wm hks)) hm.fits.up).2.2
      unfold Lt3 at hlt ⊢
      omega
     obtain ⟨j, hj, hjk, rfl⟩ := Yfd hy
     by_cases hjk2 : j = k
     ·
      subst hjk2; exact hkx
     ·
      have h5 := List.pairwise_iff_getElem.1 hs j k hj hks (by omega)
      unfold Lt3 at h5 hkx ⊢; omega) big s.length (s.length : Int) ⟨s.length, rfl, Nat.le_refl _, by simp, rfl⟩ (Ycq (by omega))
  obtain ⟨k, rfl, k5, k6⟩ : ∃ k', k = ((k' : Nat) : Int) ∧ k' = k2 ∧ True := ⟨k2, k3, rfl, trivial⟩
  subst k5
  obtain ⟨hk, hb, ha⟩ := k4
  refine ⟨s.take k ++ ids[i] :: s.drop k, ?_, ?_, ?_⟩
  ·
   simp only [Z76]
   rw [dlt hi, Wu, k1, Wb]
   simp only [Z73, Int.toNat_natCast]
   rw [Y4z (Wt (by omega)), Wb, Y4z (Wt (by omega)), Wb, chk8 (by simp; omega), Wb, Ycv hi, Wb, chk8 (by simp; omega), Wb, Wb, Wb, chk8 (by simp; omega), Wb, Ycw hi (by omega)]
   simp
  ·
   refine List.perm_middle.trans ?_
   rw [List.take_append_drop, List.take_add_one, We hi]
   refine (hp.cons _).trans ?_
   exact (List.perm_append_comm (l₁ := [ids[i]]) (l₂ := ids.take i))
  ·
   have hs' := hs
   rw [← List.take_append_drop k s] at hs'
   obtain ⟨s1, s2, s3⟩ := Yf6.1 hs'
   refine Yf6.2 ⟨s1, List.pairwise_cons.2 ⟨ha, s2⟩, fun y hy z hz => ?_⟩
   rcases List.mem_cons.1 hz with rfl | hz
   ·
    exact hb y hy
   ·
    exact s3 y hy z hz) (by
  rintro s ⟨hp, hs⟩
  simp only [Z76]
  rw [dnlt, Wv]
  rw [List.take_length] at hp
  exact ⟨s, rfl, hp, hs⟩) (s := []) ⟨by simp, .nil⟩
 exact ⟨o, h1, h2.1, h2.2⟩

def resOf (g : Y9k) (ls : List (List Y9m)) : List Y9m := (Z7c g (Yep g.events) ls).getD []

def Yj0 (h : Y9p) : Prop := ∀ e ∈ h.graph.events, mget h.depth e.id = some (dmR h.graph.events e)

theorem Zkh {g : Y9k} {ls : List (List Y9m)} (hm : Mrg g ls) : ∃ od : List Int, Z7c g (Yep g.events) ls = some ((od.map (evD g.events)).foldl (layE g) (Yic ls).1) ∧ od.Perm (Yic ls).2 ∧ od.Pairwise fun a b => Lt3 (dmR g.events) (evD g.events a) (evD g.events b) := by
 obtain ⟨e1, hR⟩ := Yif hm
 have hl := hR.len hm.fits.len
 have hfl := hm.fits.len
 obtain ⟨od, o1, o2, o3⟩ := Yiz hm hR.ids hR.up (by omega)
 refine ⟨od, ?_, o2, o3⟩
 unfold Z7c
 rw [e1, Wb]
 simp only [Z77]
 rw [o1, Wb]
 simp only [Z72]
 have hodl : od.length ≤ 60 := by rw [o2.length_eq]; exact hl.2
 have := Ydc (l := od) (step := fun z : List Y9m × Int => Z71 g od z.1 z.2) (fun q j => (q, j)) (fun q => q) (fun q n => layE g q (evD g.events n)) (fun _ q => StOk g.events q) (by omega) (fun i q hi hq => by
  have hn := hR.ids _ (o2.mem_iff.1 (Wm hi))
  obtain ⟨a1, a2, a3⟩ := Yiw hn hm.fits.up
  refine ⟨?_, Yis (es := [evD g.events od[i]]) hm.fits.up hq (by simpa using a2)⟩
  have hql := hm.slen hq
  simp only [Z71]
  rw [dlt hi, Wu, Ycv hi, Wb, Yds _ _ (by omega), Wb, (Yh4 a1).1, Wb]
  simp only [Z70]
  rw [show ∀ e : Y9j, Y9j.mk e.id e.room e.author e.kind e.key e.n e.text e.prev e.time = e from fun _ => rfl, (Yhf (hm.sts hq) (hm.ev _ a2).ask).1, Wb, beqd]
  simp only [Z6z, Ycw hi (by omega : od.length < 9223372036854775807)]
  unfold layE putE
  by_cases ha : alw g q (evD g.events od[i]) = 0
  ·
   rw [Wt ha, Wu, if_pos ha, Ygo hq.up _ (by omega)]; rfl
  ·
   rw [Wf ha, Wv, if_neg ha])
  (fun q _ => by simp only [Z71]; rw [dnlt, Wv]) (s := (Yic ls).1) hR.ok
 rw [this.1, Wb]
 simp only [Z6y]
 rw [List.foldl_map]

theorem Yj1 {h : Y9p} {ls : List (List Y9m)} (hm : Mrg h.graph ls) (hk : Yj0 h) : Z7c h.graph (Yep h.graph.events) ls = some (resOf h.graph ls) ∧ Zg4 h ls = some (resOf h.graph ls) ∧ StOk h.graph.events (resOf h.graph ls) := by
 obtain ⟨od, a1, a2, a3⟩ := Zkh hm
 obtain ⟨r, b1, b2, b3⟩ := Zkg hm
 have hR := (Yif hm).2
 obtain ⟨o1, o2, o3⟩ := Yir hm
 have hrm : ∀ e ∈ r, e ∈ h.graph.events := fun e he => ((o3 e).1 (b2.mem_iff.1 he)).1
 have hod : ∀ n ∈ od, n ∈ h.graph.events.map (·.id) := fun n hn => hR.ids n (a2.mem_iff.1 hn)
 have hsame : od.map (evD h.graph.events) = r := by
  refine List.Perm.eq_of_pairwise (le := Lt3 (dmR h.graph.events)) (fun a b _ _ h1 h2 => by unfold Lt3 at h1 h2; omega) (List.pairwise_map.2 a3) ?_ ?_
  ·
   refine List.Pairwise.imp_of_mem (fun {a b} ha hb hab => ?_) b3
   have e1 : ∀ e ∈ r, dmI h e = dmR h.graph.events e := fun e he => by unfold dmI; rw [hk e (hrm e he)]; rfl
   unfold Lt3 at hab ⊢
   rw [e1 a ha, e1 b hb] at hab
   exact hab
  ·
   have n1 : (od.map (evD h.graph.events)).Nodup := by
    rw [List.nodup_iff_pairwise_ne, List.pairwise_map]
    refine a3.imp fun {a b} hab he => ?_
    rw [he] at hab
    unfold Lt3 at hab; omega
   have n2 : r.Nodup := by
    rw [List.nodup_iff_pairwise_ne]
    refine b3.imp fun {a b} hab he => ?_
    rw [he] at hab
    unfold Lt3 at hab; omega
   rw [List.perm_ext_iff_of_nodup n1 n2]
   intro e
   rw [b2.mem_iff, o3, List.mem_map]
   constructor
   ·
    rintro ⟨n, hn, rfl⟩
    obtain ⟨_, c2, c3⟩ := Yiw (hod n hn) hm.fits.up
    exact ⟨c2, by rw [c3]; exact a2.mem_iff.1 hn⟩
   ·
    rintro ⟨h1, h2⟩
    refine ⟨e.id, a2.mem_iff.2 h2, ?_⟩
    unfold evD
    rw [hm.fits.up.evAt_mem h1]; rfl
 have e : resOf h.graph ls = r.foldl (layE h.graph) (Yic ls).1 := by unfold resOf; rw [a1, hsame]; rfl
 rw [e]
 exact ⟨by rw [a1, hsame], b1, Yis hm.fits.up hR.ok hrm⟩
end Go.Proofs.YtomachnjepgpbaaGreat
namespace Go.Proofs.YtomachnjepgpbaaGreat
open Go Go.Abs

inductive Bf (l : List Y9j) (a : Int) : List Int → List Int → Bool → Prop
 | nil (seen : List Int) : Bf l a seen [] false
 | hit (seen r : List Int) : Bf l a seen (a :: r) true
 | skip (seen r : List Int) (id : Int) (b : Bool) : id ≠ a → id ∈ seen → Bf l a seen r b → Bf l a seen (id :: r) b
 | more (seen r : List Int) (id : Int) (b : Bool) : id ≠ a → id ∉ seen → Bf l a (id :: seen) (r ++ (evD l id).prev) b → Bf l a seen (id :: r) b

theorem Bf.det {l : List Y9j} {a : Int} {seen todo : List Int} {b1 b2 : Bool} (h1 : Bf l a seen todo b1) (h2 : Bf l a seen todo b2) : b1 = b2 := by
 induction h1 with
 | nil => cases h2; rfl
 | hit => cases h2 <;> first | rfl | contradiction
 | skip _ _ _ _ n1 m1 _ ih =>
  cases h2 with
  | hit => exact absurd rfl n1
  | skip _ _ _ _ _ _ h => exact ih h
  | more _ _ _ _ _ m2 _ => exact absurd m1 m2
 | more _ _ _ _ n1 m1 _ ih =>
  cases h2 with
  | hit => exact absurd rfl n1
  | skip _ _ _ _ _ m2 _ => exact absurd m2 m1
  | more _ _ _ _ _ _ h => exact ih h

def Yj2 (l : List Y9j) (seen : List Int) : Nat := l.countP fun e => !decide (e.id ∈ seen)
theorem Yj3 {l : List Y9j} {seen : List Int} {id : Int} (hi : id ∈ l.map (·.id)) (hn : id ∉ seen) : Yj2 l (id :: seen) < Yj2 l seen := by
 have key : ∀ l : List Y9j, Yj2 l (id :: seen) ≤ Yj2 l seen ∧ (id ∈ l.map (·.id) → Yj2 l (id :: seen) < Yj2 l seen) := by
  intro l
  unfold Yj2
  induction l with
  | nil => simp
  | cons e l ih =>
   obtain ⟨i1, i2⟩ := ih
   by_cases he : e.id = id
   ·
    rw [List.countP_cons_of_neg (by simp [he]), List.countP_cons_of_pos (by simp [he, hn])]
    exact ⟨by omega, fun _ => by omega⟩
   ·
    by_cases hs : e.id ∈ seen
    ·
     rw [List.countP_cons_of_neg (by simp [hs]), List.countP_cons_of_neg (by simp [hs])]
     refine ⟨i1, fun h => i2 ?_⟩
     simp only [List.map_cons, List.mem_cons] at h
     exact h.resolve_left fun h => he h.symm
    ·
     rw [List.countP_cons_of_pos (by simp [hs, he]), List.countP_cons_of_pos (by simp [hs])]
     refine ⟨by omega, fun h => ?_⟩
     simp only [List.map_cons, List.mem_cons] at h
     have := i2 (h.resolve_left fun h => he h.symm)
     omega
 exact (key l).2 hi
theorem Yj4 (l : List Y9j) (seen : List Int) : Yj2 l seen ≤ l.length := List.countP_le_length

structure Walk (g : Y9k) : Prop where
 fits : Fits g.events
 ev : ∀ e ∈ g.events, EvOk e

theorem Walk.prev {g : Y9k} (h : Walk g) {id : Int} (hi : id ∈ g.events.map (·.id)) : (evD g.events id).prev.length ≤ 4 ∧ ∀ p ∈ (evD g.events id).prev, p ∈ g.events.map (·.id) := by
 obtain ⟨_, h2, _⟩ := Yiw hi h.fits.up
 refine ⟨(h.ev _ h2).prev.1, fun p hp => ?_⟩
 obtain ⟨e, he, hid⟩ := Ydy.1 (h.fits.whole _ h2 p hp)
 exact List.mem_map.2 ⟨e, he, hid⟩

theorem Yj5 {l : List Y9j} {id : Int} : hasE l id = true ↔ id ∈ l.map (·.id) := by rw [Ydy, List.mem_map]

theorem Zki {g : Y9k} (h : Walk g) (a : Int) {e : Y9j} (he : e ∈ g.events) : ∃ b, Zgc g a e = some b ∧ Bf g.events a [] e.prev b := by
 have hfl := h.fits.len
 have hev : evD g.events e.id = e := by unfold evD; rw [h.fits.up.evAt_mem he]; rfl
 have hpe := h.prev (List.mem_map.2 ⟨e, he, rfl⟩)
 rw [hev] at hpe
 unfold Zgc
 have hcl : Zg6 e.prev = some e.prev := by unfold Zg6; rw [chk8 (by omega)]; rfl
 rw [hcl, Wb]
 obtain ⟨o, h1, h2⟩ := Y51 (step := fun z : List (Int × Bool) × List Int × Int => Zgb g a z.1 z.2.1 z.2.2) (p := fun o : Bool ⊕ Unit => ∃ b, Bf g.events a [] e.prev b ∧ ((o = .inl true ∧ b = true) ∨ (o = .inr () ∧ b = false)))
  (fun k (z : List (Int × Bool) × List Int × Int) => ∃ (seen : List Int) (at_ : Nat), z.2.2 = (at_ : Int) ∧ at_ ≤ z.2.1.length ∧ (∀ id, Option.getD (mget z.1 id) false = true ↔ id ∈ seen) ∧ (∀ id ∈ z.2.1, id ∈ g.events.map (·.id)) ∧ z.2.1.length + 5 * Yj2 g.events seen ≤ 400 ∧ (∀ b, Bf g.events a seen (z.2.1.drop at_) b → Bf g.events a [] e.prev b) ∧ k = (z.2.1.length - at_) + 5 * Yj2 g.events seen) (by
  rintro k ⟨m, q, x⟩ ⟨seen, at_, hx, hat, hm, hq, hb, hB, hk⟩
  simp only at hx hat hm hq hb hB hk
  subst hx
  simp only [Zgb]
  by_cases hlt : at_ < q.length
  ·
   rw [dlt hlt, Wu, Ycv hlt, Wb, beqd]
   rw [List.drop_eq_getElem_cons hlt] at hB
   have hqi := hq _ (Wm hlt)
   generalize q[at_] = id at hB hqi
   by_cases ha : id = a
   ·
    left
    rw [Wt ha, Wu]
    subst ha
    exact ⟨_, rfl, true, hB _ (.hit _ _), .inl ⟨rfl, rfl⟩⟩
   ·
    right
    rw [Wf ha, Wv]
    simp only [Zga, Ycw hlt (by omega : q.length < 9223372036854775807)]
    by_cases hs : Option.getD (mget m id) false = true
    ·
     rw [hs, Wu]
     exact ⟨_, k - 1, rfl, by omega, seen, at_ + 1, rfl, by simp only; omega, hm, hq, hb, fun b h => hB b (.skip _ _ _ _ ha ((hm id).1 hs) h), by simp only; omega⟩
    ·
     rw [Bool.eq_false_iff.2 hs, Wv, c_at _ _ h.fits.up (by omega), Wb]
     have hns : id ∉ seen := fun h => hs ((hm id).2 h)
     have hp := h.prev hqi
     have hu := Yj3 hqi hns
     have e1 : (evAt g.events id).getD zEv = evD g.events id := rfl
     rw [e1, chk8 (by show q.length + (evD g.events id).prev.length < 1000000000; omega), Wb]
     refine ⟨_, (q.length + (evD g.events id).prev.length - (at_ + 1)) + 5 * Yj2 g.events (id :: seen), rfl, by omega, id :: seen, at_ + 1, rfl, by simp; omega, fun id' => ?_, fun id' hid => ?_, by simp; omega, fun b h => hB b ?_, by simp⟩
     ·
      rw [Y6b]
      by_cases h3 : id' = id
      ·
       rw [if_pos h3]; simp [h3]
      ·
       rw [if_neg h3, hm]; simp [h3]
     ·
      rcases List.mem_append.1 hid with hid | hid
      ·
       exact hq _ hid
      ·
       exact hp.2 _ hid
     ·
      refine .more _ _ _ _ ha hns ?_
      simp only at h
      rwa [List.drop_append_of_le_length (by omega)] at h
  ·
   left
   obtain rfl : at_ = q.length := by omega
   rw [dnlt, Wv]
   rw [List.drop_length] at hB
   exact ⟨_, rfl, false, hB _ (.nil _), .inr ⟨rfl, rfl⟩⟩) big (e.prev.length + 5 * Yj2 g.events []) ([], e.prev, 0) ⟨[], 0, rfl, by simp, by simp [mget], hpe.2, by have := Yj4 g.events []; simp only; omega, by simp, by simp⟩ (Ycq (by have := Yj4 g.events []; omega))
 obtain ⟨b, hb, h2⟩ := h2
 rw [h1, Wb]
 rcases h2 with ⟨rfl, rfl⟩ | ⟨rfl, rfl⟩
 ·
  exact ⟨true, rfl, hb⟩
 ·
  exact ⟨false, rfl, hb⟩

theorem Yj6 (e : Y9j) (h : e.prev.length < 1000000) : Z39 e = some e := by
 unfold Z39
 rw [chk8 (by simp; omega), Wb]
 rfl

theorem Yj7 {g : Y9k} (hl : g.events.length < 1000000) {e : Y9j} {id : Int} (he : evAt g.events id = some e) (hp : e.prev.length < 1000000) : Z7e g id = some e := by
 unfold Z7e
 obtain ⟨h1, h2⟩ := Yh4 he
 rw [Yds _ _ (by omega), Wb, Wf (by omega), Wv, h1, Wb, Yj6 _ hp]; rfl

theorem Zkj {g : Y9k} (h : Walk g) (a : Int) (ha : a ∈ g.events.map (·.id)) {e : Y9j} (he : e ∈ g.events) : ∃ b, Z7j g a e.id = some b ∧ Bf g.events a [] e.prev b := by
 have hfl := h.fits.len
 have hee := h.fits.up.evAt_mem he
 have hev : evD g.events e.id = e := by unfold evD; rw [hee]; rfl
 have hpe := h.prev (List.mem_map.2 ⟨e, he, rfl⟩)
 rw [hev] at hpe
 unfold Z7j
 rw [Yds _ _ (by omega), Wb, Ydu, Yj5.2 ha, Yds _ _ (by omega), Wb, Ydu, Ydx he]
 simp only [Bool.not_true, Wv, Z7i]
 rw [Y4z (Wt ⟨by omega, by omega⟩), Wb, Yj7 (by omega) hee (by omega), Wb, chk8 (by simp; omega), Wb, Int.toNat_natCast, List.nil_append]
 obtain ⟨o, h1, h2⟩ := Y51 (step := fun z : List Bool × List Int => Z7h g a z.1 z.2) (p := fun o : Bool ⊕ Unit => ∃ b, Bf g.events a [] e.prev b ∧ ((o = .inl true ∧ b = true) ∨ (o = .inr () ∧ b = false)))
  (fun k (z : List Bool × List Int) => ∃ (seen : List Int), z.1.length = g.events.length ∧ (∀ id ∈ g.events.map (·.id), getI z.1 (plc g.events id) = some (decide (id ∈ seen))) ∧ (∀ id ∈ z.2, id ∈ g.events.map (·.id)) ∧ z.2.length + 5 * Yj2 g.events seen ≤ 400 ∧ (∀ b, Bf g.events a seen z.2 b → Bf g.events a [] e.prev b) ∧ k = z.2.length + 5 * Yj2 g.events seen) (by
  rintro k ⟨m, q⟩ ⟨seen, hml, hm, hq, hb, hB, hk⟩
  simp only at hml hm hq hb hB hk
  simp only [Z7h]
  cases q with
  | nil =>
   left
   exact ⟨_, rfl, false, hB _ (.nil _), .inr ⟨rfl, rfl⟩⟩
  | cons id r =>
   have hqi := hq id (by simp)
   obtain ⟨i1, i2, i3⟩ := Yiw hqi h.fits.up
   rw [Wt (by simp <;> omega), Wu, show (0 : Int) = ((0 : Nat) : Int) from rfl, Ycv (by simp), Wb, Y4z (Wt (by simp <;> omega)), Wb, Yds _ _ (by omega), Wb]
   simp only [List.getElem_cons_zero, List.length_cons] at hk hb ⊢
   rw [beqd]
   by_cases ha : id = a
   ·
    left
    rw [Wt ha, Wu]
    subst ha
    exact ⟨_, rfl, true, hB _ (.hit _ _), .inl ⟨rfl, rfl⟩⟩
   ·
    right
    rw [Wf ha, Wv, hm id hqi, Wb]
    by_cases hs : id ∈ seen
    ·
     rw [Wt hs, Wu]
     exact ⟨_, k - 1, rfl, by omega, seen, hml, hm, fun id' h => hq id' (by simp at h; simp [h]), by simp; omega, fun b h => hB b (.skip _ _ _ _ ha hs (by simpa using h)), by simp; omega⟩
    ·
     have hp := h.prev hqi
     have hu := Yj3 hqi hs
     rw [Wf hs, Wv, (Yh4 i1).1, Wb, chk8 (by simp; omega), Wb]
     refine ⟨_, r.length + (evD g.events id).prev.length + 5 * Yj2 g.events (id :: seen), rfl, by omega, id :: seen, by simp [hml], fun id' hid => ?_, fun id' hid => ?_, by simp; omega, fun b h => hB b (.more _ _ _ _ ha hs (by simpa using h)), by simp⟩
     ·
      obtain ⟨p, hpl, p1, p2, p3⟩ := Ydv (Yj5.2 hid)
      obtain ⟨p', hpl', p1', p2', p3'⟩ := Ydv (Yj5.2 hqi)
      rw [p1, p1', Int.toNat_natCast]
      have hm' := hm id' hid
      rw [p1] at hm'
      by_cases h3 : id' = id
      ·
       subst h3
       obtain rfl : p = p' := by omega
       rw [Ycv (by simp; omega)]
       simp
      ·
       have hne : p' ≠ p := fun h => by subst h; exact h3 (p2.symm.trans p2')
       rw [Ycv (by omega)] at hm'
       rw [Ycv (by simp; omega), List.getElem_set_ne hne]
       rw [hm']
       simp [h3]
     ·
      simp at hid
      rcases hid with hid | hid
      ·
       exact hq _ (by simp [hid])
      ·
       exact hp.2 _ hid) big (e.prev.length + 5 * Yj2 g.events []) (List.replicate g.events.length false, e.prev) ⟨[], by simp, fun id hid => by
   obtain ⟨p, hpl, p1, _, _⟩ := Ydv (Yj5.2 hid)
   rw [p1, Ycv (by simpa using hpl)]; simp, hpe.2, by have := Yj4 g.events []; simp only; omega, by simp, by simp⟩ (Ycq (by have := Yj4 g.events []; omega))
 obtain ⟨b, hb, h2⟩ := h2
 rw [h1, Wb]
 rcases h2 with ⟨rfl, rfl⟩ | ⟨rfl, rfl⟩
 ·
  exact ⟨true, rfl, hb⟩
 ·
  exact ⟨false, rfl, hb⟩

theorem Bf.none {g : Y9k} (h : Walk g) {a : Int} (ha : a ∉ g.events.map (·.id)) {seen todo : List Int} {b : Bool} (hb : Bf g.events a seen todo b) (ht : ∀ id ∈ todo, id ∈ g.events.map (·.id)) : b = false := by
 induction hb with
 | nil => rfl
 | hit => exact absurd (ht a (by simp)) ha
 | skip _ _ _ _ _ _ _ ih => exact ih fun id hid => ht id (by simp [hid])
 | more _ r id _ _ _ _ ih =>
  refine ih fun id' hid => ?_
  rcases List.mem_append.1 hid with hid | hid
  ·
   exact ht id' (by simp [hid])
  ·
   exact (h.prev (ht id (by simp))).2 _ hid

theorem Yj8 {g : Y9k} (h : Walk g) (a : Int) {e : Y9j} (he : e ∈ g.events) : ∃ b, Z7j g a e.id = some b ∧ Zgc g a e = some b := by
 obtain ⟨b, h1, h2⟩ := Zki h a he
 by_cases ha : a ∈ g.events.map (·.id)
 ·
  obtain ⟨b', h3, h4⟩ := Zkj h a ha he
  have := h2.det h4
  subst this
  exact ⟨b, h3, h1⟩
 ·
  have hpe := h.prev (List.mem_map.2 ⟨e, he, rfl⟩)
  have hev : evD g.events e.id = e := by unfold evD; rw [h.fits.up.evAt_mem he]; rfl
  rw [hev] at hpe
  have := h2.none h ha hpe.2
  subst this
  refine ⟨false, ?_, h1⟩
  have hfl := h.fits.len
  unfold Z7j
  rw [Yds _ _ (by omega), Wb, Ydu, Bool.eq_false_iff.2 (fun hh => ha (Yj5.1 hh))]
  rfl


def Cons (l : List Y9j) (d : List Int) : Prop := ∀ (i : Nat) (hi : i < l.length), d.getD i 0 > 0 → own l d l[i] = d.getD i 0

theorem Yj9 {l : List Y9j} {d : List Int} {e : Y9j} (h : own l d e > 0) : e.prev.all (fun p => decide (dOf l d p > 0)) = true := by
 unfold own at h
 split at h
 ·
  assumption
 ·
  omega

theorem Yja {f g : Int → Int → Int} : ∀ {l : List Int} {m : Int}, (∀ m, ∀ p ∈ l, f m p = g m p) → l.foldl f m = l.foldl g m
 | [], _, _ => rfl
 | p :: l, m, h => by rw [List.foldl_cons, List.foldl_cons, h m p (by simp)]; exact Yja fun m q hq => h m q (by simp [hq])

theorem Yjb {l : List Y9j} {d : List Int} (hd : d.length = l.length) (hw : Whole l) {i : Nat} {v : Int} (h0 : d.getD i 0 = 0) {e : Y9j} (he : e ∈ l) (h : own l d e > 0) : own l (d.set i v) e = own l d e := by
 have hp := Yj9 h
 have hsame : ∀ p ∈ e.prev, dOf l (d.set i v) p = dOf l d p := fun p hp' => by
  have h1 := Wo (List.all_eq_true.1 hp p hp')
  obtain ⟨k, hk, k1, _, _⟩ := Ydv (hw e he p hp')
  unfold dOf at h1 ⊢
  rw [k1] at h1 ⊢
  have hkd : k < d.length := by omega
  rw [Ycv hkd] at h1
  rw [Ycv (by simpa using hkd), Ycv hkd]
  by_cases hik : i = k
  ·
   subst hik
   simp only [List.getD_eq_getElem?_getD, We hkd, Option.getD_some] at h0
   simp only [Option.getD_some] at h1
   omega
  ·
   rw [List.getElem_set_ne hik]
 unfold own
 have e1 : e.prev.all (fun p => decide (dOf l (d.set i v) p > 0)) = e.prev.all (fun p => decide (dOf l d p > 0)) := by
  rw [Bool.eq_iff_iff, List.all_eq_true, List.all_eq_true]
  constructor
  ·
   intro h2 p hp'; have := h2 p hp'; rwa [hsame p hp'] at this
  ·
   intro h2 p hp'; rw [hsame p hp']; exact h2 p hp'
 rw [e1, Yja fun m p hp' => by rw [hsame p hp']]

theorem Cons.upd {l : List Y9j} {d : List Int} {c i : Nat} (hw : Whole l) (hb : Bd l c d) (hi : i < l.length) (h : Cons l d) : Cons l (updD l d i) := by
 rcases Yex hb hi with h1 | ⟨h1, h2, h3, _⟩
 ·
  rw [h1]; exact h
 ·
  rw [h3]
  have e2 : l.getD i zEv = l[i] := by simp [hi]
  rw [e2] at h2 ⊢
  intro j hj hpos
  have hjd : j < d.length := by rw [hb.len]; exact hj
  have hid : i < d.length := by rw [hb.len]; exact hi
  by_cases hij : i = j
  ·
   subst hij
   rw [Yjb hb.len hw h1 (Wm hi) h2]
   simp [hid]
  ·
   have e3 : (d.set i (own l d l[i])).getD j 0 = d.getD j 0 := by
    simp only [List.getD_eq_getElem?_getD, List.getElem?_set_ne hij]
   rw [e3] at hpos ⊢
   have h4 := h j hj hpos
   rw [Yjb hb.len hw h1 (Wm hj) (by omega)]
   exact h4

theorem Cons.sweep {l : List Y9j} {d : List Int} {c : Nat} (hw : Whole l) (hb : Bd l c d) (h : Cons l d) : Cons l (sweep l d) := by
 unfold Go.Proofs.YtomachnjepgpbaaGreat.sweep
 suffices key : ∀ (r : List Nat) (c : Nat) (d : List Int), (∀ i ∈ r, i < l.length) → Bd l c d → Cons l d → Cons l (r.foldl (updD l) d) from key _ c d (fun i hi => by simpa using hi) hb h
 intro r
 induction r with
 | nil => intro c d _ _ h; exact h
 | cons i r ih =>
  intro c d hr hb h
  rw [List.foldl_cons]
  exact ih (c + 1) _ (fun j hj => hr j (by simp [hj])) (Yet hw hb (hr i (by simp))) (h.upd hw hb (hr i (by simp)))

theorem Yjc {l : List Y9j} (hf : Fits l) : Cons l (Yep l) := by
 unfold Yep
 have hz : Bd l 0 (List.replicate l.length 0) := ⟨by simp, fun x hx => by rw [List.eq_of_mem_replicate hx]; simp⟩
 have key : ∀ k, k ≤ l.length → Cons l (Yeo l k (List.replicate l.length 0)) := by
  intro k
  induction k with
  | zero =>
   intro _ i hi h
   simp [Yeo, hi] at h
  | succ k ih =>
   intro hk
   exact (ih (by omega)).sweep hf.whole (Yf1 hf hz k (by omega))
 exact key _ (Nat.le_refl _)

theorem Yjd (a b : Int) : a ≤ mx2 a b ∧ b ≤ mx2 a b := by unfold mx2; split <;> omega
theorem Yje {l : List Y9j} (hf : Fits l) (hd : Deep l) {e : Y9j} (he : e ∈ l) {p : Int} (hp : p ∈ e.prev) : dOf l (Yep l) p < dOf l (Yep l) e.id := by
 obtain ⟨i, hi, rfl⟩ := List.mem_iff_getElem.1 he
 have hb := (Yev hf).2
 have hid : i < (Yep l).length := by rw [hb.len]; exact hi
 have e1 : dOf l (Yep l) l[i].id = (Yep l)[i] := by
  unfold dOf
  rw [(hf.up.plc hi).1, Ycv hid]; rfl
 have e2 : (Yep l).getD i 0 = (Yep l)[i] := by simp [hid]
 have hpos := hd _ (Wm hid)
 have hc := Yjc hf i hi (by rw [e2]; exact hpos)
 rw [e2] at hc
 rw [e1]
 have ha := Yj9 (l := l) (d := Yep l) (e := l[i]) (by omega)
 unfold own at hc
 rw [if_pos ha] at hc
 have hmx : ∀ (ps : List Int) (m : Int), p ∈ ps → dOf l (Yep l) p ≤ ps.foldl (fun m p => mx2 m (dOf l (Yep l) p)) m := by
  intro ps
  have hmono : ∀ (ps : List Int) (m : Int), m ≤ ps.foldl (fun m p => mx2 m (dOf l (Yep l) p)) m := by
   intro ps
   induction ps with
   | nil => intro m; exact Int.le_refl _
   | cons q ps ih => intro m; rw [List.foldl_cons]; have := ih (mx2 m (dOf l (Yep l) q)); have := (Yjd m (dOf l (Yep l) q)).1; omega
  induction ps with
  | nil => intro m h; cases h
  | cons q ps ih =>
   intro m h
   rw [List.foldl_cons]
   rcases List.mem_cons.1 h with rfl | h
   ·
    have := hmono ps (mx2 m (dOf l (Yep l) p)); have := (Yjd m (dOf l (Yep l) p)).2; omega
   ·
    exact ih _ h
 have := hmx _ 0 hp
 omega
end Go.Proofs.YtomachnjepgpbaaGreat
namespace Go.Proofs.YtomachnjepgpbaaGreat
open Go Go.Abs

theorem Yjf {τ1 τ2 ω1 ω2 σ1 σ2 : Type} {step1 : τ1 → Option (τ1 ⊕ ω1)} {step2 : τ2 → Option (τ2 ⊕ ω2)} {n : Nat} (emb1 : σ1 → Int → τ1) (emb2 : σ2 → Int → τ2) (I : Nat → σ1 → σ2 → Prop) (Q : ω1 → ω2 → Prop) (hn : n < 9223372036854775807)
  (h1 : ∀ (i : Nat) (s : σ1) (t : σ2), i < n → I i s t → ∃ s' t', step1 (emb1 s i) = some (.inl (emb1 s' ((i + 1 : Nat) : Int))) ∧ step2 (emb2 t i) = some (.inl (emb2 t' ((i + 1 : Nat) : Int))) ∧ I (i + 1) s' t')
  (h2 : ∀ s t, I n s t → ∃ o o', step1 (emb1 s n) = some (.inr o) ∧ step2 (emb2 t n) = some (.inr o') ∧ Q o o') {s : σ1} {t : σ2} (h0 : I 0 s t) :
  ∃ o o', iter step1 big (emb1 s 0) = some o ∧ iter step2 big (emb2 t 0) = some o' ∧ Q o o' := by
 have key : ∀ m i k : Nat, ∀ s t, i + m = n → m < k → I i s t → ∃ o o', iter step1 k (emb1 s i) = some o ∧ iter step2 k (emb2 t i) = some o' ∧ Q o o' := by
  intro m
  induction m with
  | zero =>
   intro i k s t hm hk hi
   obtain ⟨k, rfl⟩ : ∃ k', k = k' + 1 := ⟨k - 1, by omega⟩
   obtain rfl : i = n := by omega
   obtain ⟨o, o', e1, e2, hq⟩ := h2 s t hi
   exact ⟨o, o', by rw [iter, e1]; rfl, by rw [iter, e2]; rfl, hq⟩
  | succ m ih =>
   intro i k s t hm hk hi
   obtain ⟨k, rfl⟩ : ∃ k', k = k' + 1 := ⟨k - 1, by omega⟩
   obtain ⟨s', t', e1, e2, hi'⟩ := h1 i s t (by omega) hi
   obtain ⟨o, o', f1, f2, hq⟩ := ih (i + 1) k s' t' (by omega) (by omega) hi'
   exact ⟨o, o', by rw [iter, e1]; exact f1, by rw [iter, e2]; exact f2, hq⟩
 exact key n 0 big s t (by omega) (Ycq (by omega)) h0


theorem Yjg {l : List Y9j} {k : Nat} (hk : k < l.length) : idPl l (k : Int) = l[k].id := by unfold idPl; simp [hk]
theorem Yjh {l : List Y9j} (hf : Fits l) {k : Nat} (hk : k < l.length) : dd (Yep l) (k : Int) = dOf l (Yep l) l[k].id := by
 have hb := (Yev hf).2
 have hkd : k < (Yep l).length := by rw [hb.len]; exact hk
 unfold dd dOf
 rw [(hf.up.plc hk).1, Ycv hkd]
 simp [hkd]

theorem Yji {l : List Y9j} (hf : Fits l) {k : Nat} (hk : k < l.length) : (k : Int) ∈ Yfx l := by
 refine (Yfz hf).2.1.mem_iff.2 ?_
 unfold idt
 exact List.mem_map.2 ⟨k, List.mem_range'_1.2 ⟨by omega, by omega⟩, rfl⟩

theorem Yjj {l : List Y9j} (hf : Fits l) : (Yfy l).length = l.length := by unfold Yfy; rw [List.length_map, Yg1 hf]
theorem Yjk {l : List Y9j} (hf : Fits l) {id : Int} : id ∈ Yfy l ↔ id ∈ l.map (·.id) := by
 unfold Yfy
 rw [List.mem_map, List.mem_map]
 constructor
 ·
  rintro ⟨x, hx, rfl⟩
  obtain ⟨k, rfl, hk⟩ := Yg0 hf hx
  exact ⟨l[k], Wm hk, (Yjg hk).symm⟩
 ·
  rintro ⟨e, he, rfl⟩
  obtain ⟨k, hk, rfl⟩ := List.mem_iff_getElem.1 he
  exact ⟨(k : Int), Yji hf hk, Yjg hk⟩
theorem Yjl {l : List Y9j} (hf : Fits l) : (Yfy l).Nodup := by
 unfold Yfy
 rw [List.nodup_iff_pairwise_ne, List.pairwise_map]
 refine List.Pairwise.imp_of_mem (fun {a b} ha hb hab he => ?_) (Yfz hf).2.2
 obtain ⟨i, rfl, hi⟩ := Yg0 hf ha
 obtain ⟨j, rfl, hj⟩ := Yg0 hf hb
 rw [Yjg hi, Yjg hj] at he
 obtain rfl := hf.up.inj hi hj he
 unfold Lt2 at hab; omega

theorem Yjm {l : List Y9j} {i : Nat} (h1 : i < (Yfx l).length) (h2 : i < (Yfy l).length) : (Yfy l)[i] = idPl l (Yfx l)[i] := List.getElem_map _
theorem Yjn {l : List Y9j} (hf : Fits l) (hd : Deep l) {i : Nat} (hi : i < (Yfy l).length) {e : Y9j} (he : evAt l (Yfy l)[i] = some e) {p : Int} (hp : p ∈ e.prev) : p ∈ (Yfy l).take i := by
 obtain ⟨hel, hid⟩ := Ydz he
 obtain ⟨f, hfl, hfid⟩ := Ydy.1 (hf.whole e hel p hp)
 obtain ⟨k, hk, rfl⟩ := List.mem_iff_getElem.1 hfl
 obtain ⟨u, hu, huk⟩ := List.mem_iff_getElem.1 (Yji hf hk)
 have hlt := Yje hf hd hel hp
 have hil : i < (Yfx l).length := by rw [Yg1 hf]; rw [Yjj hf] at hi; exact hi
 obtain ⟨x, hx, hxl⟩ := Yg0 hf (Wm hil)
 have e1 : (Yfy l)[i] = l[x].id := by
  rw [Yjm hil hi, hx, Yjg hxl]
 have d1 := Yjh hf hxl
 have d2 := Yjh hf hk
 rw [← e1, ← hid] at d1
 rw [hfid] at d2
 have hui : u < i := by
  rcases Nat.lt_trichotomy u i with h | h | h
  ·
   exact h
  ·
   subst h
   rw [hx] at huk
   have : x = k := by omega
   subst this
   omega
  ·
   have := List.pairwise_iff_getElem.1 (Yfz hf).2.2 i u hil hu h
   rw [hx, huk] at this
   unfold Lt2 at this; omega
 have hul : u < (Yfy l).length := by omega
 have e2 : (Yfy l)[u] = p := by
  rw [Yjm hu hul, huk, Yjg hk, hfid]
 have : ((Yfy l).take i)[u]'(by simp; omega) = p := by simp [e2]
 rw [← this]
 exact Wm _


def Yjo (g : Y9k) (a : Int) (e : Y9j) : Bool := (Zgc g a e).getD false
def Yjp (g : Y9k) (s : List Y9m) (e : Y9j) : Int := if alw g s e = 0 ∧ e.kind = 8 ∧ Yjo g e.key e = false then 6 else alw g s e
def nextOf (g : Y9k) (s : List Y9m) (e : Y9j) : List Y9m := if Yjp g s e = 0 ∧ e.kind ≤ 6 then putE s e else s

theorem Yjq {g : Y9k} (hu : Up2 g.events) {s : List Y9m} (hs : StOk g.events s) {e : Y9j} (he : e ∈ g.events) : StOk g.events (nextOf g s e) := by
 unfold nextOf
 split
 ·
  exact hs.put (hu.evAt_mem he)
 ·
  exact hs

structure Yjr (g : Y9k) (ls : Int → List Y9m) (B A : List (Int × List Y9m)) (R : List (Int × Int)) (ah bh : List (List Y9m)) (cd : List Int) (e : Y9j) : Prop where
 ok : StOk g.events (resOf g (e.prev.map ls))
 mB : mget B e.id = some (resOf g (e.prev.map ls))
 mR : mget R e.id = some (Yjp g (resOf g (e.prev.map ls)) e)
 mA : mget A e.id = some (nextOf g (resOf g (e.prev.map ls)) e)
 ga : getI ah (plc g.events e.id) = some (resOf g (e.prev.map ls))
 gc : getI cd (plc g.events e.id) = some (Yjp g (resOf g (e.prev.map ls)) e)
 gb : getI bh (plc g.events e.id) = some (nextOf g (resOf g (e.prev.map ls)) e)

def behI (A : List (Int × List Y9m)) (id : Int) : List Y9m := Option.getD (mget A id) []

structure Yjs (g : Y9k) : Prop where
 fits : Fits g.events
 ev : ∀ e ∈ g.events, EvOk e
 deep : Deep g.events
theorem GOk.right {g : Y9k} (h : GOk g) : Yjs g := ⟨h.fits, fun e he => (h.ev e he).1, h.deep⟩
theorem Yjs.walk {g : Y9k} (h : Yjs g) : Walk g := ⟨h.fits, h.ev⟩

theorem Yjt {g : Y9k} (h : Yjs g) (a : Int) {e : Y9j} (he : e ∈ g.events) : Z7j g a e.id = some (Yjo g a e) ∧ Zgc g a e = some (Yjo g a e) := by
 obtain ⟨b, h1, h2⟩ := Yj8 h.walk a he
 unfold Yjo
 rw [h1, h2]
 exact ⟨rfl, rfl⟩

theorem Yju {α : Type} {l : List α} {k j : Nat} {v : α} (hk : k < l.length) : getI (l.set k v) (j : Int) = if j = k then some v else getI l (j : Int) := by
 have h0 : (0 : Int) ≤ (j : Int) := by omega
 simp only [getI, h0, if_true, Int.toNat_natCast]
 by_cases h : j = k
 ·
  subst h; rw [if_pos rfl, List.getElem?_set_self hk]
 ·
  rw [if_neg h, List.getElem?_set_ne (by omega)]

theorem Zkk {h : Y9p} (hr : Yjs h.graph) (hk : Yj0 h) {e : Y9j} (he : e ∈ h.graph.events) (hpl : ∀ p ∈ e.prev, StOk h.graph.events (behI h.after p)) :
  Zgh h e = some (mset h.before e.id (resOf h.graph (e.prev.map (behI h.after))), mset h.after e.id (nextOf h.graph (resOf h.graph (e.prev.map (behI h.after))) e), mset h.refused e.id (Yjp h.graph (resOf h.graph (e.prev.map (behI h.after))) e)) := by
 have hp4 := (hr.ev e he).prev.1
 have hst : Zdu h e.prev = some (e.prev.map (behI h.after)) := by
  unfold Zdu
  have := Ydc (l := e.prev) (step := fun z : List (List Y9m) × Int => Zdt h e.prev z.1 z.2) (fun q j => (q, j)) (fun q => q) (fun q p => q ++ [behI h.after p]) (fun i q => q.length = i) (by omega) (fun i q hi hq => by
   refine ⟨?_, by simp [hq]⟩
   simp only [Zdt]
   rw [dlt hi, Wu, Ycv hi, Wb, Ygl (by simp; omega), Wb, Ycw hi (by omega)]; rfl)
   (fun q _ => by simp only [Zdt]; rw [dnlt, Wv]) (s := []) rfl
  have e1 : ∀ (r : List Int) (q : List (List Y9m)), r.foldl (fun q p => q ++ [behI h.after p]) q = q ++ r.map (behI h.after) := by
   intro r
   induction r with
   | nil => intro q; simp
   | cons p r ih => intro q; rw [List.foldl_cons, ih]; simp
  rw [this.1, e1]; rfl
 have hm : Mrg h.graph (e.prev.map (behI h.after)) := ⟨hr.fits, hr.ev, hr.deep, fun s hs => by obtain ⟨p, hp, rfl⟩ := List.mem_map.1 hs; exact hpl p hp, by simp; omega⟩
 obtain ⟨_, c2, c3⟩ := Yj1 hm hk
 unfold Zgh
 rw [hst, Wb, c2, Wb, (Yhf (hm.sts c3) (hr.ev e he).ask).2, Wb, (Yjt hr _ he).2, beqd, beqd]
 have hsl := hm.slen c3
 generalize resOf h.graph (e.prev.map (behI h.after)) = s at c3 hsl
 have hid := (hr.ev e he).id.1
 have hput := Ygz c3.up (Y9m.mk e.kind e.key e.id) (by simp only; omega) (by omega)
 simp only [Zgg, Zgf, Zge, Wb, hput, Y6c, beqd]
 unfold nextOf Yjp putE
 by_cases h1 : alw h.graph s e = 0
 ·
  by_cases h2 : e.kind = 8
  ·
   cases h3 : Yjo h.graph e.key e with
   | false => simp [h1, h2]
   | true => simp [h1, h2]
  ·
   by_cases h4 : e.kind ≤ 6
   ·
    simp [h1, h2, h4]
   ·
    simp [h1, h2, h4]
 ·
  simp [h1]
end Go.Proofs.YtomachnjepgpbaaGreat
namespace Go.Proofs.YtomachnjepgpbaaGreat
open Go Go.Abs

theorem Yjv {α β : Type} (f : α → β) : ∀ (r : List α) (q : List β), r.foldl (fun q p => q ++ [f p]) q = q ++ r.map f
 | [], q => by simp
 | p :: r, q => by rw [List.foldl_cons, Yjv f r]; simp

theorem Zkl {g : Y9k} (hr : Yjs g) {od : List Int} {ah bh : List (List Y9m)} {cd : List Int} (ls : Int → List Y9m) {i : Nat} (hi : i < od.length) (hil : i < g.events.length) {k : Nat} (hk : k < g.events.length) (hid : od[i] = g.events[k].id)
  (la : ah.length = g.events.length) (lb : bh.length = g.events.length) (lc : cd.length = g.events.length) (hpl : ∀ p ∈ g.events[k].prev, StOk g.events (ls p) ∧ getI bh (plc g.events p) = some (ls p)) :
  Z7s g (Yep g.events) od ah bh cd (i : Int) = some (.inl (ah.set k (resOf g (g.events[k].prev.map ls)), bh.set k (nextOf g (resOf g (g.events[k].prev.map ls)) g.events[k]), cd.set k (Yjp g (resOf g (g.events[k].prev.map ls)) g.events[k]), ((i + 1 : Nat) : Int))) := by
 have hfl := hr.fits.len
 have he : g.events[k] ∈ g.events := Wm hk
 have hev := hr.ev _ he
 have hp4 := hev.prev.1
 have hplc := (hr.fits.up.plc hk).1
 simp only [Z7s]
 rw [dlt hil, Wu, Ycv hi, Wb, hid, Yds _ _ (by omega), Wb, hplc, Ycv hk, Wb]
 generalize g.events[k] = e at *
 have h7 := Ydc (l := e.prev) (step := fun z : List (List Y9m) × Int => Z7r g bh e z.1 z.2) (fun q j => (q, j)) (fun q => q) (fun q p => q ++ [ls p]) (fun i q => q.length = i) (by omega) (fun i q hi hq => by
  refine ⟨?_, by simp [hq]⟩
  simp only [Z7r]
  rw [dlt hi, Wu, Ycv hi, Wb, Yds _ _ (by omega), Wb, (hpl _ (Wm hi)).2, Wb, Ygl (by simp; omega), Wb, Ycw hi (by omega)])
  (fun q _ => by simp only [Z7r]; rw [dnlt, Wv]) (s := []) rfl
 rw [h7.1, Yjv, Wb, List.nil_append]
 have hm : Mrg g (e.prev.map ls) := ⟨hr.fits, hr.ev, hr.deep, fun s hs => by obtain ⟨p, hp, rfl⟩ := List.mem_map.1 hs; exact (hpl p hp).1, by simp; omega⟩
 -- any history that knows the depths
 have hkn : Yj0 (Y9p.mk g (g.events.map fun e => (e.id, dmR g.events e)) [] [] []) := by
  intro e' he'
  have key : ∀ l : List Y9j, e' ∈ l → mget (l.map fun e => (e.id, dmR g.events e)) e'.id = some (dmR g.events e') := by
   intro l
   induction l with
   | nil => intro h; cases h
   | cons f l ih =>
    intro h
    simp only [List.map_cons, mget]
    by_cases hf : e'.id = f.id
    ·
     rw [if_pos hf]
     unfold dmR
     rw [hf]
    ·
     rw [if_neg hf]
     rcases List.mem_cons.1 h with rfl | h
     ·
      exact absurd rfl hf
     ·
      exact ih h
  exact key _ he'
 obtain ⟨c1, _, c3⟩ := Yj1 (h := Y9p.mk g (g.events.map fun e => (e.id, dmR g.events e)) [] [] []) hm hkn
 simp only at c1 c3
 simp only [Z7q]
 rw [c1, Wb, Ycv (by omega : k < ah.length), Wb, Int.toNat_natCast, Yju (by omega), if_pos rfl, Wb, (Yhf (hm.sts c3) hev.ask).1, Wb, Ycv (by omega : k < cd.length), Wb, Yju (by omega), if_pos rfl, Wb, (Yjt hr _ he).1, beqd, beqd]
 have hsl := hm.slen c3
 generalize resOf g (e.prev.map ls) = s at c3 hsl
 have hput := Ygo c3.up (Y9m.mk e.kind e.key e.id) (by omega)
 have w1 : IntKind.i64.wrap ((i : Int) + 1) = ((i + 1 : Nat) : Int) := Ycw hil (by omega)
 simp only [Z7p, Z7o, Z7n, Z7m, Int.toNat_natCast, hput, List.nil_append]
 rw [Ygl (by simp; omega)]
 have hgb : ∀ v : List Y9m, getI (bh.set k v) (k : Int) = some v := fun v => by rw [Yju (by omega), if_pos rfl]
 have hgc : ∀ v : Int, getI (cd.set k v) (k : Int) = some v := fun v => by rw [Yju (by omega), if_pos rfl]
 have hgb0 := Ycv (by omega : k < bh.length)
 simp only [Wb, hgb, hgc, hgb0, w1, List.set_set, beqd]
 unfold nextOf Yjp putE
 by_cases h1 : alw g s e = 0
 ·
  by_cases h2 : e.kind = 8
  ·
   cases h3 : Yjo g e.key e with
   | false => simp [h1, h2, hgc]
   | true => simp [h1, h2, hgc]
  ·
   by_cases h4 : e.kind ≤ 6
   ·
    simp [h1, h2, h4, hgc]
   ·
    simp [h1, h2, h4, hgc]
 ·
  simp [h1, hgc]

structure Both (g : Y9k) (h : Y9p) (w : Y9n) : Prop where
 graph : h.graph = g
 depth : Yj0 h
 depths : w.depths = Yep g.events
 la : w.ahead.length = g.events.length
 lb : w.behind.length = g.events.length
 lc : w.code.length = g.events.length
 all : ∀ e ∈ g.events, Yjr g (behI h.after) h.before h.after h.refused w.ahead w.behind w.code e

theorem Yjw {A : List (Int × List Y9m)} {id p : Int} {t : List Y9m} (h : p ≠ id) : behI (mset A id t) p = behI A p := by
 unfold behI; rw [Y6b, if_neg h]

theorem Yjx {g : Y9k} (hr : Yjs g) : ∃ h w, Zgn g = some h ∧ Z7u g = some w ∧ Both g h w := by
 have hfl := hr.fits.len
 obtain ⟨e0, hb⟩ := Yev hr.fits
 have hol := Yjj hr.fits
 -- the depths
 obtain ⟨m, hm1, hm2⟩ : ∃ m, iter (fun z : List (Int × Int) × Int => Zgm g (Yep g.events, decide (Yew (Yep g.events) = 0)) z.1 z.2) big ([], 0) = some m ∧ ∀ e ∈ g.events, mget m e.id = some (dmR g.events e) := by
  obtain ⟨o, h1, h2⟩ := Yct (τ := List (Int × Int) × Int) (ω := List (Int × Int)) (σ := List (Int × Int)) (step := fun z : List (Int × Int) × Int => Zgm g (Yep g.events, decide (Yew (Yep g.events) = 0)) z.1 z.2) (n := g.events.length) (fun s j => (s, j))
   (fun i s => ∀ (j : Nat) (hj : j < g.events.length), j < i → mget s g.events[j].id = some (dmR g.events g.events[j])) (fun o => ∀ (j : Nat) (hj : j < g.events.length), mget o g.events[j].id = some (dmR g.events g.events[j])) (by omega) (by
   intro i s hi hI
   have hid : i < (Yep g.events).length := by rw [hb.len]; exact hi
   refine ⟨mset s g.events[i].id (Yep g.events)[i], ?_, fun j hj hji => ?_⟩
   ·
    simp only [Zgm]
    rw [dlt hi, Wu, Ycv hi, Wb, Ycv hid, Wb, Ycw hi (by omega)]
   ·
    rw [Y6b]
    by_cases he : g.events[j].id = g.events[i].id
    ·
     rw [if_pos he]
     obtain rfl := hr.fits.up.inj hj hi he
     unfold dmR dOf
     rw [(hr.fits.up.plc hj).1, Ycv hid]; rfl
    ·
     rw [if_neg he]
     exact hI j hj (by
      rcases Nat.lt_or_ge j i with h | h
      ·
       exact h
      ·
       obtain rfl : j = i := by omega
       exact absurd rfl he)) (by
   intro s hI
   simp only [Zgm]
   rw [dnlt, Wv]
   exact ⟨s, rfl, fun j hj => hI j hj hj⟩) (s := []) (fun j hj h => by omega)
  refine ⟨o, h1, fun e he => ?_⟩
  obtain ⟨j, hj, rfl⟩ := List.mem_iff_getElem.1 he
  exact h2 j hj
 -- the states
 have hpos : ∀ i, (hi : i < (Yfy g.events).length) → ∃ k, ∃ hk : k < g.events.length, (Yfy g.events)[i] = g.events[k].id := fun i hi => by
  obtain ⟨e, he, h1⟩ := List.mem_map.1 ((Yjk hr.fits).1 (Wm hi))
  obtain ⟨k, hk, rfl⟩ := List.mem_iff_getElem.1 he
  exact ⟨k, hk, h1.symm⟩
 obtain ⟨⟨B, A, R⟩, ⟨ah, bh, cd⟩, q1, q2, la, lb, lc, hall⟩ := Yjf (step1 := fun z : List (Int × List Y9m) × List (Int × List Y9m) × List (Int × Int) × Int => Zgk g m (Yfy g.events) z.1 z.2.1 z.2.2.1 z.2.2.2) (step2 := fun z : List (List Y9m) × List (List Y9m) × List Int × Int => Z7s g (Yep g.events) (Yfy g.events) z.1 z.2.1 z.2.2.1 z.2.2.2) (n := g.events.length)
  (fun (s : List (Int × List Y9m) × List (Int × List Y9m) × List (Int × Int)) j => (s.1, s.2.1, s.2.2, j)) (fun (s : List (List Y9m) × List (List Y9m) × List Int) j => (s.1, s.2.1, s.2.2, j))
  (fun i s t => t.1.length = g.events.length ∧ t.2.1.length = g.events.length ∧ t.2.2.length = g.events.length ∧ ∀ e ∈ g.events, e.id ∈ (Yfy g.events).take i → Yjr g (behI s.2.1) s.1 s.2.1 s.2.2 t.1 t.2.1 t.2.2 e)
  (fun (s : List (Int × List Y9m) × List (Int × List Y9m) × List (Int × Int)) (t : List (List Y9m) × List (List Y9m) × List Int) => t.1.length = g.events.length ∧ t.2.1.length = g.events.length ∧ t.2.2.length = g.events.length ∧ ∀ e ∈ g.events, Yjr g (behI s.2.1) s.1 s.2.1 s.2.2 t.1 t.2.1 t.2.2 e) (by omega) (by
  rintro i ⟨B, A, R⟩ ⟨ah, bh, cd⟩ hi ⟨la, lb, lc, hI⟩
  simp only at la lb lc hI ⊢
  have hio : i < (Yfy g.events).length := by omega
  obtain ⟨k, hk, hid⟩ := hpos i hio
  have he : g.events[k] ∈ g.events := Wm hk
  have hevat : evAt g.events (Yfy g.events)[i] = some g.events[k] := by rw [hid]; exact (hr.fits.up.plc hk).2
  have hprev : ∀ p ∈ g.events[k].prev, ∃ f ∈ g.events, f.id = p ∧ p ∈ (Yfy g.events).take i := fun p hp => by
   obtain ⟨f, hf, hfid⟩ := Ydy.1 (hr.fits.whole _ he p hp)
   exact ⟨f, hf, hfid, Yjn hr.fits hr.deep hio hevat hp⟩
  have hknow : ∀ p ∈ g.events[k].prev, StOk g.events (behI A p) ∧ getI bh (plc g.events p) = some (behI A p) := fun p hp => by
   obtain ⟨f, hf, hfid, ht⟩ := hprev p hp
   subst hfid
   have hk := hI f hf ht
   have e1 : behI A f.id = nextOf g (resOf g (f.prev.map (behI A))) f := by
    show Option.getD (mget A f.id) [] = _
    rw [hk.mA]; rfl
   rw [e1]
   exact ⟨Yjq hr.fits.up hk.ok hf, hk.gb⟩
  have hks : Yj0 (Y9p.mk g m B A R) := hm2
  have s1 := Zkk (h := Y9p.mk g m B A R) hr hks he (fun p hp => (hknow p hp).1)
  have s2 := Zkl hr (od := Yfy g.events) (ah := ah) (bh := bh) (cd := cd) (behI A) hio hi hk hid la lb lc hknow
  have hm : Mrg g (g.events[k].prev.map (behI A)) := ⟨hr.fits, hr.ev, hr.deep, fun s hs => by obtain ⟨p, hp, rfl⟩ := List.mem_map.1 hs; exact (hknow p hp).1, by have := (hr.ev _ he).prev.1; simp; omega⟩
  have hsok := (Yj1 (h := Y9p.mk g m B A R) hm hks).2.2
  simp only at s1 hsok
  refine ⟨(mset B g.events[k].id (resOf g (g.events[k].prev.map (behI A))), mset A g.events[k].id (nextOf g (resOf g (g.events[k].prev.map (behI A))) g.events[k]), mset R g.events[k].id (Yjp g (resOf g (g.events[k].prev.map (behI A))) g.events[k])), (ah.set k (resOf g (g.events[k].prev.map (behI A))), bh.set k (nextOf g (resOf g (g.events[k].prev.map (behI A))) g.events[k]), cd.set k (Yjp g (resOf g (g.events[k].prev.map (behI A))) g.events[k])), ?_, s2, by simp [la], by simp [lb], by simp [lc], ?_⟩
  ·
   simp only [Zgk]
   rw [dlt hio, Wu, Ycv hio, Wb, c_at _ _ hr.fits.up (by omega), hevat, Wb]
   simp only [Option.getD_some]
   rw [s1, Wb, Ycw hio (by omega)]
  ·
   intro e hem het
   have hself : ∀ p ∈ g.events[k].prev, p ≠ g.events[k].id := fun p hp => ((hr.ev _ he).prev.2.1 p hp).2.2
   have hpk := (hr.fits.up.plc hk).1
   by_cases hek : e = g.events[k]
   ·
    subst hek
    have e1 : g.events[k].prev.map (behI (mset A g.events[k].id (nextOf g (resOf g (g.events[k].prev.map (behI A))) g.events[k]))) = g.events[k].prev.map (behI A) := List.map_congr_left fun p hp => Yjw (hself p hp)
    refine ⟨?_, ?_, ?_, ?_, ?_, ?_, ?_⟩
    ·
     simp only [e1]; exact hsok
    ·
     simp only [e1]; rw [Y6b, if_pos rfl]
    ·
     simp only [e1]; rw [Y6b, if_pos rfl]
    ·
     simp only [e1]; rw [Y6b, if_pos rfl]
    ·
     simp only [e1]; rw [hpk, Yju (by omega), if_pos rfl]
    ·
     simp only [e1]; rw [hpk, Yju (by omega), if_pos rfl]
    ·
     simp only [e1]; rw [hpk, Yju (by omega), if_pos rfl]
   ·
    have hne : e.id ≠ g.events[k].id := fun h => hek (by
     obtain ⟨j, hj, rfl⟩ := List.mem_iff_getElem.1 hem
     obtain rfl := hr.fits.up.inj hj hk h
     rfl)
    have het' : e.id ∈ (Yfy g.events).take i := by
     rw [List.take_add_one, We hio, hid] at het
     rcases List.mem_append.1 het with h | h
     ·
      exact h
     ·
      simp at h; exact absurd h hne
    obtain ⟨j, hj, hji, hje⟩ := Yfd het'
    have hpn : ∀ p ∈ e.prev, p ≠ g.events[k].id := fun p hp hpe => by
     have h1 := Yjn hr.fits hr.deep hj (e := e) (by rw [hje]; exact hr.fits.up.evAt_mem hem) hp
     obtain ⟨u, hu, huj, hue⟩ := Yfd h1
     have : u = i := by
      have hnd := Yjl hr.fits
      exact (List.getElem_inj (h₀ := hu) (h₁ := hio) hnd).1 (by rw [hue, hpe, hid])
     omega
    have e1 : e.prev.map (behI (mset A g.events[k].id (nextOf g (resOf g (g.events[k].prev.map (behI A))) g.events[k]))) = e.prev.map (behI A) := List.map_congr_left fun p hp => Yjw (hpn p hp)
    have hK := hI e hem het'
    obtain ⟨ke, hke, hkp, _, _⟩ := Ydv (Ydx hem)
    have hkk : ke ≠ k := fun h => by
     subst h
     have := hr.fits.up.plc hke
     obtain ⟨j2, hj2, hje2⟩ := List.mem_iff_getElem.1 hem
     have h3 := (hr.fits.up.plc hj2).1
     rw [hje2, hkp] at h3
     have : j2 = ke := by omega
     subst this
     exact hek hje2.symm
    refine ⟨?_, ?_, ?_, ?_, ?_, ?_, ?_⟩
    ·
     simp only [e1]; exact hK.ok
    ·
     simp only [e1]; rw [Y6b, if_neg hne]; exact hK.mB
    ·
     simp only [e1]; rw [Y6b, if_neg hne]; exact hK.mR
    ·
     simp only [e1]; rw [Y6b, if_neg hne]; exact hK.mA
    ·
     simp only [e1]; rw [hkp, Yju (by omega), if_neg hkk, ← hkp]; exact hK.ga
    ·
     simp only [e1]; rw [hkp, Yju (by omega), if_neg hkk, ← hkp]; exact hK.gc
    ·
     simp only [e1]; rw [hkp, Yju (by omega), if_neg hkk, ← hkp]; exact hK.gb) (by
  rintro ⟨B, A, R⟩ ⟨ah, bh, cd⟩ ⟨la, lb, lc, hI⟩
  simp only at la lb lc hI
  refine ⟨(B, A, R), (ah, bh, cd), ?_, ?_, la, lb, lc, fun e he => hI e he ?_⟩
  ·
   simp only [Zgk]
   rw [hol, dnlt, Wv]
  ·
   simp only [Z7s]
   rw [dnlt, Wv]
  ·
   rw [List.take_of_length_le (by omega)]
   exact (Yjk hr.fits).2 (List.mem_map.2 ⟨e, he, rfl⟩)) (s := ([], [], [])) (t := (List.replicate g.events.length [], List.replicate g.events.length [], List.replicate g.events.length 0)) ⟨by simp, by simp, by simp, fun e _ h => by simp at h⟩
 simp only at q1 q2 la lb lc hall
 refine ⟨Y9p.mk g m B A R, Y9n.mk (Yep g.events) ah bh cd, ?_, ?_, rfl, hm2, rfl, la, lb, lc, hall⟩
 ·
  unfold Zgn
  rw [Yf2 hr.fits, Wb, hm1, Wb]
  simp only [Zgl, Zgj]
  rw [Yg2 hr.fits, Wb, q1]; rfl
 ·
  unfold Z7u
  rw [e0, Wb, Y4z (Wt ⟨by omega, by omega⟩), Wb, Wb, Y4z (Wt ⟨by omega, by omega⟩), Wb]
  simp only [Z7t, Z7l, Int.toNat_natCast]
  rw [Yga hr.fits hr.deep, Wb, q2]; rfl
end Go.Proofs.YtomachnjepgpbaaGreat
namespace Go.Proofs.YtomachnjepgpbaaGreat
open Go Go.Abs


theorem Yjy {l : List Y9j} (hf : Fits l) (hd : Deep l) {e : Y9j} (he : e ∈ l) : dOf l (Yep l) e.id = e.prev.foldl (fun m p => mx2 m (dOf l (Yep l) p)) 0 + 1 ∧ 0 < dOf l (Yep l) e.id := by
 obtain ⟨i, hi, rfl⟩ := List.mem_iff_getElem.1 he
 have hb := (Yev hf).2
 have hid : i < (Yep l).length := by rw [hb.len]; exact hi
 have e1 : dOf l (Yep l) l[i].id = (Yep l)[i] := by
  unfold dOf
  rw [(hf.up.plc hi).1, Ycv hid]; rfl
 have e2 : (Yep l).getD i 0 = (Yep l)[i] := by simp [hid]
 have hpos := hd _ (Wm hid)
 have hc := Yjc hf i hi (by rw [e2]; exact hpos)
 rw [e2] at hc
 have ha := Yj9 (l := l) (d := Yep l) (e := l[i]) (by omega)
 unfold own at hc
 rw [if_pos ha] at hc
 rw [e1]
 exact ⟨hc.symm, hpos⟩

theorem Yjz {l : List Y9j} (hw : Whole l) : ∀ (r : List Nat) (c : Nat) (d : List Int), Bd l c d → (∀ i ∈ r, i < l.length) → Yew (r.foldl (updD l) d) ≤ Yew d ∧ (Yew (r.foldl (updD l) d) = Yew d → ∀ i ∈ r, updD l d i = d)
 | [], _, _, _, _ => ⟨Nat.le_refl _, fun _ i h => by cases h⟩
 | i :: r, c, d, hb, hr => by
  have hi := hr i (by simp)
  obtain ⟨h1, h2⟩ := Yjz hw r (c + 1) (updD l d i) (Yet hw hb hi) fun j hj => hr j (by simp [hj])
  rw [List.foldl_cons]
  rcases Yex hb hi with h | ⟨_, _, _, h⟩
  ·
   rw [h] at h1 h2 ⊢
   exact ⟨h1, fun h3 j hj => by
    rcases List.mem_cons.1 hj with rfl | hj
    ·
     exact h
    ·
     exact h2 h3 j hj⟩
  ·
   exact ⟨by omega, fun h3 => by omega⟩

theorem Yk0 {l : List Y9j} (hf : Fits l) (r : Int → Nat) (hr : ∀ e ∈ l, ∀ p ∈ e.prev, r p < r e.id) : Deep l := by
 have hl := hf.len
 have hz : Bd l 0 (List.replicate l.length 0) := ⟨by simp, fun x hx => by rw [List.eq_of_mem_replicate hx]; simp⟩
 have hz0 : Yew (List.replicate l.length (0 : Int)) = l.length := by unfold Yew; rw [List.countP_replicate]; simp
 have key : ∀ k, k ≤ l.length → Yew (Yeo l k (List.replicate l.length 0)) = 0 ∨ sweep l (Yeo l k (List.replicate l.length 0)) = Yeo l k (List.replicate l.length 0) ∨ k + Yew (Yeo l k (List.replicate l.length 0)) ≤ l.length := by
  intro k
  induction k with
  | zero => intro _; right; right; show 0 + Yew (List.replicate l.length (0 : Int)) ≤ _; omega
  | succ k ih =>
   intro hk
   have hb := Yf1 hf hz k (by omega)
   have hm : k * l.length ≤ 60 * 60 := Nat.mul_le_mul (by omega) hl
   obtain ⟨_, e2, e3⟩ := Zkb (g := ⟨0, l, []⟩) hf hb (by omega)
   simp only at e2 e3
   show Yew (sweep l (Yeo l k _)) = 0 ∨ sweep l (sweep l (Yeo l k _)) = sweep l (Yeo l k _) ∨ k + 1 + Yew (sweep l (Yeo l k _)) ≤ l.length
   rcases ih (by omega) with h | h | h
   ·
    rw [Yez hb.len h fun x hx => (hb.in_ x hx).1]; exact .inl h
   ·
    rw [h]; exact .inr (.inl h)
   ·
    by_cases h4 : Yew (sweep l (Yeo l k (List.replicate l.length 0))) = Yew (Yeo l k (List.replicate l.length 0))
    ·
     rw [e3 h4, e3 h4]; exact .inr (.inl rfl)
    ·
     right; right; omega
 have hB := Yf1 hf hz l.length (Nat.le_refl _)
 have hm : l.length * l.length ≤ 60 * 60 := Nat.mul_le_mul hl hl
 have hfix : Yew (Yep l) = 0 := by
  rcases key l.length (Nat.le_refl _) with h | h | h
  ·
   exact h
  ·
   rw [← Yep] at h hB
   have hall := (Yjz hf.whole (List.range l.length) _ _ hB fun i hi => by simpa using hi).2 (by show Yew (sweep l _) = _; rw [h])
   have hpos : ∀ n : Nat, ∀ e ∈ l, r e.id ≤ n → 0 < dOf l (Yep l) e.id := by
    have one : ∀ e ∈ l, (∀ p ∈ e.prev, 0 < dOf l (Yep l) p) → 0 < dOf l (Yep l) e.id := by
     intro e he hp
     obtain ⟨i, hi, rfl⟩ := List.mem_iff_getElem.1 he
     have hid : i < (Yep l).length := by rw [hB.len]; exact hi
     have e1 : dOf l (Yep l) l[i].id = (Yep l)[i] := by
      unfold dOf
      rw [(hf.up.plc hi).1, Ycv hid]; rfl
     have e2 : (Yep l).getD i 0 = (Yep l)[i] := by simp [hid]
     have e3 : l.getD i zEv = l[i] := by simp [hi]
     have hown : own l (Yep l) l[i] > 0 := by
      unfold own
      rw [if_pos (List.all_eq_true.2 fun p hp' => Wt (hp p hp'))]
      have := (Yer (dOf l (Yep l)) ((l.length * l.length : Nat) : Int) l[i].prev 0 (by omega) fun p hp' => (hB.in_ _ (Yeq hB.len (hf.whole _ (Wm hi) p hp')).2).2).1
      omega
     have hu := hall i (by simpa using hi)
     rw [e1]
     have hn := (hB.in_ _ (Wm hid)).1
     by_cases h0 : (Yep l)[i] > 0
     ·
      exact h0
     ·
      exfalso
      unfold updD at hu
      rw [e2, e3, if_neg h0, if_pos hown] at hu
      have h5 : ((Yep l).set i (own l (Yep l) l[i]))[i]? = (Yep l)[i]? := by rw [hu]
      rw [List.getElem?_set_self hid, We hid] at h5
      have := Wj h5
      omega
    intro n
    induction n with
    | zero =>
     intro e he hn
     refine one e he fun p hp => ?_
     have := hr e he p hp; omega
    | succ n ih =>
     intro e he hn
     refine one e he fun p hp => ?_
     have h1 := hr e he p hp
     obtain ⟨f, hf1, rfl⟩ := Ydy.1 (hf.whole e he p hp)
     exact ih f hf1 (by omega)
   refine List.countP_eq_zero.2 fun x hx => ?_
   obtain ⟨i, hi, rfl⟩ := List.mem_iff_getElem.1 hx
   have hil : i < l.length := by rw [← hB.len]; exact hi
   have e1 : dOf l (Yep l) l[i].id = (Yep l)[i] := by
    unfold dOf
    rw [(hf.up.plc hil).1, Ycv hi]; rfl
   have := hpos _ _ (Wm hil) (Nat.le_refl _)
   simp; omega
  ·
   show Yew (Yeo l l.length _) = 0; omega
 exact (Ygd l hB).1 hfix


structure Ext (l l' : List Y9j) : Prop where
 fits : Fits l
 fits' : Fits l'
 deep : Deep l
 deep' : Deep l'
 sub : ∀ e ∈ l, e ∈ l'

section
variable {l l' : List Y9j} (x : Ext l l')
include x
theorem Ext.at {id : Int} {e : Y9j} (h : evAt l id = some e) : evAt l' id = some e := by
 obtain ⟨h1, rfl⟩ := Ydz h
 exact x.fits'.up.evAt_mem (x.sub e h1)
theorem Ext.evD {id : Int} (h : id ∈ l.map (·.id)) : evD l' id = evD l id := by
 have h2 := x.at (Yiw h x.fits.up).1
 show (evAt l' id).getD zEv = _
 rw [h2]; rfl
theorem Ext.prev {id : Int} (h : id ∈ l.map (·.id)) : ∀ p ∈ (Go.Proofs.YtomachnjepgpbaaGreat.evD l id).prev, p ∈ l.map (·.id) := fun p hp => by
 exact Yj5.1 (x.fits.whole _ (Yiw h x.fits.up).2.1 p hp)
theorem Ext.dOf {e : Y9j} (he : e ∈ l) : Go.Proofs.YtomachnjepgpbaaGreat.dOf l' (Yep l') e.id = Go.Proofs.YtomachnjepgpbaaGreat.dOf l (Yep l) e.id := by
 have key : ∀ n : Nat, ∀ e ∈ l, (Go.Proofs.YtomachnjepgpbaaGreat.dOf l (Yep l) e.id).toNat ≤ n → Go.Proofs.YtomachnjepgpbaaGreat.dOf l' (Yep l') e.id = Go.Proofs.YtomachnjepgpbaaGreat.dOf l (Yep l) e.id := by
  intro n
  induction n with
  | zero =>
   intro e he hn
   have := (Yjy x.fits x.deep he).2
   omega
  | succ n ih =>
   intro e he hn
   rw [(Yjy x.fits x.deep he).1, (Yjy x.fits' x.deep' (x.sub e he)).1]
   congr 1
   refine Yja fun m p hp => ?_
   have hlt := Yje x.fits x.deep he hp
   obtain ⟨f, hf, rfl⟩ := Ydy.1 (x.fits.whole e he p hp)
   have := (Yjy x.fits x.deep hf).2
   rw [ih f hf (by omega)]
 exact key _ e he (Nat.le_refl _)
theorem Ext.dmR {e : Y9j} (he : e ∈ l) : Go.Proofs.YtomachnjepgpbaaGreat.dmR l' e = Go.Proofs.YtomachnjepgpbaaGreat.dmR l e := x.dOf he
theorem Ext.bf {a : Int} {seen todo : List Int} {b : Bool} (h : Bf l a seen todo b) : (∀ id ∈ todo, id ∈ l.map (·.id)) → Bf l' a seen todo b := by
 induction h with
 | nil => exact fun _ => .nil _
 | hit => exact fun _ => .hit _ _
 | skip seen r id b h1 h2 _ ih => exact fun ht => .skip _ _ _ _ h1 h2 (ih fun p hp => ht p (by simp [hp]))
 | more seen r id b h1 h2 _ ih =>
  intro ht
  refine .more _ _ _ _ h1 h2 ?_
  have hid := ht id (by simp)
  rw [x.evD hid]
  refine ih fun p hp => ?_
  rcases List.mem_append.1 hp with hp | hp
  ·
   exact ht p (by simp [hp])
  ·
   exact x.prev hid p hp
theorem Ext.cur {s : List Y9m} (hi : Ids1 l') (hs : StOk l s) (kind key : Int) : Go.Proofs.YtomachnjepgpbaaGreat.cur l' s kind key = Go.Proofs.YtomachnjepgpbaaGreat.cur l s kind key := by
 have hi1 : Ids1 l := fun e he => hi e (x.sub e he)
 unfold Go.Proofs.YtomachnjepgpbaaGreat.cur
 rcases Yh0 s kind key with ⟨h, _⟩ | ⟨y, hy, _, _, h⟩
 ·
  rw [h, no0 hi (Int.le_refl _), no0 hi1 (Int.le_refl _)]
 ·
  obtain ⟨e, he, _⟩ := hs.ev y hy
  rw [h, he]; exact x.at he
theorem Ext.st {s : List Y9m} (hs : StOk l s) : StOk l' s := ⟨hs.up, fun y hy => by
 obtain ⟨e, he, h1⟩ := hs.ev y hy
 exact ⟨e, x.at he, h1⟩⟩
end

def Low (s : List Y9m) : Prop := ∀ y ∈ s, y.kind ≤ 6

structure ExtG (g g' : Y9k) : Prop where
 ext : Ext g.events g'.events
 right : Yjs g
 right' : Yjs g'

section
variable {g g' : Y9k} (x : ExtG g g')
include x
theorem ExtG.ahead (a : Int) {e : Y9j} (he : e ∈ g.events) : Yjo g' a e = Yjo g a e := by
 obtain ⟨b, h1, h2⟩ := Zki x.right.walk a he
 obtain ⟨b', h3, h4⟩ := Zki x.right'.walk a (x.ext.sub e he)
 unfold Yjo
 rw [h1, h3]
 exact (Bf.det (x.ext.bf h2 fun p hp => Yj5.1 (x.ext.fits.whole e he p hp)) h4).symm
theorem ExtG.alw {s : List Y9m} (h : Sts g s) (h' : Sts g' s) {e : Y9j} (hk : e.kind = 8 → evAt g'.events e.key = evAt g.events e.key) : Go.Proofs.YtomachnjepgpbaaGreat.alw g' s e = Go.Proofs.YtomachnjepgpbaaGreat.alw g s e := by
 have hc := fun kind key => x.ext.cur h'.ids h.ok kind key
 have hOf : ∀ kind key, Z6a g' s kind key = Z6a g s kind key := fun kind key => by rw [Yh5 h'.ids h'.len h'.ok h'.sl, Yh5 h.ids h.len h.ok h.sl, hc]
 have hMe : ∀ u, Z6c g' s u = Z6c g s u := fun u => by rw [Yh7 h', Yh7 h]; unfold mbr; rw [hc]
 have hLe : ∀ u, Z6e g' s u = Z6e g s u := fun u => by rw [Yh9 h', Yh9 h]; unfold lvl; rw [hc, hc]
 have hOw : ∀ m, Z6l g' s e m = Z6l g s e m := fun m => by
  unfold Z6l Z6k Z6j Z6i
  simp only [hOf]
 have hOt : ∀ p, Z6q g' s e p = Z6q g s e p := fun p => by
  unfold Z6q Z6p Z6o Z6n
  simp only [hMe, hLe]
 unfold Go.Proofs.YtomachnjepgpbaaGreat.alw Z6w Z6v Z6u Z6t Z6s
 simp only [hOf, hMe, hLe, hOw, hOt]
 by_cases h8 : e.kind = 8
 ·
  have he := hk h8
  rw [Yds g.events e.key (by have := h.len; omega), Yds g'.events e.key (by have := h'.len; omega)]
  simp only [Wb, Ydu, Yh1, he]
  cases hv : evAt g.events e.key with
  | none => rfl
  | some f =>
   rw [(Yh4 hv).1, (Yh4 (he.trans hv)).1]
 ·
  have hb : (e.kind == 8) = false := by simp [h8]
  simp only [hb, Wv]
end
end Go.Proofs.YtomachnjepgpbaaGreat
namespace Go.Proofs.YtomachnjepgpbaaGreat
open Go Go.Abs

def refB (h : Y9p) (id : Int) : Bool := decide (Option.getD (mget h.refused id) 0 = 0)

theorem Both.code {g : Y9k} {h : Y9p} {w : Y9n} (hb : Both g h w) {e : Y9j} (he : e ∈ g.events) : ∃ c, getI w.code (plc g.events e.id) = some c ∧ Option.getD (mget h.refused e.id) 0 = c := by
 have hk := hb.all e he
 exact ⟨_, hk.gc, by rw [hk.mR]; rfl⟩
theorem Both.behind {g : Y9k} {h : Y9p} {w : Y9n} (hb : Both g h w) (hr : Yjs g) {e : Y9j} (he : e ∈ g.events) : getI w.behind (plc g.events e.id) = some (behI h.after e.id) ∧ StOk g.events (behI h.after e.id) := by
 have hk := hb.all e he
 have e1 : behI h.after e.id = nextOf g (resOf g (e.prev.map (behI h.after))) e := by
  show Option.getD (mget h.after e.id) [] = _
  rw [hk.mA]; rfl
 rw [e1]
 exact ⟨hk.gb, Yjq hr.fits.up hk.ok he⟩
theorem Both.ahead {g : Y9k} {h : Y9p} {w : Y9n} (hb : Both g h w) {e : Y9j} (he : e ∈ g.events) : getI w.ahead (plc g.events e.id) = some (behI h.before e.id) ∧ StOk g.events (behI h.before e.id) := by
 have hk := hb.all e he
 have e1 : behI h.before e.id = resOf g (e.prev.map (behI h.after)) := by
  show Option.getD (mget h.before e.id) [] = _
  rw [hk.mB]; rfl
 rw [e1]
 exact ⟨hk.ga, hk.ok⟩

theorem Yjs.sts {g : Y9k} (hr : Yjs g) {s : List Y9m} (hs : StOk g.events s) : Sts g s := (Mrg.mk (ls := []) hr.fits hr.ev hr.deep (fun s hs => by cases hs) (by simp)).sts hs

end Go.Proofs.YtomachnjepgpbaaGreat
namespace Go.Proofs.YtomachnjepgpbaaGreat
open Go Go.Abs


def accT (l : List Y9j) (T : Int → Bool) : List Int := (l.map (·.id)).filter T
def endT (l : List Y9j) (T : Int → Bool) (x : Int) : Bool := (accT l T).all fun id => !decide (x ∈ (evD l id).prev)
def endsT (l : List Y9j) (T : Int → Bool) : List Int := (accT l T).filter (endT l T)

theorem Yk1 {l : List Y9j} (h : Up2 l) : UpI (l.map (·.id)) := by
 show (l.map (·.id)).Pairwise (· < ·)
 rw [List.pairwise_map]; exact h

theorem Yk2 {l : List Int} (hl : UpI l) (hn : l.length < 1000000) : Zi7 l = some l := by
 unfold Zi7
 by_cases h2 : (l.length : Int) < 2
 ·
  rw [Wt h2]; rfl
 ·
  rw [Wf h2, Wv, Y52 (o := .inr ()) (fun m (x : Int) => ∃ i : Nat, x = i ∧ 1 ≤ i ∧ i ≤ l.length ∧ m = l.length - i) ?_ (m := l.length - 1) (x := 1) ⟨1, rfl, by omega, by omega, rfl⟩ (Ycq (by omega))]
  ·
   rfl
  ·
   rintro m x ⟨i, rfl, h1, hi, rfl⟩
   simp only [Zi6]
   by_cases hil : i < l.length
   ·
    right
    have hm : i - 1 < l.length := by omega
    have := List.pairwise_iff_getElem.1 hl (i - 1) i hm hil (by omega)
    rw [dlt hil, Wu, Ycv hil, Wb, Ycx (by omega) (by omega), Ycv hm, Wb, beqd, Wf (by omega), Wv, Ycw hil (by omega)]
    exact ⟨_, l.length - (i + 1), rfl, by omega, i + 1, rfl, by omega, by omega, rfl⟩
   ·
    left
    obtain rfl : i = l.length := by omega
    rw [dnlt, Wv]

theorem Zkm {l ids : List Int} (hl : UpI l) (hn : ids.Nodup) (hm : ∀ x, x ∈ ids ↔ x ∈ l) : List.mergeSort ids (fun x y => decide (x ≤ y)) = l := by
 have hp : ids.Perm l := (List.perm_ext_iff_of_nodup hn (hl.imp fun {a b} h => by omega)).2 hm
 exact List.Perm.eq_of_pairwise (le := fun a b => decide (a ≤ b) = true) (fun a b _ _ h1 h2 => by simp at h1 h2; omega) (List.pairwise_mergeSort (fun a b c h1 h2 => by simp at h1 h2 ⊢; omega) (fun a b => by simp; omega) ids) (hl.imp fun {a b} h => by simp; omega) ((List.mergeSort_perm ids _).trans hp)

theorem Yk3 {l ids : List Int} (hl : UpI l) (hn : ids.Nodup) (hm : ∀ x, x ∈ ids ↔ x ∈ l) (hlen : l.length < 1000000) : Zia ids = some l := by
 have hpl : ids.length = l.length := ((List.perm_ext_iff_of_nodup hn (hl.imp fun {a b} h => by omega)).2 hm).length_eq
 unfold Zia
 rw [Y4z (Wt (by omega)), Wb, Zkm hl hn hm, Yk2 hl hlen]; rfl

theorem Yk4 (e : Y9j) (l : List Int) (hl : l.length < 1000000) (he : e.prev.length < 1000000) : Zil l e = some (l.filter fun x => !decide (x ∈ e.prev)) := by
 have hc : ∀ x, Zic x e = some (decide (x ∈ e.prev)) := fun x => by unfold Zic; rw [Ydh _ _ (by omega)]; rfl
 unfold Zil Zig
 rw [Yde (Yd9 (l := l) (step := Zif l e) (fun x => decide (x ∈ e.prev)) (by omega) (fun i hi => by
  simp only [Zif]
  rw [dlt hi, Wu, Ycv hi, Wb, hc, Wb, Ycw hi (by omega)]
  cases decide (l[i] ∈ e.prev) <;> rfl) (by simp only [Zif]; rw [dnlt, Wv])) (fun _ => rfl) rfl, Wb]
 unfold idxP
 cases hf : l.findIdx? (fun x => decide (x ∈ e.prev)) with
 | none =>
  rw [List.findIdx?_eq_none_iff] at hf
  rw [beqd, Wt rfl, Wu]
  exact congrArg some (List.filter_eq_self.2 fun x hx => by simp [hf x hx]).symm
 | some k =>
  obtain ⟨hk, hkp, hkn⟩ := List.findIdx?_eq_some_iff_getElem.1 hf
  simp only
  rw [beqd, Wf (by omega), Wv, Ycw hk (by omega)]
  -- the rest
  have hpre : (l.take k).filter (fun x => !decide (x ∈ e.prev)) = l.take k := List.filter_eq_self.2 fun x hx => by
   obtain ⟨j, hj, hjk, rfl⟩ := Yfd hx
   have := hkn j hjk
   simpa using this
  obtain ⟨⟨o1, o2⟩, e1, w, hw1, hw2, hw3, hw4⟩ := Y51 (step := fun z : List Int × Int × Int => Zik e z.1 z.2.1 z.2.2) (p := fun o : List Int × Int => ∃ w : Nat, o.2 = (w : Int) ∧ w ≤ l.length ∧ o.1.length = l.length ∧ o.1.take w = l.filter fun x => !decide (x ∈ e.prev))
   (fun m (z : List Int × Int × Int) => ∃ (w i : Nat), z.2.1 = (w : Int) ∧ z.2.2 = (i : Int) ∧ w < i ∧ i ≤ l.length ∧ z.1.length = l.length ∧ z.1.take w = (l.take i).filter (fun x => !decide (x ∈ e.prev)) ∧ z.1.drop i = l.drop i ∧ m = l.length - i) (by
   rintro m ⟨q, x, y⟩ ⟨w, i, hx, hy, hwi, hi, hq, ht, hd, rfl⟩
   simp only at hx hy hq ht hd
   subst hx hy
   simp only [Zik, Zij]
   by_cases hil : i < l.length
   ·
    right
    have hiq : i < q.length := by omega
    have hwq : w < q.length := by omega
    have hqi : q[i] = l[i] := by
     have h1 : (q.drop i)[0]? = (l.drop i)[0]? := by rw [hd]
     simpa [hiq, hil] using h1
    have etk : l.take (i + 1) = l.take i ++ [l[i]] := by rw [List.take_add_one, We hil]; rfl
    rw [dlt hiq, Wu, Ycv hiq, Wb, hc, Wb, hqi, Ycv hwq, Ycw hiq (by omega)]
    have hd' : ∀ v : Int, (q.set w v).drop (i + 1) = l.drop (i + 1) := fun v => by
     rw [List.drop_set_of_lt (by omega)]
     have := congrArg (List.drop 1) hd
     rwa [List.drop_drop, List.drop_drop] at this
    by_cases hp : l[i] ∈ e.prev
    ·
     rw [Wt hp, Wu]
     refine ⟨_, l.length - (i + 1), rfl, by omega, w, i + 1, rfl, rfl, by omega, by omega, hq, ?_, ?_, rfl⟩
     ·
      rw [etk, List.filter_append, List.filter_cons_of_neg (by simp [hp]), List.filter_nil, List.append_nil]; exact ht
     ·
      have := congrArg (List.drop 1) hd
      rwa [List.drop_drop, List.drop_drop] at this
    ·
     rw [Wf hp, Wv, Wb, Int.toNat_natCast, Ycw hwq (by omega)]
     refine ⟨_, l.length - (i + 1), rfl, by omega, w + 1, i + 1, rfl, rfl, by omega, by omega, by simp [hq], ?_, hd' _, rfl⟩
     simp only
     rw [etk, List.filter_append, List.filter_cons_of_pos (by simp [hp]), List.filter_nil, ← ht, List.take_add_one, List.getElem?_set_self hwq]
     rw [List.take_set_of_le (Nat.le_refl _)]; rfl
   ·
    left
    obtain rfl : i = l.length := by omega
    rw [Wf (by omega), Wv]
    refine ⟨_, rfl, w, rfl, by omega, hq, ?_⟩
    rw [List.take_length] at ht
    exact ht) big (l.length - (k + 1)) (l, (k : Int), ((k + 1 : Nat) : Int)) ⟨k, k + 1, rfl, rfl, by omega, by omega, rfl, by
    rw [List.take_add_one, We hk, List.filter_append, hpre]
    simp at hkp
    simp [hkp], rfl, rfl⟩ (Ycq (by omega))
  rw [e1, Wb]
  simp only at hw1 hw2 hw3 hw4
  subst hw1
  simp only [Zii, Int.toNat_natCast]
  rw [Y4z (Wt (by omega)), Wb, Y4z (Wt (by omega)), Wb, Y4z (Wt (by simp; omega)), Wb]
  congr 1
  rw [← hw4, List.take_append_of_le_length (by simp; omega), List.take_take, Nat.min_self]

theorem Yk5 {l : List Y9j} (hf : Fits l) (T : Int → Bool) : UpI (accT l T) := (Yk1 hf.up).filter _
theorem Yk6 {l : List Y9j} (hf : Fits l) (T : Int → Bool) : (accT l T).length ≤ 60 := by
 have := List.length_filter_le T (l.map (·.id))
 rw [List.length_map] at this
 have := hf.len
 unfold accT; omega
theorem Yk7 {l : List Y9j} {T : Int → Bool} {id : Int} (hi : id ∈ endsT l T) : id ∈ l.map (·.id) := (List.mem_filter.1 (List.mem_filter.1 hi).1).1
theorem Yk8 {l : List Y9j} (hf : Fits l) (T : Int → Bool) : (endsT l T).length ≤ 60 := Nat.le_trans (List.length_filter_le _ _) (Yk6 hf T)

def Yk9 (l : List Y9j) (T : Int → Bool) : List Bool := l.map fun e => T e.id

theorem Yka {g : Y9k} {h : Y9p} {w : Y9n} (hb : Both g h w) (hr : Yjs g) : w.code.map (fun c => decide (c = 0)) = Yk9 h.graph.events (refB h) := by
 unfold Yk9
 rw [hb.graph]
 refine List.ext_getElem (by simp [hb.lc]) fun i h1 h2 => ?_
 simp only [List.length_map] at h1 h2
 simp only [List.getElem_map]
 obtain ⟨c, k1, k2⟩ := hb.code (Wm h2)
 rw [(hr.fits.up.plc h2).1, Ycv h1] at k1
 cases k1
 unfold refB
 rw [k2]

theorem Ykb {w : Y9n} {step : List Bool × Int → Option ((List Bool × Int) ⊕ List Bool)} (hl : w.code.length < 1000000)
  (h1 : ∀ (l : List Bool) (i : Nat), step (l, (i : Int)) = cond (decide ((i : Int) < (l.length : Int))) ((getI w.code (i : Int)).bind fun e12 => (getI l (i : Int)).bind fun e14 => some (.inl ((List.set l (Int.toNat (i : Int)) (e12 == 0)), (IntKind.i64.wrap ((i : Int) + 1))))) (some (.inr l))) :
  iter step big (List.replicate w.code.length false, 0) = some (w.code.map fun c => decide (c = 0)) := by
 obtain ⟨o, e1, rfl⟩ := Yct (τ := List Bool × Int) (ω := List Bool) (σ := List Bool) (step := step) (n := w.code.length) (fun s j => (s, j)) (fun i s => s = (w.code.take i).map (fun c => decide (c = 0)) ++ List.replicate (w.code.length - i) false) (fun o => o = w.code.map fun c => decide (c = 0)) (by omega) (by
  rintro i s hi rfl
  have e0 : List.replicate (w.code.length - i) false = false :: List.replicate (w.code.length - (i + 1)) false := by
   rw [show w.code.length - i = (w.code.length - (i + 1)) + 1 by omega, List.replicate_succ]
  have etk : w.code.take (i + 1) = w.code.take i ++ [w.code[i]] := by rw [List.take_add_one, We hi]; rfl
  refine ⟨_, ?_, rfl⟩
  rw [h1, Wt (by simp; omega), Wu, Ycv hi, Wb, e0, Yf3 (X := (w.code.take i).map fun c => decide (c = 0)) rfl (by simp; omega), Wb, Int.toNat_natCast, Yf4 (X := (w.code.take i).map fun c => decide (c = 0)) rfl (by simp; omega), Ycw hi (by omega), etk, beqd, List.map_append, List.append_assoc]
  rfl) (by
  rintro s rfl
  refine ⟨_, ?_, rfl⟩
  rw [h1, Wf (by simp), Wv]
  simp) (s := List.replicate w.code.length false) (by simp)
 exact e1

theorem Ykc {α β : Type} (f : α → β) {l : List α} {i : Nat} (hi : i < l.length) : getI (l.map f) (i : Int) = some (f l[i]) := by
 rw [Ycv (by simpa using hi)]; simp

theorem Ykd {g : Y9k} (hr : Yjs g) (T : Int → Bool) : Zj7 g (Yk9 g.events T) = some (endsT g.events T) := by
 have hfl := hr.fits.len
 unfold Zj7
 -- whether one stands behind an event
 have inner1 : ∀ (i k : Nat) (hi : i < g.events.length) (hk : k < g.events.length) (b : Bool), iter (fun z : Bool × Int => Zj4 g (Yk9 g.events T) (i : Int) (k : Int) z.1 z.2) big (b, 0) = some (b && (!T g.events[k].id || !decide (g.events[i].id ∈ g.events[k].prev))) := by
  intro i k hi hk b
  have hpl := hr.fits.plen _ (Wm hk)
  have ht : getI (Yk9 g.events T) (k : Int) = some (T g.events[k].id) := Ykc _ hk
  cases hrk : T g.events[k].id with
  | false =>
   rw [Y52 (o := b) (fun m (z : Bool × Int) => z = (b, 0)) ?_ (m := 0) rfl (Ycq (by omega))]
   ·
    simp
   ·
    rintro m z rfl
    left
    simp only [Zj4, Zj3]
    rw [ht, Wb, hrk]; rfl
  | true =>
   have := Ydc (l := g.events[k].prev) (step := fun z : Bool × Int => Zj4 g (Yk9 g.events T) (i : Int) (k : Int) z.1 z.2) (fun q j => (q, j)) (fun q => q) (fun q p => q && !decide (p = g.events[i].id)) (fun _ _ => True) hpl (fun j q hj _ => by
    refine ⟨?_, trivial⟩
    simp only [Zj4, Zj3, Zj2]
    rw [ht, Wb, hrk, Wu, Ycv hk, Wb, dlt hj, Wu, Ycv hi, Ycw hj hpl]
    cases q with
    | false => rfl
    | true =>
     simp only [Wu, Wb]
     rw [Ycv hj, Wb, bned]; rfl)
    (fun q _ => by
     simp only [Zj4, Zj3]
     rw [ht, Wb, hrk, Wu, Ycv hk, Wb, dnlt, Wv]) (s := b) trivial
   rw [this.1]
   congr 1
   have key : ∀ (ps : List Int) (q : Bool), ps.foldl (fun q p => q && !decide (p = g.events[i].id)) q = (q && !decide (g.events[i].id ∈ ps)) := by
    intro ps
    induction ps with
    | nil => intro q; simp
    | cons p ps ih =>
     intro q
     rw [List.foldl_cons, ih]
     by_cases hp : p = g.events[i].id
     ·
      simp [hp]
     ·
      simp [hp, show ¬ g.events[i].id = p from fun h => hp h.symm]
   rw [key]; simp
 have inner2 : ∀ (i : Nat) (hi : i < g.events.length) (b : Bool), iter (fun z : Bool × Int => Zj5 g (Yk9 g.events T) (i : Int) z.1 z.2) big (b, 0) = some (b && endT g.events T g.events[i].id) := by
  intro i hi b
  have := Ydc (l := g.events) (step := fun z : Bool × Int => Zj5 g (Yk9 g.events T) (i : Int) z.1 z.2) (fun q j => (q, j)) (fun q => q) (fun q e => q && (!T e.id || !decide (g.events[i].id ∈ e.prev))) (fun _ _ => True) (by omega) (fun k q hk _ => by
   refine ⟨?_, trivial⟩
   simp only [Zj5]
   rw [dlt hk, Wu, inner1 i k hi hk, Wb]
   simp only [Zj1]
   rw [Ycw hk (by omega)])
   (fun q _ => by simp only [Zj5]; rw [dnlt, Wv]) (s := b) trivial
  rw [this.1]
  congr 1
  have key : ∀ (l : List Y9j) (q : Bool), l.foldl (fun q e => q && (!T e.id || !decide (g.events[i].id ∈ e.prev))) q = (q && l.all fun e => (!T e.id || !decide (g.events[i].id ∈ e.prev))) := by
   intro l
   induction l with
   | nil => intro q; simp
   | cons e l ih => intro q; rw [List.foldl_cons, ih, List.all_cons, Bool.and_assoc]
  rw [key]
  congr 1
  unfold endT accT
  rw [Bool.eq_iff_iff, List.all_eq_true, List.all_eq_true]
  constructor
  ·
   intro h1 id hid
   obtain ⟨h2, h3⟩ := List.mem_filter.1 hid
   obtain ⟨_, e2, e3⟩ := Yiw h2 hr.fits.up
   have := h1 _ e2
   rw [e3, h3] at this
   simpa using this
  ·
   intro h1 e he
   cases h3 : T e.id with
   | false => rfl
   | true =>
    have := h1 e.id (List.mem_filter.2 ⟨List.mem_map.2 ⟨e, he, rfl⟩, h3⟩)
    have e1 : evD g.events e.id = e := by unfold evD; rw [hr.fits.up.evAt_mem he]; rfl
    rw [e1] at this
    simpa using this
 have := Ydc (l := g.events) (step := fun z : List Int × Int => Zj6 g (Yk9 g.events T) z.1 z.2) (fun q j => (q, j)) (fun q => q) (fun q e => if (T e.id && endT g.events T e.id) = true then q ++ [e.id] else q) (fun i q => q.length ≤ i) (by omega) (fun i q hi hq => by
  refine ⟨?_, by split <;> first | omega | (rw [List.length_append, List.length_singleton]; omega)⟩
  have ht : getI (Yk9 g.events T) (i : Int) = some (T g.events[i].id) := Ykc _ hi
  simp only [Zj6]
  rw [dlt hi, Wu, ht, Wb, inner2 i hi, Wb]
  simp only [Zj0, Ziz]
  rw [Ycv hi, Ycw hi (by omega), Wb, chk8 (by simp; omega)]
  cases (T g.events[i].id && endT g.events T g.events[i].id) <;> rfl)
  (fun q _ => by simp only [Zj6]; rw [dnlt, Wv]) (s := []) (by simp)
 rw [this.1, Wb]
 simp only [Ziy]
 congr 1
 unfold endsT accT
 rw [List.filter_filter]
 have key : ∀ (l : List Y9j) (q : List Int), l.foldl (fun q e => if (T e.id && endT g.events T e.id) = true then q ++ [e.id] else q) q = q ++ (l.map (·.id)).filter fun x => endT g.events T x && T x := by
  intro l
  induction l with
  | nil => intro q; simp
  | cons e l ih =>
   intro q
   rw [List.foldl_cons, ih]
   cases hc : T e.id && endT g.events T e.id with
   | true => rw [if_pos rfl, List.map_cons, List.filter_cons_of_pos (by rw [Bool.and_comm]; exact hc)]; simp
   | false => rw [if_neg (by simp), List.map_cons, List.filter_cons_of_neg (by rw [Bool.and_comm, hc]; simp)]
 rw [key]; rfl


def nowT (g : Y9k) (h : Y9p) (T : Int → Bool) : List Y9m := resOf g ((endsT g.events T).map (behI h.after))

theorem Both.endsT {g : Y9k} {h : Y9p} {w : Y9n} (hb : Both g h w) (hr : Yjs g) (T : Int → Bool) : Mrg g ((endsT g.events T).map (behI h.after)) := by
 refine ⟨hr.fits, hr.ev, hr.deep, fun s hs => ?_, by have := Yk8 hr.fits T; simp; omega⟩
 obtain ⟨id, hid, rfl⟩ := List.mem_map.1 hs
 have hm := Yk7 hid
 obtain ⟨_, e2, e3⟩ := Yiw hm hr.fits.up
 have := (hb.behind hr e2).2
 rwa [e3] at this

theorem Yke {g : Y9k} {h : Y9p} {w : Y9n} (hb : Both g h w) (hr : Yjs g) (T : Int → Bool) : Zjf g w (Yk9 g.events T) = some (nowT g h T) := by
 have hgr := hb.graph
 have hel := Yk8 hr.fits T
 have hfl := hr.fits.len
 unfold Zjf
 rw [Ykd hr, Wb]
 have := Ydc (l := endsT g.events T) (step := fun z : List (List Y9m) × Int => Zje g w (endsT g.events T) z.1 z.2) (fun q j => (q, j)) (fun q => q) (fun q p => q ++ [behI h.after p]) (fun i q => q.length = i) (by omega) (fun i q hi hq => by
  refine ⟨?_, by simp [hq]⟩
  have hm := Yk7 (Wm hi)
  obtain ⟨_, e2, e3⟩ := Yiw hm hr.fits.up
  have hbe := (hb.behind hr e2).1
  rw [e3] at hbe
  simp only [Zje]
  rw [dlt hi, Wu, Ycv hi, Wb, Yds _ _ (by omega), Wb, hbe, Wb, Ygl (by simp; omega), Wb, Ycw hi (by omega)])
  (fun q _ => by simp only [Zje]; rw [dnlt, Wv]) (s := []) rfl
 rw [this.1, Yjv, Wb]
 simp only [Zjd, List.nil_append]
 have hm' : Mrg h.graph ((endsT g.events T).map (behI h.after)) := by rw [hgr]; exact hb.endsT hr T
 obtain ⟨c1, _, _⟩ := Yj1 hm' hb.depth
 rw [hb.depths, ← hgr]
 rw [hgr] at c1 ⊢
 rw [c1]
 rfl

theorem Ykf {g : Y9k} {h : Y9p} {w : Y9n} (hb : Both g h w) (hr : Yjs g) : Zjb w = some (Yk9 g.events (refB h)) := by
 have hfl := hr.fits.len
 have hlc := hb.lc
 unfold Zjb
 rw [Y4z (Wt (by omega)), Wb, Int.toNat_natCast]
 rw [Ykb (by omega) (fun l i => by simp only [Zja]), Wb]
 have := Yka hb hr
 rw [hb.graph] at this
 rw [this]; rfl
end Go.Proofs.YtomachnjepgpbaaGreat
namespace Go.Proofs.YtomachnjepgpbaaGreat
open Go Go.Abs


def Ykg : Y9p := ⟨⟨0, [], []⟩, [], [], [], []⟩
def hiG (g : Y9k) : Y9p := (Zgn g).getD Ykg
def knG (g : Y9k) : Y9n := (Z7u g).getD ⟨[], [], [], []⟩
theorem Ykh {g : Y9k} (hr : Yjs g) : Zgn g = some (hiG g) ∧ Z7u g = some (knG g) ∧ Both g (hiG g) (knG g) := by
 obtain ⟨h, w, h1, h2, h3⟩ := Yjx hr
 unfold hiG knG
 rw [h1, h2]
 exact ⟨rfl, rfl, h3⟩

def okB (g : Y9k) (id : Int) : Bool := refB (hiG g) id
end Go.Proofs.YtomachnjepgpbaaGreat
namespace Go.Proofs.YtomachnjepgpbaaGreat
open Go Go.Abs

theorem Yki {g : Y9k} {s : List Y9m} (h : Sts g s) {e : Y9j} (k : e.kind = 8) (hn : evAt g.events e.key = none) : alw g s e ≠ 0 := by
 unfold alw Z6w Z6v Z6u Z6t Z6s
 rw [Ygh _ _ _ (by have := h.sl; omega), Wb, Yh7 h, Yh9 h, Yds _ _ (by have := h.len; omega)]
 simp only [Wb, Ydu, Yh1, hn, k, bned]
 by_cases h1 : idS s 1 0 > 0 <;> by_cases h2 : mbr g.events s e.author = 1 <;> simp [h1, h2, Yhb]

section
variable {g g' : Y9k} (x : ExtG g g')
include x
theorem ExtG.lay1 {s : List Y9m} (hs : StOk g.events s) {e : Y9j} (hk : e.kind ≠ 8) : layE g' s e = layE g s e := by
 unfold layE
 rw [x.alw (x.right.sts hs) (x.right'.sts (x.ext.st hs)) fun h => absurd h hk]
theorem ExtG.lays : ∀ {es : List Y9j} {s : List Y9m}, StOk g.events s → (∀ e ∈ es, e ∈ g.events ∧ e.kind ≠ 8) → es.foldl (layE g') s = es.foldl (layE g) s
 | [], _, _, _ => rfl
 | e :: es, s, hs, he => by
  obtain ⟨h1, h2⟩ := he e (by simp)
  rw [List.foldl_cons, List.foldl_cons, x.lay1 hs h2]
  exact ExtG.lays (Yis (es := [e]) x.right.fits.up hs (by simpa using h1)) fun f hf => he f (by simp [hf])
theorem ExtG.mrg {ls : List (List Y9m)} (hm : Mrg g ls) : Mrg g' ls := ⟨x.right'.fits, x.right'.ev, x.right'.deep, fun s hs => x.ext.st (hm.ok s hs), hm.len⟩
end

theorem Ykj {g : Y9k} {ls : List (List Y9m)} (hm : Mrg g ls) (hlo : ∀ s ∈ ls, Low s) {n : Int} (hn : n ∈ (Yic ls).2) : (evD g.events n).kind ≤ 6 ∧ ∃ s ∈ ls, ∃ y ∈ s, y.id = n ∧ y = ⟨(evD g.events n).kind, (evD g.events n).key, (evD g.events n).id⟩ := by
 obtain ⟨s, hs, y, hy, _, rfl⟩ := ((Yig hm).2 n).1 hn
 obtain ⟨e, he, h1, h2⟩ := (hm.ok s hs).ev y hy
 have h3 : evD g.events y.id = e := by unfold evD; rw [he]; rfl
 have h4 := (Ydz he).2
 rw [h3, h1, h2, h4]
 exact ⟨hlo s hs y hy, s, hs, y, hy, rfl, rfl⟩

theorem ExtG.resOf {g g' : Y9k} (x : ExtG g g') {ls : List (List Y9m)} (hm : Mrg g ls) (hlo : ∀ s ∈ ls, Low s) : resOf g' ls = resOf g ls := by
 obtain ⟨od, a1, a2, a3⟩ := Zkh hm
 obtain ⟨od', b1, b2, b3⟩ := Zkh (x.mrg hm)
 have hR := (Yif hm).2
 have hin : ∀ n ∈ od, n ∈ g.events.map (·.id) := fun n hn => hR.ids n (a2.mem_iff.1 hn)
 have hin' : ∀ n ∈ od', n ∈ g.events.map (·.id) := fun n hn => hR.ids n (b2.mem_iff.1 hn)
 have e : od' = od := by
  refine List.Perm.eq_of_pairwise (le := fun a b => Lt3 (dmR g.events) (evD g.events a) (evD g.events b)) (fun a b _ _ h1 h2 => by unfold Lt3 at h1 h2; omega) ?_ a3 (b2.trans a2.symm)
  refine List.Pairwise.imp_of_mem (fun {a b} ha hb hab => ?_) b3
  have ha1 := Yiw (hin' a ha) x.right.fits.up
  have hb1 := Yiw (hin' b hb) x.right.fits.up
  rw [x.ext.evD (hin' a ha), x.ext.evD (hin' b hb)] at hab
  unfold Lt3 at hab ⊢
  rw [x.ext.dmR ha1.2.1, x.ext.dmR hb1.2.1] at hab
  exact hab
 unfold Go.Proofs.YtomachnjepgpbaaGreat.resOf
 rw [a1, b1, e, List.map_congr_left (g := evD g.events) fun n hn => x.ext.evD (hin n hn), Option.getD_some, Option.getD_some]
 refine x.lays hR.ok fun e he => ?_
 obtain ⟨n, hn, rfl⟩ := List.mem_map.1 he
 have := (Ykj hm hlo (a2.mem_iff.1 hn)).1
 exact ⟨(Yiw (hin n hn) x.right.fits.up).2.1, by omega⟩

theorem Ykk {g : Y9k} {ls : List (List Y9m)} (hm : Mrg g ls) (hlo : ∀ s ∈ ls, Low s) : ∀ y ∈ resOf g ls, ∃ s ∈ ls, y ∈ s := by
 obtain ⟨od, a1, a2, _⟩ := Zkh hm
 have hR := (Yif hm).2
 unfold resOf
 rw [a1, Option.getD_some]
 have key : ∀ (od : List Int) (s : List Y9m), (∀ n ∈ od, n ∈ (Yic ls).2) → StOk g.events s → (∀ y ∈ s, ∃ t ∈ ls, y ∈ t) → ∀ y ∈ (od.map (evD g.events)).foldl (layE g) s, ∃ t ∈ ls, y ∈ t := by
  intro od
  induction od with
  | nil => intro s _ _ h; exact h
  | cons n od ih =>
   intro s hn hs h
   have hn1 := hn n (by simp)
   rw [List.map_cons, List.foldl_cons]
   refine ih _ (fun m hm => hn m (by simp [hm])) (Yis (es := [evD g.events n]) hm.fits.up hs (by simpa using (Yiw (hR.ids n hn1) hm.fits.up).2.1)) fun y hy => ?_
   unfold layE at hy
   split at hy
   ·
    rcases (Yhl hs.up).1 hy with rfl | ⟨hy, _⟩
    ·
     obtain ⟨_, t, ht, z, hz, _, rfl⟩ := Ykj hm hlo hn1
     exact ⟨t, ht, hz⟩
    ·
     exact h y hy
   ·
    exact h y hy
 exact key od _ (fun n hn => a2.mem_iff.1 hn) hR.ok fun y hy => (((Yig hm).1 y).1 hy).1
theorem Ykl {g : Y9k} {s : List Y9m} (hs : StOk g.events s) {e : Y9j} : ∀ y ∈ nextOf g s e, y ∈ s ∨ (y = ⟨e.kind, e.key, e.id⟩ ∧ e.kind ≤ 6) := fun y hy => by
 unfold nextOf at hy
 split at hy
 ·
  rename_i h
  rcases (Yhl hs.up).1 hy with rfl | ⟨hy, _⟩
  ·
   exact .inr ⟨rfl, h.2⟩
  ·
   exact .inl hy
 ·
  exact .inl hy

section
variable {g g' : Y9k} (x : ExtG g g')
include x
theorem ExtG.code0 {s : List Y9m} (hs : StOk g.events s) {e : Y9j} (he : e ∈ g.events) : Yjp g' s e = 0 ↔ Yjp g s e = 0 := by
 have h := x.right.sts hs
 have h' := x.right'.sts (x.ext.st hs)
 have ha := x.ahead e.key he
 by_cases h8 : e.kind = 8
 ·
  cases hv : evAt g.events e.key with
  | none =>
   obtain ⟨b, h1, h2⟩ := Zki x.right.walk e.key he
   have hno : e.key ∉ g.events.map (·.id) := fun hm => by
    have := Yj5.2 hm
    rw [Yh1, hv] at this; cases this
   obtain rfl := h2.none x.right.walk hno fun p hp => Yj5.1 (x.ext.fits.whole e he p hp)
   have hb : Yjo g e.key e = false := by unfold Yjo; rw [h1]; rfl
   rw [hb] at ha
   have := Yki h h8 hv
   unfold Yjp
   by_cases hz : Go.Proofs.YtomachnjepgpbaaGreat.alw g' s e = 0 <;> simp [hz, h8, this, ha]
  | some f =>
   unfold Yjp
   rw [ha, x.alw h h' fun _ => by rw [hv, x.ext.at hv]]
 ·
  unfold Yjp
  rw [ha, x.alw h h' fun h => absurd h h8]
theorem ExtG.nextOf {s : List Y9m} (hs : StOk g.events s) {e : Y9j} (he : e ∈ g.events) : nextOf g' s e = nextOf g s e := by
 have := x.code0 hs he
 unfold Go.Proofs.YtomachnjepgpbaaGreat.nextOf
 simp only [this]
end


def stA (g : Y9k) (id : Int) : List Y9m := behI (hiG g).after id
def stP (g : Y9k) (e : Y9j) : List Y9m := Go.Proofs.YtomachnjepgpbaaGreat.resOf g (e.prev.map (stA g))

theorem Ykm {g : Y9k} (hr : Yjs g) {e : Y9j} (he : e ∈ g.events) : StOk g.events (stP g e) ∧ stA g e.id = nextOf g (stP g e) e ∧ (okB g e.id = true ↔ Yjp g (stP g e) e = 0) := by
 have k := (Ykh hr).2.2.all e he
 refine ⟨k.ok, ?_, ?_⟩
 ·
  unfold stA
  show Option.getD (mget (hiG g).after e.id) [] = _
  rw [k.mA]; rfl
 ·
  unfold okB refB
  rw [k.mR, Option.getD_some, decide_eq_true_iff]; exact Iff.rfl
theorem Ykn {g : Y9k} (hr : Yjs g) {e : Y9j} (he : e ∈ g.events) : StOk g.events (stA g e.id) := by
 obtain ⟨h1, h2, _⟩ := Ykm hr he
 rw [h2]; exact Yjq hr.fits.up h1 he

theorem Yko {l : List Y9j} (hf : Fits l) (hd : Deep l) {P : Y9j → Prop} (h : ∀ e ∈ l, (∀ f ∈ l, f.id ∈ e.prev → P f) → P e) : ∀ e ∈ l, P e := by
 have key : ∀ n : Nat, ∀ e ∈ l, (dOf l (Yep l) e.id).toNat ≤ n → P e := by
  intro n
  induction n with
  | zero =>
   intro e he hn
   have := (Yjy hf hd he).2
   omega
  | succ n ih =>
   intro e he hn
   refine h e he fun f hfl hp => ih f hfl ?_
   have := Yje hf hd he hp
   have := (Yjy hf hd hfl).2
   omega
 exact fun e he => key _ e he (Nat.le_refl _)

theorem Ykp {g : Y9k} (hr : Yjs g) {e : Y9j} (he : e ∈ g.events) : Mrg g (e.prev.map (stA g)) := ⟨hr.fits, hr.ev, hr.deep, fun s hs => by
 obtain ⟨p, hp, rfl⟩ := List.mem_map.1 hs
 obtain ⟨f, hf, rfl⟩ := Ydy.1 (hr.fits.whole e he p hp)
 exact Ykn hr hf, by have := (hr.ev e he).prev.1; simp; omega⟩

theorem Ykq {g : Y9k} (hr : Yjs g) : ∀ e ∈ g.events, Low (stA g e.id) := by
 refine Yko hr.fits hr.deep fun e he ih y hy => ?_
 obtain ⟨h1, h2, _⟩ := Ykm hr he
 rw [h2] at hy
 have hlo : ∀ s ∈ e.prev.map (stA g), Low s := fun s hs => by
  obtain ⟨p, hp, rfl⟩ := List.mem_map.1 hs
  obtain ⟨f, hf, rfl⟩ := Ydy.1 (hr.fits.whole e he p hp)
  exact ih f hf hp
 rcases Ykl h1 y hy with hy | ⟨rfl, hk⟩
 ·
  obtain ⟨s, hs, hy⟩ := Ykk (Ykp hr he) hlo y hy
  exact hlo s hs y hy
 ·
  exact hk
end Go.Proofs.YtomachnjepgpbaaGreat
namespace Go.Proofs.YtomachnjepgpbaaGreat
open Go Go.Abs

theorem Ykr {α β : Type} (f : α → β) : ∀ (l : List α) (s : List β), l.foldl (fun q x => q ++ [f x]) s = s ++ l.map f
 | [], s => by simp
 | x :: l, s => by rw [List.foldl_cons, Ykr f l]; simp
theorem Yks {α β τ ω : Type} {l : List α} {step : τ → Option (τ ⊕ ω)} (f : α → β) (emb : List β → Int → τ) (fin : List β → ω) (hl : l.length < 9223372036854775807)
  (h1 : ∀ (i : Nat) (s : List β) (hi : i < l.length), s.length = i → step (emb s i) = some (.inl (emb (s ++ [f l[i]]) ((i + 1 : Nat) : Int)))) (h2 : ∀ s : List β, step (emb s l.length) = some (.inr (fin s))) :
  iter step big (emb [] 0) = some (fin (l.map f)) := by
 have := (Ydc (l := l) (step := step) emb fin (fun q x => q ++ [f x]) (fun i q => q.length = i) hl (fun i s hi hs => ⟨h1 i s hi hs, by rw [List.length_append, hs]; rfl⟩) (fun s _ => h2 s) (s := []) rfl).1
 rwa [Ykr, List.nil_append] at this
theorem l02c (e : Y9j) (h : e.prev.length ≤ 1048576) : Z39 e = some e := by
 unfold Z39
 rw [Y4z (Wt (by simp only [List.length_nil]; omega))]; rfl
theorem l03c (g : Y9k) (h : Fine g) : Z3f g = some g := by
 have h1 := h.elen
 have h2 := h.plen
 unfold Z3f
 rw [Yks (l := g.events) (step := fun z : List Y9j × List Y9j × Int => Z3e g z.1 z.2.1 z.2.2) (fun x => x) (fun q j => ([], q, j)) (fun q => ([], q)) (by omega) (fun i s hi hs => by
  simp only [Z3e]
  rw [dlt hi, Wu, Ycv hi, Wb, l02c _ (h.ep _ (Wm hi)), Wb, Y4z (Wt (by simp only [List.length_cons, List.length_nil]; omega)), Wb, Ycw hi (by omega)]) (fun s => by simp only [Z3e]; rw [dnlt, Wv])]
 rw [Wb]
 simp only [Z3d]
 rw [Yks (l := g.parked) (step := fun z : List Y9j × Int => Z3c g z.1 z.2) (fun x => x) (fun q j => (q, j)) (fun q => q) (by omega) (fun i s hi hs => by
  simp only [Z3c]
  rw [dlt hi, Wu, Ycv hi, Wb, l02c _ (h.pp _ (Wm hi)), Wb, Y4z (Wt (by simp only [List.length_cons, List.length_nil]; omega)), Wb, Ycw hi (by omega)]) (fun s => by simp only [Z3c]; rw [dnlt, Wv])]
 simp [Z3b]
end Go.Proofs.YtomachnjepgpbaaGreat
namespace Go.Proofs.YtomachnjepgpbaaGreat
open Go Go.Abs


def insE (l : List Y9j) (x : Y9j) : List Y9j := (l.takeWhile fun e => decide (e.id < x.id)) ++ x :: (l.dropWhile fun e => decide (e.id < x.id))
theorem Ykt {l : List Y9j} {x y : Y9j} : y ∈ insE l x ↔ y = x ∨ y ∈ l := by
 unfold insE
 rw [List.mem_append, List.mem_cons]
 have h : y ∈ l ↔ y ∈ (l.takeWhile fun e => decide (e.id < x.id)) ∨ y ∈ (l.dropWhile fun e => decide (e.id < x.id)) := by
  rw [← List.mem_append, List.takeWhile_append_dropWhile]
 rw [h]
 constructor
 ·
  rintro (h | h | h)
  ·
   exact .inr (.inl h)
  ·
   exact .inl h
  ·
   exact .inr (.inr h)
 ·
  rintro (h | h | h)
  ·
   exact .inr (.inl h)
  ·
   exact .inl h
  ·
   exact .inr (.inr h)
theorem Yku (l : List Y9j) (x : Y9j) : (insE l x).length = l.length + 1 := by
 unfold insE
 have := congrArg List.length (List.takeWhile_append_dropWhile (p := fun e : Y9j => decide (e.id < x.id)) (l := l))
 rw [List.length_append] at this
 rw [List.length_append, List.length_cons]; omega
theorem Ykv {l : List Y9j} (h : Up2 l) {x : Y9j} (hx : hasE l x.id = false) : Up2 (insE l x) := by
 have hs : ∀ e ∈ l, e.id ≠ x.id := fun e he hi => by rw [Ydy.2 ⟨e, he, hi⟩] at hx; cases hx
 have htd := List.takeWhile_append_dropWhile (p := fun e : Y9j => decide (e.id < x.id)) (l := l)
 have h2 := h
 rw [← htd] at h2
 obtain ⟨p1, p2, p3⟩ := Yf6.1 h2
 have hlt : ∀ e ∈ (l.takeWhile fun e => decide (e.id < x.id)), e.id < x.id := fun e he => by
  have := List.all_eq_true.1 (List.all_takeWhile (p := fun e : Y9j => decide (e.id < x.id)) (l := l)) e he
  simpa using this
 have hgt : ∀ e ∈ (l.dropWhile fun e => decide (e.id < x.id)), x.id < e.id := by
  intro e he
  cases hd : l.dropWhile fun e => decide (e.id < x.id) with
  | nil => rw [hd] at he; cases he
  | cons a r =>
   have ha : ¬ a.id < x.id := by
    have := List.head?_dropWhile_not (fun e : Y9j => decide (e.id < x.id)) l
    rw [hd] at this
    simpa using this
   have hal : a ∈ l := by rw [← htd, hd]; simp
   have hne := hs a hal
   rw [hd] at he p2
   obtain ⟨q1, _⟩ := List.pairwise_cons.1 p2
   rcases List.mem_cons.1 he with rfl | he
   ·
    omega
   ·
    have := q1 e he; omega
 unfold insE
 refine Yf6.2 ⟨p1, List.pairwise_cons.2 ⟨hgt, p2⟩, fun a ha b hb => ?_⟩
 have h3 := hlt a ha
 rcases List.mem_cons.1 hb with rfl | hb
 ·
  exact h3
 ·
  have := hgt b hb; omega
theorem Ykw {l : List Y9j} {x : Y9j} {id : Int} : hasE (insE l x) id = (hasE l id || decide (x.id = id)) := by
 rw [Bool.eq_iff_iff, Ydy, Bool.or_eq_true, Ydy, decide_eq_true_iff]
 constructor
 ·
  rintro ⟨e, he, rfl⟩
  rcases Ykt.1 he with rfl | he
  ·
   exact .inr rfl
  ·
   exact .inl ⟨e, he, rfl⟩
 ·
  rintro (⟨e, he, rfl⟩ | rfl)
  ·
   exact ⟨e, Ykt.2 (.inr he), rfl⟩
  ·
   exact ⟨x, Ykt.2 (.inl rfl), rfl⟩

theorem Ykx {l : List Y9j} (x : Y9j) (hl : l.length < 1000000) (hx : x.prev.length < 1000000) : Z3k l x = some (insE l x) := by
 unfold Z3k
 rw [Ygj (l := l) (fun e => decide (e.id < x.id)) (by omega) (fun i hi => by
  simp only [Z3j, Z3i]
  rw [dlt hi, Wu, Ycv hi, Wb, Ycw hi (by omega)]
  cases decide (l[i].id < x.id) <;> rfl) (by simp only [Z3j, Z3i]; rw [dnlt, Wv, Wv]), Wb]
 have hk : (l.takeWhile fun e => decide (e.id < x.id)).length ≤ l.length := (List.takeWhile_prefix _).length_le
 obtain ⟨e1, e2⟩ := Ygk (fun e : Y9j => decide (e.id < x.id)) l
 have hd : (l.dropWhile fun e => decide (e.id < x.id)).length ≤ l.length := (List.dropWhile_suffix _).length_le
 simp only [Z3h]
 rw [Y65 hk, Wb, e1, Yii (by simp; omega), Wb, Yj6 x hx, Wb, Yii (by simp; omega), Wb, Y66 hk, Wb, e2, Yii (by simp; omega), Wb]
 simp [insE]

theorem Yky {g : Y9k} (he : g.events.length < 1000000) (hp : g.parked.length < 1000000) (hpp : ∀ e ∈ g.parked, e.prev.length < 9223372036854775807) : Z3o g = some (idxP (Ygc g.events) g.parked) := by
 unfold Z3o
 rw [Yde (Yd9 (l := g.parked) (step := Z3n g) (Ygc g.events) (by omega) (fun i hi => by
  simp only [Z3n]
  rw [dlt hi, Wu, Ycv hi, Wb, Ye0 _ _ (by omega) (hpp _ (Wm hi)), Wb, Ycw hi (by omega)]
  show cond (Ygc g.events g.parked[i]) _ _ = _
  cases Ygc g.events g.parked[i] <;> rfl) (by simp only [Z3n]; rw [dnlt, Wv])) (fun _ => rfl) rfl]


theorem Ykz {l : List Y9j} (hf : Fits l) (hd : Deep l) {x : Y9j} (hw : Ygc l x = true) (hn : hasE l x.id = false) (h60 : l.length < 60) (hx : x.prev.length ≤ 4) : Fits (insE l x) ∧ Deep (insE l x) := by
 have hall : ∀ p ∈ x.prev, hasE l p = true := List.all_eq_true.1 hw
 have hfit : Fits (insE l x) := ⟨Ykv hf.up hn, fun e he p hp => by
   rw [Ykw]
   rcases Ykt.1 he with rfl | he
   ·
    rw [hall p hp]; rfl
   ·
    rw [hf.whole e he p hp]; rfl, by rw [Yku]; omega, fun e he => by
   rcases Ykt.1 he with rfl | he
   ·
    omega
   ·
    exact hf.plen e he⟩
 refine ⟨hfit, Yk0 hfit (fun id => if id = x.id then 4000 else (dOf l (Yep l) id).toNat) fun e he p hp => ?_⟩
 have hb := (Yev hf).2
 have hm : l.length * l.length ≤ 60 * 60 := Nat.mul_le_mul hf.len hf.len
 have hlow : ∀ p, hasE l p = true → p ≠ x.id ∧ (dOf l (Yep l) p).toNat < 4000 := fun p hp => by
  refine ⟨fun e => (by rw [e, hn] at hp; cases hp), ?_⟩
  have := (hb.in_ _ (Yeq hb.len hp).2).2
  omega
 rcases Ykt.1 he with rfl | he
 ·
  obtain ⟨h1, h2⟩ := hlow p (hall p hp)
  simp only [if_neg h1, if_true]; exact h2
 ·
  obtain ⟨h1, _⟩ := hlow p (hf.whole e he p hp)
  obtain ⟨h2, _⟩ := hlow e.id (Ydx he)
  simp only [if_neg h1, if_neg h2]
  have h3 := Yje hf hd he hp
  obtain ⟨f, hfl, rfl⟩ := Ydy.1 (hf.whole e he p hp)
  have := (Yjy hf hd hfl).2
  omega
structure Grow (g : Y9k) (ev pk : List Y9j) (ad : List Int) : Prop where
 fits : Fits ev
 deep : Deep ev
 evok : ∀ e ∈ ev, EvOk e ∧ e.room = g.room
 sub : ∀ e ∈ g.events, e ∈ ev
 pup : Up2 pk
 pev : ∀ e ∈ pk, EvOk e ∧ e.room = g.room
 apart : ∀ e ∈ ev, hasE pk e.id = false
 alen : ad.length + pk.length ≤ 21
 nodup : ad.Nodup
 anew : ∀ id ∈ ad, hasE g.events id = false
 amem : ∀ id, hasE ev id = true ↔ hasE g.events id = true ∨ id ∈ ad
 aord : ∀ (i : Nat) (hi : i < ad.length), ∀ p ∈ (evD ev ad[i]).prev, hasE g.events p = true ∨ p ∈ ad.take i

theorem Grow.step {g : Y9k} {ev pk pk' : List Y9j} {ad : List Int} (w : Grow g ev pk ad) {x : Y9j} (hx : EvOk x ∧ x.room = g.room) (hw : Ygc ev x = true) (hn : hasE ev x.id = false) (h60 : ev.length < 60) (hl : pk'.length + ad.length + 1 ≤ 21) (hu : Up2 pk') (hs : ∀ e ∈ pk', e ∈ pk ∧ e.id ≠ x.id) : Grow g (insE ev x) pk' (ad ++ [x.id]) := by
 obtain ⟨f1, f2⟩ := Ykz w.fits w.deep hw hn h60 hx.1.prev.1
 have hna : x.id ∉ ad := fun h => by rw [(w.amem _).2 (.inr h)] at hn; cases hn
 have hev : ∀ id, hasE ev id = true → evD (insE ev x) id = evD ev id := fun id hi => by
  obtain ⟨e, he, rfl⟩ := Ydy.1 hi
  unfold evD
  rw [w.fits.up.evAt_mem he, f1.up.evAt_mem (Ykt.2 (.inr he))]
 have hxx : evD (insE ev x) x.id = x := by
  unfold evD
  rw [f1.up.evAt_mem (Ykt.2 (.inl rfl))]; rfl
 refine ⟨f1, f2, fun e he => ?_, fun e he => Ykt.2 (.inr (w.sub e he)), hu, fun e he => w.pev e (hs e he).1, fun e he => ?_, by simp; omega, ?_, fun id hi => ?_, fun id => ?_, fun i hi p hp => ?_⟩
 ·
  rcases Ykt.1 he with rfl | he
  ·
   exact hx
  ·
   exact w.evok e he
 ·
  rw [Bool.eq_false_iff]
  intro hh
  obtain ⟨f, hf, hid⟩ := Ydy.1 hh
  obtain ⟨q1, q2⟩ := hs f hf
  rcases Ykt.1 he with rfl | he
  ·
   exact q2 hid
  ·
   have := w.apart e he
   rw [Ydy.2 ⟨f, q1, hid⟩] at this; cases this
 ·
  rw [List.nodup_append]
  exact ⟨w.nodup, by simp, fun a ha b hb e => by rw [List.mem_singleton] at hb; subst hb; subst e; exact hna ha⟩
 ·
  rcases List.mem_append.1 hi with hi | hi
  ·
   exact w.anew id hi
  ·
   rw [List.mem_singleton] at hi
   subst hi
   rw [Bool.eq_false_iff]
   intro hh
   rw [(w.amem _).2 (.inl hh)] at hn; cases hn
 ·
  rw [Ykw, Bool.or_eq_true, w.amem, decide_eq_true_iff, List.mem_append, List.mem_singleton, or_assoc]
  constructor
  ·
   rintro (h | h | h)
   ·
    exact .inl h
   ·
    exact .inr (.inl h)
   ·
    exact .inr (.inr h.symm)
  ·
   rintro (h | h | h)
   ·
    exact .inl h
   ·
    exact .inr (.inl h)
   ·
    exact .inr (.inr h.symm)
 ·
  rw [List.length_append, List.length_singleton] at hi
  by_cases hil : i < ad.length
  ·
   rw [List.getElem_append_left hil, hev _ ((w.amem _).2 (.inr (Wm hil)))] at hp
   rcases w.aord i hil p hp with h | h
   ·
    exact .inl h
   ·
    exact .inr (by rw [List.take_append_of_le_length (by omega)]; exact h)
  ·
   obtain rfl : i = ad.length := by omega
   rw [List.getElem_append_right (Nat.le_refl _)] at hp
   simp only [Nat.sub_self, List.getElem_cons_zero] at hp
   rw [hxx] at hp
   rcases (w.amem p).1 (List.all_eq_true.1 hw p hp) with h | h
   ·
    exact .inl h
   ·
    exact .inr (by rw [List.take_append_of_le_length (Nat.le_refl _), List.take_length]; exact h)

theorem Grow.skip {g : Y9k} {ev pk pk' : List Y9j} {ad : List Int} (w : Grow g ev pk ad) (hl : pk'.length ≤ pk.length) (hu : Up2 pk') (hs : ∀ e ∈ pk', e ∈ pk) : Grow g ev pk' ad :=
 ⟨w.fits, w.deep, w.evok, w.sub, hu, fun e he => w.pev e (hs e he), fun e he => (by
  rw [Bool.eq_false_iff]
  intro hh
  obtain ⟨f, hf, hid⟩ := Ydy.1 hh
  have := w.apart e he
  rw [Ydy.2 ⟨f, hs f hf, hid⟩] at this
  cases this), by have := w.alen; omega, w.nodup, w.anew, w.amem, w.aord⟩

theorem Grow.done {g : Y9k} {ev pk : List Y9j} {ad : List Int} (w : Grow g ev pk ad) (hr : 1 ≤ g.room ∧ g.room ≤ 3) (hp : pk.length ≤ 20) (h : pk.any (Ygc ev) = false) : GOk ⟨g.room, ev, pk⟩ :=
 ⟨hr, w.fits, w.evok, hp, w.pup, w.pev, w.apart, fun e he => by
  have := List.any_eq_false.1 h e he
  rw [Bool.eq_false_iff]; exact this, w.deep⟩

def relE (ev pk : List Y9j) (ad : List Int) : Nat → List Y9j × List Y9j × List Int
 | 0 => (ev, pk, ad)
 | n + 1 => match pk.findIdx? (Ygc ev) with
  | none => (ev, pk, ad)
  | some k => if ev.length < 60 then relE (insE ev (pk.getD k zEv)) (pk.eraseIdx k) (ad ++ [(pk.getD k zEv).id]) n else relE ev (pk.eraseIdx k) ad n

theorem Yl0 {g : Y9k} : ∀ (n : Nat) {ev pk : List Y9j} {ad : List Int}, Grow g ev pk ad → pk.length ≤ n → Grow g (relE ev pk ad n).1 (relE ev pk ad n).2.1 (relE ev pk ad n).2.2 ∧ (relE ev pk ad n).2.1.length ≤ pk.length ∧ (relE ev pk ad n).2.1.any (Ygc (relE ev pk ad n).1) = false ∧ ∃ r, (relE ev pk ad n).2.2 = ad ++ r
 | 0, ev, pk, ad, w, hn => by
  obtain rfl : pk = [] := List.eq_nil_of_length_eq_zero (by omega)
  exact ⟨w, Nat.le_refl _, rfl, [], by simp [relE]⟩
 | n + 1, ev, pk, ad, w, hn => by
  unfold relE
  cases hf : pk.findIdx? (Ygc ev) with
  | none =>
   rw [List.findIdx?_eq_none_iff] at hf
   exact ⟨w, Nat.le_refl _, List.any_eq_false.2 fun e he => by rw [hf e he]; simp, [], by simp⟩
  | some k =>
   obtain ⟨hk, hkp, _⟩ := List.findIdx?_eq_some_iff_getElem.1 hf
   have hg : pk.getD k zEv = pk[k] := by simp [hk]
   have hel : (pk.eraseIdx k).length + 1 = pk.length := by rw [List.length_eraseIdx]; rw [if_pos hk]; omega
   have hu : Up2 (pk.eraseIdx k) := w.pup.sublist (List.eraseIdx_sublist _ _)
   have hs : ∀ e ∈ pk.eraseIdx k, e ∈ pk := fun e he => (List.eraseIdx_sublist _ _).subset he
   have hne : ∀ e ∈ pk.eraseIdx k, e.id ≠ pk[k].id := fun e he hid => by
    obtain ⟨j, hj, rfl⟩ := List.mem_iff_getElem.1 he
    rw [List.getElem_eraseIdx] at hid
    split at hid
    ·
     have := w.pup.inj (by omega) hk hid; omega
    ·
     have := w.pup.inj (by omega) hk hid; omega
   simp only
   rw [hg]
   by_cases h60 : ev.length < 60
   ·
    rw [if_pos h60]
    have hn2 : hasE ev pk[k].id = false := by
     rw [Bool.eq_false_iff]
     intro hh
     obtain ⟨f, hf, hid⟩ := Ydy.1 hh
     have := w.apart f hf
     rw [Ydy.2 ⟨pk[k], Wm hk, hid.symm⟩] at this; cases this
    have hal := w.alen
    obtain ⟨i1, i2, i3, r, i4⟩ := Yl0 n (w.step (x := pk[k]) (w.pev _ (Wm hk)) hkp hn2 h60 (by omega) hu fun e he => ⟨hs e he, hne e he⟩) (by omega)
    exact ⟨i1, by omega, i3, pk[k].id :: r, by rw [i4]; simp⟩
   ·
    rw [if_neg h60]
    obtain ⟨i1, i2, i3, i4⟩ := Yl0 n (w.skip (by omega) hu hs) (by omega)
    exact ⟨i1, by omega, i3, i4⟩

def addG (g : Y9k) (e : Y9j) : Y9l :=
 if hasE g.events e.id = true ∨ hasE g.parked e.id = true then ⟨⟨0, [], []⟩, [], 7⟩
 else if g.events.length ≥ 60 ∨ (Ygc g.events e = false ∧ g.parked.length ≥ 20) then ⟨⟨0, [], []⟩, [], 9⟩
 else if Ygc g.events e = true then ⟨⟨g.room, (relE (insE g.events e) g.parked [e.id] 20).1, (relE (insE g.events e) g.parked [e.id] 20).2.1⟩, (relE (insE g.events e) g.parked [e.id] 20).2.2, 0⟩
 else ⟨⟨g.room, g.events, insE g.parked e⟩, [], 0⟩

theorem Yl1 {g : Y9k} (k : GOk g) {e : Y9j} (he : EvOk e) (hr : e.room = g.room) (h1 : hasE g.events e.id = false) (h2 : hasE g.parked e.id = false) (h3 : g.events.length < 60) (h4 : Ygc g.events e = true) : Grow g (insE g.events e) g.parked [e.id] := by
 have w0 : Grow g g.events g.parked [] := ⟨k.fits, k.deep, k.ev, fun e he => he, k.pup, k.pev, k.apart, by have := k.plen; simp; omega, .nil, fun id h => (by cases h), fun id => (by simp), fun i hi => (by simp at hi)⟩
 exact w0.step ⟨he, hr⟩ h4 h1 h3 (by have := k.plen; simp; omega) k.pup fun f hf => ⟨hf, fun hid => by rw [Ydy.2 ⟨f, hf, hid⟩] at h2; cases h2⟩

theorem Yl2 {g : Y9k} (k : GOk g) {e : Y9j} (he : EvOk e) (hr : e.room = g.room) (h0 : (addG g e).code = 0) : GOk (addG g e).graph ∧ (addG g e).graph.room = g.room ∧ Grow g (addG g e).graph.events (addG g e).graph.parked (addG g e).added := by
 unfold addG at h0 ⊢
 by_cases h1 : hasE g.events e.id = true ∨ hasE g.parked e.id = true
 ·
  rw [if_pos h1] at h0; cases h0
 ·
  rw [if_neg h1] at h0 ⊢
  obtain ⟨h1a, h1b⟩ := not_or.1 h1
  rw [Bool.not_eq_true] at h1a h1b
  by_cases h2 : g.events.length ≥ 60 ∨ (Ygc g.events e = false ∧ g.parked.length ≥ 20)
  ·
   rw [if_pos h2] at h0; cases h0
  ·
   rw [if_neg h2]
   obtain ⟨h2a, h2b⟩ := not_or.1 h2
   by_cases h3 : Ygc g.events e = true
   ·
    rw [if_pos h3]
    have w := Yl1 k he hr h1a h1b (by omega) h3
    obtain ⟨i1, i2, i3, _⟩ := Yl0 20 w k.plen
    exact ⟨i1.done k.room (by have := k.plen; omega) i3, rfl, i1⟩
   ·
    rw [if_neg h3]
    rw [Bool.not_eq_true] at h3
    have hpl : g.parked.length < 20 := by
     rcases Nat.lt_or_ge g.parked.length 20 with h | h
     ·
      exact h
     ·
      exact absurd ⟨h3, h⟩ h2b
    have hpu := Ykv k.pup h1b
    refine ⟨⟨k.room, k.fits, k.ev, by simp only [Yku]; omega, hpu, fun f hf => ?_, fun f hf => ?_, fun f hf => ?_, k.deep⟩, rfl, ⟨k.fits, k.deep, k.ev, fun e he => he, hpu, fun f hf => ?_, fun f hf => ?_, by simp only [Yku]; simp; omega, .nil, fun id h => (by cases h), fun id => (by simp), fun i hi => (by simp at hi)⟩⟩
    ·
     rcases Ykt.1 hf with rfl | hf
     ·
      exact ⟨he, hr⟩
     ·
      exact k.pev f hf
    ·
     simp only [Ykw]
     rw [k.apart f hf, Bool.false_or, decide_eq_false_iff_not]
     intro hid
     rw [Ydy.2 ⟨f, hf, hid.symm⟩] at h1a; cases h1a
    ·
     rcases Ykt.1 hf with rfl | hf
     ·
      exact h3
     ·
      exact k.lack f hf
    ·
     rcases Ykt.1 hf with rfl | hf
     ·
      exact ⟨he, hr⟩
     ·
      exact k.pev f hf
    ·
     simp only [Ykw]
     rw [k.apart f hf, Bool.false_or, decide_eq_false_iff_not]
     intro hid
     rw [Ydy.2 ⟨f, hf, hid.symm⟩] at h1a; cases h1a

theorem Yl3 (p : Y9j → Bool) (l : List Y9j) : (l.findIdx? p = none ∧ idxP p l = -1) ∨ ∃ k, l.findIdx? p = some k ∧ k < l.length ∧ idxP p l = (k : Int) := by
 unfold idxP
 cases h : l.findIdx? p with
 | none => exact .inl ⟨rfl, rfl⟩
 | some k => exact .inr ⟨k, rfl, (List.findIdx?_eq_some_iff_getElem.1 h).1, rfl⟩

theorem Yl4 {g : Y9k} (k : GOk g) {e : Y9j} (he : EvOk e) (hr : e.room = g.room) : Z3v g e = some (addG g e) := by
 have hel := k.fits.len
 have hpl := k.plen
 have hp4 := he.prev.1
 have hfine : Fine g := ⟨by omega, by omega, fun f hf => by have := (k.ev f hf).1.prev.1; omega, fun f hf => by have := (k.pev f hf).1.prev.1; omega⟩
 unfold Z3v addG
 rw [Ye0 _ _ (by omega) (by omega), Wb, Yds _ _ (by omega), Wb, Ydt]
 show cond (hasE g.events e.id) _ _ = _
 cases h1 : hasE g.events e.id with
 | true => rw [if_pos (.inl rfl)]; rfl
 | false =>
  rw [Wv, Yds _ _ (by omega), Wb, Ydt]
  cases h2 : hasE g.parked e.id with
  | true => rw [if_pos (.inr rfl)]; rfl
  | false =>
   rw [if_neg (by simp)]
   simp only [Z3u, Wv]
   by_cases h3 : g.events.length ≥ 60
   ·
    rw [Wt (by omega : (g.events.length : Int) ≥ 60), if_pos (.inl h3)]; rfl
   ·
    rw [Wf (by omega : ¬ (g.events.length : Int) ≥ 60), Wv]
    cases h4 : Ygc g.events e with
    | false =>
     have h4' : (e.prev.all fun p => hasE g.events p) = false := h4
     rw [h4', Wv]
     by_cases h5 : g.parked.length ≥ 20
     ·
      rw [Wt (by omega : (g.parked.length : Int) ≥ 20), if_pos (.inr ⟨rfl, h5⟩)]; rfl
     ·
      rw [Wf (by omega : ¬ (g.parked.length : Int) ≥ 20), if_neg (by rintro (h | ⟨_, h⟩) <;> omega), if_neg (by simp)]
      simp only [Z3t, Wv]
      rw [l03c g hfine, Wb, Ykx e (by omega) (by omega), Wb]
    | true =>
     have h4' : (e.prev.all fun p => hasE g.events p) = true := h4
     rw [h4', Wu, if_neg (fun x => x.elim (fun h => by omega) fun h => by cases h.1), if_pos rfl]
     simp only [Z3t, Wv, Wu]
     rw [l03c g hfine, Wb, Ykx e (by omega) (by omega), Wb]
     have w0 := Yl1 k he hr h1 h2 (by omega) h4
     have hfr : ∀ {ev pk : List Y9j} {ad : List Int}, Grow g ev pk ad → Z3o ⟨g.room, ev, pk⟩ = some (idxP (Ygc ev) pk) := fun {ev pk ad} w => by
      have h6 := w.fits.len
      have h7 := w.alen
      exact Yky (g := ⟨g.room, ev, pk⟩) (by simp only; omega) (by simp only; omega) fun f hf => by have := (w.pev f hf).1.prev.1; omega
     rw [hfr w0, Wb]
     obtain ⟨⟨o1, o2, o3⟩, e1, e2⟩ := Y51 (step := fun z : List Y9j × List Y9j × List Int × Int => Z3s g z.1 z.2.1 z.2.2.1 z.2.2.2) (p := fun o : List Y9j × List Y9j × List Int => o = relE (insE g.events e) g.parked [e.id] 20)
      (fun m (z : List Y9j × List Y9j × List Int × Int) => ∃ ev pk ad, z = (ev, pk, ad, idxP (Ygc ev) pk) ∧ Grow g ev pk ad ∧ pk.length ≤ m ∧ relE ev pk ad m = relE (insE g.events e) g.parked [e.id] 20) (by
      rintro m z ⟨ev, pk, ad, rfl, w, hm, hrel⟩
      have h6 := w.fits.len
      have h7 := w.alen
      simp only [Z3s]
      rcases Yl3 (Ygc ev) pk with ⟨c1, c2⟩ | ⟨j, c1, hj, c2⟩
      ·
       left
       rw [c2]
       refine ⟨_, rfl, ?_⟩
       rw [← hrel]
       cases m with
       | zero => rfl
       | succ m => simp [relE, c1]
      ·
       right
       rw [c2]
       cases m with
       | zero => omega
       | succ m =>
        have hw := Ycw hj (by omega)
        have hel2 : (pk.eraseIdx j).length + 1 = pk.length := by rw [List.length_eraseIdx]; rw [if_pos hj]; omega
        have her : ([] : List Y9j) ++ pk.take j ++ pk.drop (j + 1) = pk.eraseIdx j := by rw [List.nil_append, List.eraseIdx_eq_take_drop_succ]
        have hu : Up2 (pk.eraseIdx j) := w.pup.sublist (List.eraseIdx_sublist _ _)
        have hs : ∀ f ∈ pk.eraseIdx j, f ∈ pk := fun f hf => (List.eraseIdx_sublist _ _).subset hf
        have hne : ∀ f ∈ pk.eraseIdx j, f.id ≠ pk[j].id := fun f hf hid => by
         obtain ⟨i, hi, rfl⟩ := List.mem_iff_getElem.1 hf
         rw [List.getElem_eraseIdx] at hid
         split at hid
         ·
          have := w.pup.inj (by omega) hj hid; omega
         ·
          have := w.pup.inj (by omega) hj hid; omega
        have hpj := w.pev _ (Wm hj)
        have hp4j := hpj.1.prev.1
        rw [Wt (by omega : (j : Int) ≥ 0), Wu, Ycv hj, Wb, hw, Y4z (Wt ⟨by omega, by omega⟩), Wb, Int.toNat_natCast, Int.toNat_natCast, Y4z (Wt (by omega)), Wb, Yii (by simp; omega), Wb, Y4z (Wt ⟨by omega, by omega⟩), Wb, Y4z (Wt (by omega)), Wb, Yii (by simp; omega), Wb]
        have hgd : pk.getD j zEv = pk[j] := by simp [hj]
        by_cases h60 : ev.length < 60
        ·
         have hnE : hasE ev pk[j].id = false := by
          rw [Bool.eq_false_iff]
          intro hh
          obtain ⟨f, hf, hid⟩ := Ydy.1 hh
          have := w.apart f hf
          rw [Ydy.2 ⟨pk[j], Wm hj, hid.symm⟩] at this; cases this
         have w2 := w.step (x := pk[j]) (pk' := pk.eraseIdx j) hpj (List.findIdx?_eq_some_iff_getElem.1 c1).2.1 hnE h60 (by omega) hu fun f hf => ⟨hs f hf, hne f hf⟩
         rw [Wt (by omega : (ev.length : Int) < 60), Wu, Ykx _ (by omega) (by omega), Wb, chk8 (by simp; omega), Wb]
         simp only [Z3r, Int.toNat_natCast, hw]
         rw [her, hfr w2, Wb]
         refine ⟨_, m, rfl, by omega, _, _, _, rfl, w2, by omega, ?_⟩
         rw [← hrel]
         simp only [relE, c1, hgd, if_pos h60]
        ·
         have w2 := w.skip (pk' := pk.eraseIdx j) (by omega) hu hs
         rw [Wf (by omega : ¬ (ev.length : Int) < 60), Wv]
         simp only [Z3r, Int.toNat_natCast, hw]
         rw [her, hfr w2, Wb]
         refine ⟨_, m, rfl, by omega, _, _, _, rfl, w2, by omega, ?_⟩
         rw [← hrel]
         simp only [relE, c1, if_neg h60]) big 20 (insE g.events e, g.parked, [e.id], idxP (Ygc (insE g.events e)) g.parked) ⟨_, _, _, rfl, w0, hpl, rfl⟩ (Ycq (by omega))
     rw [e1, Wb]
     rw [← e2]
     rfl
end Go.Proofs.YtomachnjepgpbaaGreat
namespace Go.Proofs.YtomachnjepgpbaaGreat
open Go Go.Abs

theorem Yl5 (g : Y9k) (e : Y9j) : Z4t g e = Z3z g e := rfl

theorem Yl6 {g : Y9k} (hg : Fine g) (e : Y9j) : ∃ r, Z3z g e = some r ∧ (r.code = 0 → GOk g ∧ EvOk e ∧ e.room = g.room ∧ r = addG g e ∧ GOk r.graph) := by
 obtain ⟨b, b1, _, b3⟩ := Ygg hg
 obtain ⟨c1, c2⟩ := Ydm e
 have ill : ∀ x : Y9l → Prop, ∃ r, Z3y g e true = some r ∧ (r.code = 0 → x r) := fun x => ⟨_, rfl, fun h => by cases h⟩
 unfold Z3z
 rw [b1, Wb]
 cases b with
 | false => rw [Wv]; exact ill fun r => GOk g ∧ EvOk e ∧ e.room = g.room ∧ r = addG g e ∧ GOk r.graph
 | true =>
  have hk := b3.1 rfl
  rw [Wu, c1, Wb]
  cases hev : evOk e with
  | false => rw [Wv]; exact ill fun r => GOk g ∧ EvOk e ∧ e.room = g.room ∧ r = addG g e ∧ GOk r.graph
  | true =>
   have he := c2.1 hev
   rw [Wu]
   by_cases hr : e.room = g.room
   ·
    have hb : (e.room != g.room) = false := by simp [hr]
    rw [hb]
    simp only [Z3y, Wv]
    rw [Yl4 hk he hr, Wb]
    exact ⟨_, rfl, fun h0 => ⟨hk, he, hr, rfl, (Yl2 hk he hr h0).1⟩⟩
   ·
    have hb : (e.room != g.room) = true := by simp [hr]
    rw [hb]
    exact ill fun r => GOk g ∧ EvOk e ∧ e.room = g.room ∧ r = addG g e ∧ GOk r.graph
end Go.Proofs.YtomachnjepgpbaaGreat
namespace Go.Proofs.YtomachnjepgpbaaGreat
open Go Go.Abs

def Y8g (e : Y9j) : Prop := e.prev.length ≤ 10

theorem Yl7 {s s' : Y9i} {i r a k key n ti : Int} {t : ByteArray} {pl : List Int} (hp : pl.length ≤ 9) (h1 : Yed s') (h2 : s'.size = s.size) :
  DrP s Y8g (Z44 s'.b s'.at_ s'.mix s'.size i r a k key n t pl ti) := by
 simp only [Z44, Z43]
 have fin : ∀ {q : Y9i} {e : Y9j}, Yed q → q.size = s.size → e.prev.length ≤ 10 → DrP s Y8g (some (e, q)) := fun a b c => DrP.ret a b c
 refine DrP.bind (oneD h1 (by omega)) h2 fun r96 a1 a2 _ => ?_
 refine DrP.cond (fun _ => ?_) (fun _ => fin a1 a2 (by simp only; omega))
 refine DrP.bind (nD a1 (by omega) (by omega)) a2 fun r99 b1 b2 b3 => ?_
 refine DrP.cond (fun _ => ?_) (fun _ => DrP.cond (fun _ => ?_) (fun _ => DrP.cond (fun _ => ?_) (fun _ => DrP.cond (fun _ => ?_) (fun _ => DrP.cond (fun _ => ?_) (fun _ => DrP.cond (fun _ => ?_) (fun _ => ?_))))))
 ·
  refine DrP.bind (nD b1 (by omega) (by omega)) b2 fun q c1 c2 c3 => ?_
  exact DrP.get c3.1 (by simpa using c3.2) fun _ _ => fin c1 c2 (by simp only; omega)
 ·
  exact DrP.bind (nD b1 (by omega) (by omega)) b2 fun q c1 c2 c3 => fin c1 c2 (by simp only; omega)
 ·
  exact DrP.bind (nD b1 (by omega) (by omega)) b2 fun q c1 c2 c3 => fin c1 c2 (by simp only; omega)
 ·
  exact DrP.bind (nD b1 (by omega) (by omega)) b2 fun q c1 c2 c3 => fin c1 c2 (by simp only; omega)
 ·
  refine DrP.bind (nD b1 (by omega) (by omega)) b2 fun q c1 c2 c3 => ?_
  rw [Y4z (by simp; omega), Wb]
  exact fin c1 c2 (by simp; omega)
 ·
  refine DrP.bind (nD b1 (by omega) (by omega)) b2 fun q c1 c2 c3 => ?_
  have := c3.1
  have := c3.2
  rw [Y4y (by omega) (by omega), Y4z (Wt (by omega)), Wb]
  exact fin c1 c2 (by simp only; omega)
 ·
  exact DrP.bind (Yel b1) b2 fun q c1 c2 c3 => fin c1 c2 (by simp only; omega)

theorem Yl8 {s : Y9i} (h : Yed s) : DrP s Y8g (Z4b s) := by
 unfold Z4b
 refine DrP.bind (nD h (by omega) (by omega)) rfl fun r2 a1 a2 _ => ?_
 refine DrP.bind (nD a1 (by omega) (by omega)) a2 fun r4 b1 b2 _ => ?_
 refine DrP.bind (nD b1 (by omega) (by omega)) b2 fun r6 c1 c2 _ => ?_
 refine DrP.bind (nD c1 (by omega) (by omega)) c2 fun r8 d1 d2 _ => ?_
 refine DrP.bind (Yen d1 _) d2 fun r10 e1 e2 e3 => ?_
 have hpv : r10.1.prev = [] := e3.2.2.2.1
 obtain ⟨o, i1, i2⟩ := Y51 (step := fun z : List Int × Int × Int × Int × List Int × Int => Z4a r10 z.1 z.2.1 z.2.2.1 z.2.2.2.1 z.2.2.2.2.1 z.2.2.2.2.2) (p := fun o : List Int × Int × Int × Int × List Int => Yed ⟨o.1, o.2.1, o.2.2.1, o.2.2.2.1⟩ ∧ o.2.2.2.1 = s.size ∧ o.2.2.2.2.length ≤ 8)
  (fun n (z : List Int × Int × Int × Int × List Int × Int) => Yed ⟨z.1, z.2.1, z.2.2.1, z.2.2.2.1⟩ ∧ z.2.2.2.1 = s.size ∧ ∃ j : Nat, z.2.2.2.2.2 = (j : Int) ∧ z.2.2.2.2.1.length ≤ j ∧ j ≤ 8 ∧ n = 8 - j) (by
  rintro n ⟨b, a, x, sz, l, y⟩ ⟨g1, g2, j, g3, g4, hj, rfl⟩
  simp only at g1 g2 g3 g4
  subst g3
  simp only [Z4a]
  by_cases h1 : (j : Int) < 8
  ·
   right
   have key : ∀ (q : Y9i) (bb : Bool), Yed q → q.size = s.size → ∃ (x' : List Int × Int × Int × Int × List Int × Int) (m' : Nat), Z49 l (j : Int) q.b q.at_ q.mix q.size bb = some (.inl x') ∧ m' < 8 - j ∧ (Yed ⟨x'.1, x'.2.1, x'.2.2.1, x'.2.2.2.1⟩ ∧ x'.2.2.2.1 = s.size ∧ ∃ j : Nat, x'.2.2.2.2.2 = (j : Int) ∧ x'.2.2.2.2.1.length ≤ j ∧ j ≤ 8 ∧ m' = 8 - j) := fun q bb q1 q2 => by
    simp only [Z49, Z48]
    cases bb with
    | false =>
     rw [Wv, Y4y (by omega) (by omega)]
     exact ⟨_, 8 - (j + 1), rfl, by omega, q1, q2, j + 1, by simp, by simp only; omega, by omega, rfl⟩
    | true =>
     rw [Wu, Y4z (by simp; omega), Wb, Y4y (by omega) (by omega)]
     exact ⟨_, 8 - (j + 1), rfl, by omega, q1, q2, j + 1, by simp, by simp; omega, by omega, rfl⟩
   rw [Wt h1, Wu]
   cases ((j : Int) != r10.1.id) with
   | false => rw [Wv]; exact key ⟨b, a, x, sz⟩ false g1 g2
   | true =>
    rw [Wu]
    cases decide ((l.length : Int) < 2) with
    | false => rw [Wv]; exact key ⟨b, a, x, sz⟩ false g1 g2
    | true =>
     rw [Wu]
     obtain ⟨u, u1, u2, u3, _⟩ := oneD g1 (k := 4) (by omega)
     rw [u1, Wb]
     exact key u.2 u.1 u2 (u3.trans g2)
  ·
   left
   rw [Wf h1, Wv]
   exact ⟨_, rfl, g1, g2, by simp only; omega⟩) big 7 (r10.2.b, r10.2.at_, r10.2.mix, r10.2.size, r10.1.prev, 1) ⟨e1, e2, 1, rfl, by simp [hpv], by omega, rfl⟩ (Ycq (by omega))
 rw [i1, Wb]
 have j3 : ∀ (pl : List Int), pl.length ≤ 9 → DrP s Y8g (Z45 r10 o.1 o.2.1 o.2.2.1 o.2.2.2.1 pl) := fun pl hp => by
  simp only [Z45]
  refine DrP.bind (oneD i2.1 (by omega)) i2.2.1 fun q q1 q2 _ => ?_
  refine DrP.cond (fun _ => ?_) (fun _ => Yl7 hp q1 q2)
  exact DrP.bind (nD q1 (by omega) (by omega)) q2 fun w w1 w2 _ => Yl7 (by simp) w1 w2
 have hol := i2.2.2
 simp only [Z47, Z46]
 exact DrP.cond (fun _ => DrP.cond (fun _ => j3 _ (by simp)) (fun _ => j3 _ (Nat.le_trans hol (by decide)))) (fun _ => j3 _ (Nat.le_trans hol (by decide)))
end Go.Proofs.YtomachnjepgpbaaGreat
namespace Go.Proofs.YtomachnjepgpbaaGreat
open Go Go.Abs

structure SmG (g : Y9k) : Prop where
 elen : g.events.length ≤ 100
 plen : g.parked.length ≤ 100
 ep : ∀ e ∈ g.events, e.prev.length ≤ 10
 pp : ∀ e ∈ g.parked, e.prev.length ≤ 10

theorem SmG.fine {g : Y9k} (h : SmG g) : Fine g := ⟨by have := h.elen; omega, by have := h.plen; omega, fun e he => by have := h.ep e he; omega, fun e he => by have := h.pp e he; omega⟩
theorem GOk.small {g : Y9k} (h : GOk g) : g.events.length ≤ 60 ∧ g.parked.length ≤ 20 ∧ (∀ e ∈ g.events, e.prev.length ≤ 10) ∧ ∀ e ∈ g.parked, e.prev.length ≤ 10 :=
 ⟨h.fits.len, h.plen, fun e he => by have := (h.ev e he).1.prev.1; omega, fun e he => by have := (h.pev e he).1.prev.1; omega⟩

theorem Yl9 {s s' : Y9i} {x : Int} {l p : List Y9j} {b : Bool} (hl : l.length ≤ 60) (hp : p.length ≤ 20) (hle : ∀ e ∈ l, e.prev.length ≤ 10) (hpe : ∀ e ∈ p, e.prev.length ≤ 10) (hb : b = true → 1 ≤ l.length) (h1 : Yed s') (h2 : s'.size = s.size) :
  DrP s SmG (Z4w x l p s'.b s'.at_ s'.mix s'.size b) := by
 simp only [Z4w, Z4v]
 have base : ∀ y, SmG ⟨y, l, p⟩ := fun y => ⟨by simp only; omega, by simp only; omega, hle, hpe⟩
 refine DrP.cond (fun hb1 => ?_) (fun _ => DrP.ret h1 h2 (base _))
 have h0 := hb hb1
 refine DrP.bind (nD h1 (by omega) (by omega)) h2 fun q a1 a2 _ => ?_
 refine DrP.cond (fun _ => ?_) (fun _ => DrP.cond (fun _ => ?_) (fun _ => DrP.cond (fun _ => ?_) (fun _ => DrP.cond (fun _ => ?_) (fun _ => ?_))))
 ·
  exact DrP.bind (nD a1 (by omega) (by omega)) a2 fun w b1 b2 _ => DrP.ret b1 b2 (base _)
 ·
  rw [Y4z (Wt (by omega)), Wb]
  exact DrP.ret a1 a2 ⟨by simp; omega, by simp only; omega, fun e he => hle e (List.mem_of_mem_drop he), hpe⟩
 ·
  refine DrP.get (by omega) (by omega) fun e he => ?_
  rw [Y4z (by simp; omega), Wb]
  refine DrP.ret a1 a2 ⟨by simp only; omega, by simp; omega, hle, fun y hy => ?_⟩
  simp only [List.mem_append, List.mem_singleton] at hy
  rcases hy with hy | rfl
  ·
   exact hpe y hy
  ·
   exact hle _ he
 ·
  rw [Y4y (n := (l.length : Int) - 1) (by omega) (by omega)]
  refine DrP.get (by omega) (by omega) fun e he => ?_
  refine DrP.ret a1 a2 ⟨by simp; omega, by simp only; omega, fun y hy => ?_, hpe⟩
  rcases List.mem_or_eq_of_mem_set hy with hy | rfl
  ·
   exact hle y hy
  ·
   simp
 ·
  refine DrP.bind (Yl8 a1) a2 fun w b1 b2 b3 => ?_
  rw [Y4z (by simp; omega), Wb]
  refine DrP.ret b1 b2 ⟨by simp; omega, by simp only; omega, fun y hy => ?_, hpe⟩
  simp only [List.mem_append, List.mem_singleton] at hy
  rcases hy with hy | rfl
  ·
   exact hle y hy
  ·
   exact b3

theorem Yla {s : Y9i} (h : Yed s) : DrP s SmG (Z51 s) := by
 have hsz := h.size
 unfold Z51
 rw [Y4y (n := 9 + s.size) (by omega) (by omega)]
 refine DrP.bind (nD h (by omega) (by omega)) rfl fun r3 a1 a2 a3 => ?_
 refine DrP.bind (Yhz a1 (by omega)) a2 fun r5 b1 b2 b3 => ?_
 refine DrP.bind (Yi4 (Pe := fun _ => True) (m := 103) b1 (by omega) ⟨b3.2.1, fun _ _ => trivial⟩) b2 fun r8 c1 c2 c3 => ?_
 have hlen := c3.1
 obtain ⟨o, e1, e2⟩ := Y51 (step := fun z : Int × List Y9j × List Y9j × Int => Z50 r8 z.1 z.2.1 z.2.2.1 z.2.2.2) (p := fun o : Int × List Y9j × List Y9j => o.2.1.length ≤ 60 ∧ o.2.2.length ≤ 20 ∧ (∀ e ∈ o.2.1, e.prev.length ≤ 10) ∧ ∀ e ∈ o.2.2, e.prev.length ≤ 10)
  (fun n (z : Int × List Y9j × List Y9j × Int) => (z.2.1.length ≤ 60 ∧ z.2.2.1.length ≤ 20 ∧ (∀ e ∈ z.2.1, e.prev.length ≤ 10) ∧ ∀ e ∈ z.2.2.1, e.prev.length ≤ 10) ∧ ∃ j : Nat, z.2.2.2 = (j : Int) ∧ j ≤ r8.1.length ∧ n = r8.1.length - j) (by
  rintro n ⟨x, l, p, y⟩ ⟨g1, j, g2, hj, rfl⟩
  simp only at g1 g2
  subst g2
  simp only [Z50]
  by_cases h1 : (j : Int) < r8.1.length
  ·
   right
   have hjl : j < r8.1.length := by omega
   rw [Wt h1, Wu, Ycv hjl, Wb, Yl5]
   have hf : Fine ⟨x, l, p⟩ := ⟨by simp only; omega, by simp only; omega, fun e he => by have := g1.2.2.1 e he; omega, fun e he => by have := g1.2.2.2 e he; omega⟩
   obtain ⟨r, r1, r2⟩ := Yl6 hf r8.1[j]
   rw [r1, Wb]
   simp only [Z4z, Z4y]
   rw [Y4y (by omega) (by omega)]
   by_cases h0 : r.code = 0
   ·
    have hk := (r2 h0).2.2.2.2.small
    rw [show (r.code == 0) = true by simp [h0], Wu]
    exact ⟨_, r8.1.length - (j + 1), rfl, by omega, hk, j + 1, by simp, by omega, rfl⟩
   ·
    rw [show (r.code == 0) = false by simp [h0], Wv]
    exact ⟨_, r8.1.length - (j + 1), rfl, by omega, g1, j + 1, by simp, by omega, rfl⟩
  ·
   left
   rw [Wf h1, Wv]
   exact ⟨_, rfl, g1⟩) big r8.1.length (1, [], [], 0) ⟨⟨by simp, by simp, by simp, by simp⟩, 0, rfl, by omega, by omega⟩ (Ycq (by omega))
 rw [e1, Wb]
 simp only [Z4x]
 refine DrP.bind (oneD c1 (by omega)) c2 fun q d1 d2 _ => ?_
 exact DrP.cond (fun _ => Yl9 e2.1 e2.2.1 e2.2.2.1 e2.2.2.2 (fun h => by have := Wo h; omega) d1 d2) (fun _ => Yl9 e2.1 e2.2.1 e2.2.2.1 e2.2.2.2 (by simp) d1 d2)
end Go.Proofs.YtomachnjepgpbaaGreat
namespace Go.Proofs.YtomachnjepgpbaaGreat
open Go Go.Abs

theorem idD {s : Y9i} (h : Yed s) {g : Y9k} (hg : SmG g) : DrP s (fun _ => True) (Z55 s g) := by
 have hl := hg.elen
 have key : ∀ (q : Y9i) (b : Bool), Yed q → q.size = s.size → (b = true → 1 ≤ g.events.length) → DrP s (fun _ : Int => True) (Z54 g q.b q.at_ q.mix q.size b) := fun q b q1 q2 hb => by
  simp only [Z54]
  refine DrP.cond (fun hb1 => ?_) (fun _ => ?_)
  ·
   have := hb hb1
   refine DrP.bind (nD q1 (by omega) (by omega)) q2 fun r a1 a2 a3 => ?_
   exact DrP.get a3.1 a3.2 fun e _ => DrP.ret a1 a2 trivial
  ·
   exact DrP.bind (nD q1 (by omega) (by omega)) q2 fun r a1 a2 a3 => DrP.ret a1 a2 trivial
 unfold Z55
 refine DrP.cond (fun h1 => ?_) (fun _ => key s false h rfl (by simp))
 have := Wo h1
 exact DrP.bind (oneD h (by omega)) rfl fun r a1 a2 _ => key r.2 _ a1 a2 (fun _ => by omega)

theorem Ylb {p : List Int} (hl : p.length ≤ 1048576) : ∃ r, Zh0 p = some r ∧ SmG r.1 := by
 obtain ⟨s, s1, s2⟩ := Yei hl
 obtain ⟨g, g1, g2, g3, g4⟩ := Yla s2
 obtain ⟨i, i1, _⟩ := idD g2 g4
 unfold Zh0
 rw [s1, Wb, g1, Wb, i1, Wb]
 exact ⟨_, rfl, g4⟩

theorem Ylc {p : List Int} (hl : p.length ≤ 1048576) : ∃ g, Zhd p = some g ∧ SmG g := by
 obtain ⟨s, s1, s2⟩ := Yei hl
 obtain ⟨g, g1, g2, g3, g4⟩ := Yla s2
 unfold Zhd
 rw [s1, Wb, g1, Wb]
 exact ⟨_, rfl, g4⟩
end Go.Proofs.YtomachnjepgpbaaGreat
namespace Go.Proofs.YtomachnjepgpbaaGreat
open Go Go.Abs

end Go.Proofs.YtomachnjepgpbaaGreat
namespace Go.Proofs.YtomachnjepgpbaaGreat
open Go Go.Abs

end Go.Proofs.YtomachnjepgpbaaGreat
namespace Go.Proofs.YtomachnjepgpbaaGreat
open Go Go.Abs

theorem Yld {ls ls' : List (List Y9m)} (h : ∀ s, s ∈ ls ↔ s ∈ ls') (x : Y9m) : Yi5 ls x = Yi5 ls' x := by
 unfold Yi5
 rw [Bool.eq_iff_iff, List.all_eq_true, List.all_eq_true]
 exact ⟨fun k s hs => k s ((h s).2 hs), fun k s hs => k s ((h s).1 hs)⟩

theorem Yle {a b : List Y9m} (ha : UpS a) (hb : UpS b) (h : ∀ x, x ∈ a ↔ x ∈ b) : a = b :=
 List.Perm.eq_of_pairwise (le := ltK) (fun x y _ _ h1 h2 => by unfold ltK at h1 h2; omega) ha hb
  ((List.perm_ext_iff_of_nodup (ha.imp fun {x y} k e => by subst e; unfold ltK at k; omega) (hb.imp fun {x y} k e => by subst e; unfold ltK at k; omega)).2 h)

theorem Ylf {g : Y9k} {ls ls' : List (List Y9m)} (hm : Mrg g ls) (hm' : Mrg g ls') (h : ∀ s, s ∈ ls ↔ s ∈ ls') : (Yic ls).1 = (Yic ls').1 ∧ ∀ n, n ∈ (Yic ls).2 ↔ n ∈ (Yic ls').2 := by
 obtain ⟨a1, a2⟩ := Yig hm
 obtain ⟨b1, b2⟩ := Yig hm'
 refine ⟨Yle (Yif hm).2.ok.up (Yif hm').2.ok.up fun x => ?_, fun n => ?_⟩
 ·
  rw [a1, b1, Yld h]
  exact and_congr_left fun _ => ⟨fun ⟨s, hs, hx⟩ => ⟨s, (h s).1 hs, hx⟩, fun ⟨s, hs, hx⟩ => ⟨s, (h s).2 hs, hx⟩⟩
 ·
  rw [a2, b2]
  exact ⟨fun ⟨s, hs, x, hx, k, e⟩ => ⟨s, (h s).1 hs, x, hx, by rw [← Yld h]; exact k, e⟩, fun ⟨s, hs, x, hx, k, e⟩ => ⟨s, (h s).2 hs, x, hx, by rw [Yld h]; exact k, e⟩⟩

theorem Ylg {g : Y9k} {ls ls' : List (List Y9m)} (hm : Mrg g ls) (hm' : Mrg g ls') (h : ∀ s, s ∈ ls ↔ s ∈ ls') : resOf g ls = resOf g ls' := by
 obtain ⟨od, a1, a2, a3⟩ := Zkh hm
 obtain ⟨od', b1, b2, b3⟩ := Zkh hm'
 obtain ⟨p1, p2⟩ := Ylf hm hm' h
 have hR := (Yif hm).2
 have hR' := (Yif hm').2
 have nd : ∀ {o : List Int}, (o.Pairwise fun a b => Lt3 (dmR g.events) (evD g.events a) (evD g.events b)) → o.Nodup := fun {o} k => by
  rw [List.nodup_iff_pairwise_ne]
  refine k.imp fun {a b} hab he => ?_
  rw [he] at hab
  unfold Lt3 at hab; omega
 have hids : ∀ n ∈ od, n ∈ g.events.map (·.id) := fun n hn => hR.ids n (a2.mem_iff.1 hn)
 have hids' : ∀ n ∈ od', n ∈ g.events.map (·.id) := fun n hn => hR'.ids n (b2.mem_iff.1 hn)
 have he : od = od' := by
  refine List.Perm.eq_of_pairwise (le := fun a b => Lt3 (dmR g.events) (evD g.events a) (evD g.events b)) (fun a b ha hb h1 h2 => ?_) a3 b3 ?_
  ·
   unfold Lt3 at h1 h2; omega
  ·
   rw [List.perm_ext_iff_of_nodup (nd a3) (nd b3)]
   intro n
   rw [a2.mem_iff, p2, b2.mem_iff]
 unfold resOf
 rw [a1, b1, he, p1]

theorem Ylh {g : Y9k} {s : List Y9m} (hm : Mrg g [s]) : resOf g [s] = s := by
 obtain ⟨od, a1, a2, a3⟩ := Zkh hm
 obtain ⟨b1, b2⟩ := Yig hm
 have hs := hm.ok s (by simp)
 have hal : ∀ x ∈ s, Yi5 [s] x = true := fun x hx => (Yia hm (s := s) (by simp) hx).2 fun t ht => by simp at ht; exact ht ▸ hx
 have h0 : (Yic [s]).2 = [] := List.eq_nil_iff_forall_not_mem.2 fun n hn => by
  obtain ⟨t, ht, x, hx, k, _⟩ := (b2 n).1 hn
  simp at ht; subst ht
  rw [hal x hx] at k; cases k
 have h1 : (Yic [s]).1 = s := Yle (Yif hm).2.ok.up hs.up fun x => by
  rw [b1]
  exact ⟨fun ⟨⟨t, ht, hx⟩, _⟩ => by simp at ht; exact ht ▸ hx, fun hx => ⟨⟨s, by simp, hx⟩, hal x hx⟩⟩
 rw [h0] at a2
 unfold resOf
 rw [a1, a2.eq_nil, h1]; rfl
end Go.Proofs.YtomachnjepgpbaaGreat
namespace Go.Proofs.YtomachnjepgpbaaGreat
open Go Go.Abs

theorem Yli {g : Y9k} (hr : Yjs g) {e : Y9j} (he : e ∈ g.events) (hk : e.kind ≤ 6) (hc : okB g e.id = true) : idS (stA g e.id) e.kind e.key = e.id ∧ cur g.events (stA g e.id) e.kind e.key = some e := by
 obtain ⟨h1, h2, h3⟩ := Ykm hr he
 have hc0 := h3.1 hc
 have hm : (⟨e.kind, e.key, e.id⟩ : Y9m) ∈ stA g e.id := by
  rw [h2]
  unfold nextOf
  rw [if_pos ⟨hc0, hk⟩]
  unfold putE
  exact (Yhl h1.up).2 (.inl rfl)
 have hi : idS (stA g e.id) e.kind e.key = e.id := Yi9 (Ykn hr he).up hm
 refine ⟨hi, ?_⟩
 unfold cur
 rw [hi]
 exact hr.fits.up.evAt_mem he

theorem Ylj {g : Y9k} (hr : Yjs g) {e : Y9j} (he : e ∈ g.events) (hc : okB g e.id = false) : stA g e.id = stP g e := by
 obtain ⟨h1, h2, h3⟩ := Ykm hr he
 rw [h2]
 unfold nextOf
 rw [if_neg]
 intro h
 rw [h3.2 h.1] at hc; cases hc

theorem Ylk {g : Y9k} (hr : Yjs g) {e : Y9j} (he : e ∈ g.events) : getI (knG g).ahead (plc g.events e.id) = some (stP g e) ∧ getI (knG g).behind (plc g.events e.id) = some (stA g e.id) ∧ (∃ c, getI (knG g).code (plc g.events e.id) = some c ∧ (c = 0 ↔ okB g e.id = true) ∧ Option.getD (mget (hiG g).refused e.id) 0 = c) ∧ behI (hiG g).before e.id = stP g e := by
 have hb := (Ykh hr).2.2
 have h1 := (hb.ahead he).1
 have h2 := (hb.behind hr he).1
 obtain ⟨c, k1, k2⟩ := hb.code he
 have hB : behI (hiG g).before e.id = stP g e := by
  have k := hb.all e he
  unfold behI
  rw [k.mB]; rfl
 refine ⟨by rw [h1, hB], h2, ⟨c, k1, ?_, k2⟩, hB⟩
 unfold okB refB
 rw [k2, decide_eq_true_iff]
end Go.Proofs.YtomachnjepgpbaaGreat
namespace Go.Proofs.YtomachnjepgpbaaGreat
open Go Go.Abs

theorem Yll {h : Y9p} (hr : Yjs h.graph) : Zi0 h = some (accT h.graph.events (refB h)) := by
 have hfl := hr.fits.len
 unfold Zi0
 have := Ydc (l := h.graph.events) (step := fun z : List Int × Int => Zhz h z.1 z.2) (fun q j => (q, j)) (fun q => q) (fun q e => if refB h e.id = true then q ++ [e.id] else q) (fun i q => q.length ≤ i) (by omega) (fun i q hi hq => by
  refine ⟨?_, by split <;> first | omega | (rw [List.length_append, List.length_singleton]; omega)⟩
  simp only [Zhz, Zhy]
  rw [dlt hi, Wu, Ycv hi, Wb, Ycw hi (by omega), chk8 (by simp; omega), beqd]
  unfold refB
  by_cases hc : Option.getD (mget h.refused h.graph.events[i].id) 0 = 0
  ·
   rw [Wt hc]; rfl
  ·
   rw [Wf hc]; rfl)
  (fun q _ => by simp only [Zhz]; rw [dnlt, Wv]) (s := []) (by simp)
 rw [this.1, Wb]
 have key : ∀ (l : List Y9j) (q : List Int), l.foldl (fun q e => if refB h e.id = true then q ++ [e.id] else q) q = q ++ (l.map (·.id)).filter (refB h) := by
  intro l
  induction l with
  | nil => intro q; simp
  | cons e l ih =>
   intro q
   rw [List.foldl_cons, ih]
   cases hc : refB h e.id with
   | true => rw [if_pos rfl, List.map_cons, List.filter_cons_of_pos hc]; simp
   | false => rw [if_neg (by simp), List.map_cons, List.filter_cons_of_neg (by simp [hc])]
 rw [key]; rfl

theorem Ylm {h : Y9p} (hr : Yjs h.graph) {ids : List Int} {T : Int → Bool} (hn : ids.Nodup) (hm : ∀ x, x ∈ ids ↔ x ∈ accT h.graph.events T) : Ziq h ids = some (endsT h.graph.events T) := by
 have hfl := hr.fits.len
 have hup := Yk5 hr.fits T
 have hal := Yk6 hr.fits T
 have hil : ids.length = (accT h.graph.events T).length := ((List.perm_ext_iff_of_nodup hn (hup.imp fun {a b} h => by omega)).2 hm).length_eq
 unfold Ziq
 have hcl : Zg6 ids = some ids := by unfold Zg6; rw [chk8 (by omega)]; rfl
 rw [hcl, Wb, Yk3 hup hn hm (by omega), Wb]
 have := Ydc (l := ids) (step := fun z : List Int × Int => Zip h ids z.1 z.2) (fun q j => (q, j)) (fun q => q) (fun q id => q.filter fun x => !decide (x ∈ (evD h.graph.events id).prev)) (fun _ q => q.length ≤ 60) (by omega) (fun i q hi hq => by
  refine ⟨?_, Nat.le_trans (List.length_filter_le _ _) hq⟩
  have hmi : ids[i] ∈ h.graph.events.map (·.id) := (List.mem_filter.1 ((hm _).1 (Wm hi))).1
  have hp := (hr.walk.prev hmi).1
  simp only [Zip]
  rw [dlt hi, Wu, Ycv hi, Wb, c_at _ _ hr.fits.up (by omega), Wb]
  show (Zil q (evD h.graph.events ids[i])).bind _ = _
  rw [Yk4 _ _ (by omega) (by omega), Wb, Ycw hi (by omega)])
  (fun q _ => by simp only [Zip]; rw [dnlt, Wv]) (s := accT h.graph.events T) hal
 rw [this.1, Wb]
 simp only [Zio]
 congr 1
 have key : ∀ (r q : List Int), r.foldl (fun q id => q.filter fun x => !decide (x ∈ (evD h.graph.events id).prev)) q = q.filter fun x => r.all fun id => !decide (x ∈ (evD h.graph.events id).prev) := by
  intro r
  induction r with
  | nil => intro q; exact (List.filter_eq_self.2 fun x _ => rfl).symm
  | cons id r ih =>
   intro q
   rw [List.foldl_cons, ih, List.filter_filter]
   congr 1
   funext x
   simp [Bool.and_comm]
 rw [key]
 unfold endsT
 congr 1
 funext x
 unfold endT
 rw [Bool.eq_iff_iff, List.all_eq_true, List.all_eq_true]
 exact ⟨fun h id hid => h id ((hm id).2 hid), fun h id hid => h id ((hm id).1 hid)⟩

theorem Yln {h : Y9p} (l : List Int) (hl : l.length < 1000000) : Zdu h l = some (l.map (behI h.after)) := by
 unfold Zdu
 have := Ydc (l := l) (step := fun z : List (List Y9m) × Int => Zdt h l z.1 z.2) (fun q j => (q, j)) (fun q => q) (fun q p => q ++ [behI h.after p]) (fun i q => q.length = i) (by omega) (fun i q hi hq => by
  refine ⟨?_, by simp [hq]⟩
  simp only [Zdt]
  rw [dlt hi, Wu, Ycv hi, Wb, Ygl (by simp; omega), Wb, Ycw hi (by omega)]; rfl)
  (fun q _ => by simp only [Zdt]; rw [dnlt, Wv]) (s := []) rfl
 rw [this.1, Yjv]; rfl

theorem Ylo {l : List Y9j} (hf : Fits l) (T : Int → Bool) : (accT l T).Nodup := (Yk5 hf T).imp fun {a b} h => by omega

theorem Ylp {h : Y9p} (hr : Yjs h.graph) : Zis h = some (endsT h.graph.events (refB h)) := by
 unfold Zis
 rw [Yll hr, Wb, Ylm hr (Ylo hr.fits _) (fun _ => Iff.rfl), Wb]

theorem Ylq {g : Y9k} {h : Y9p} {w : Y9n} (hb : Both g h w) (hr : Yjs g) : Ziu h = some (nowT g h (refB h)) ∧ StOk g.events (nowT g h (refB h)) := by
 have hgr := hb.graph
 have hm := hb.endsT hr (refB h)
 have hel := Yk8 hr.fits (refB h)
 have hr' : Yjs h.graph := hgr ▸ hr
 unfold Ziu
 rw [Ylp hr', Wb, hgr, Yln _ (by omega), Wb]
 have hm' : Mrg h.graph ((endsT g.events (refB h)).map (behI h.after)) := by rw [hgr]; exact hm
 obtain ⟨_, c2, c3⟩ := Yj1 hm' hb.depth
 rw [c2, hgr]
 rw [hgr] at c3
 exact ⟨rfl, c3⟩

theorem Ylr {g : Y9k} (hg : Fine g) : ∃ r, Zjh g = some r ∧ Ziw g = some r ∧ r.length ≤ 60 := by
 obtain ⟨b, b1, b2, b3⟩ := Ygg hg
 unfold Zjh Ziw
 rw [b1, b2, Wb, Wb]
 cases b with
 | false => exact ⟨[], rfl, rfl, by simp⟩
 | true =>
  have hr := (b3.1 rfl).right
  obtain ⟨h1, h2, hb⟩ := Ykh hr
  obtain ⟨n1, n2⟩ := Ylq hb hr
  rw [Wu, Wu, h1, h2, Wb, Wb, n1, Ykf hb hr, Wb, Yke hb hr]
  exact ⟨_, rfl, rfl, Nat.le_trans n2.len hr.fits.len⟩

theorem Yls {g : Y9k} (hg : Fine g) : ∃ r, Zjl g = some r ∧ Zjj g = some r ∧ r.length ≤ 60 := by
 obtain ⟨b, b1, b2, b3⟩ := Ygg hg
 unfold Zjl Zjj
 rw [b1, b2, Wb, Wb]
 cases b with
 | false => exact ⟨[], rfl, rfl, by simp⟩
 | true =>
  have hr := (b3.1 rfl).right
  obtain ⟨h1, h2, hb⟩ := Ykh hr
  have hgr := hb.graph
  have hr' : Yjs (hiG g).graph := by rw [hgr]; exact hr
  rw [Wu, Wu, h1, h2, Wb, Wb, Ylp hr', Ykf hb hr, Wb, Ykd hr, hgr]
  exact ⟨_, rfl, rfl, Yk8 hr.fits _⟩
end Go.Proofs.YtomachnjepgpbaaGreat
namespace Go.Proofs.YtomachnjepgpbaaGreat
open Go Go.Abs


def enOk (x : Y9m) : Bool := decide (1 ≤ x.kind ∧ x.kind ≤ 6) && (decide (0 ≤ x.key ∧ x.key ≤ 6) && decide (1 ≤ x.id ∧ x.id ≤ 1000000))

theorem Ylu {a b c : Y9m} (h : ltK a b) (k : ltK b c) : ltK a c := by unfold ltK at h k ⊢; omega
theorem Ylv {s : List Y9m} (h : ∀ (i : Nat) (hi : i < s.length), 0 < i → ltK s[i - 1] s[i]) : UpS s := by
 have key : ∀ (d i : Nat) (hi : i + d + 1 < s.length), ltK (s[i]'(by omega)) s[i + d + 1] := by
  intro d
  induction d with
  | zero => intro i hi; exact h (i + 1) hi (by omega)
  | succ d ih => intro i hi; exact Ylu (ih i (by omega)) (h (i + (d + 1) + 1) hi (by omega))
 rw [UpS, List.pairwise_iff_getElem]
 intro i j hi hj hij
 have := key (j - i - 1) i (by omega)
 simpa [show i + (j - i - 1) + 1 = j by omega] using this

def Ylw (s : List Y9m) : Bool := decide (s.length ≤ 400) && (s.all enOk && decide (UpS s))
theorem Ylx {s : List Y9m} {step : Int → Option (Int ⊕ (Bool ⊕ Unit))} (hl : s.length < 9223372036854775807)
  (h1 : ∀ (i : Nat) (hi : i < s.length), step (i : Int) = some (cond (enOk s[i] && (decide (i = 0) || decide (ltK s[i - 1] s[i]))) (.inl ((i + 1 : Nat) : Int)) (.inr (.inl false)))) (h2 : step (s.length : Int) = some (.inr (.inr ()))) :
  iter step big 0 = some (cond (s.all enOk && decide (UpS s)) (.inr ()) (.inl false)) := by
 rw [Ycs (fun i => if h : i < s.length then (enOk s[i] && (decide (i = 0) || decide (ltK s[i - 1] s[i]))) else true) (.inl false) (.inr ()) hl (fun i hi => by simp only [hi, dif_pos]; exact h1 i hi) h2]
 have : (∀ i, i < s.length → (if h : i < s.length then (enOk s[i] && (decide (i = 0) || decide (ltK s[i - 1] s[i]))) else true) = true) ↔ (s.all enOk && decide (UpS s)) = true := by
  rw [Bool.and_eq_true, decide_eq_true_iff, List.all_eq_true]
  constructor
  ·
   intro h
   have hx : ∀ (i : Nat) (hi : i < s.length), enOk s[i] = true ∧ (i = 0 ∨ ltK s[i - 1] s[i]) := fun i hi => by
    have := h i hi
    simpa [hi] using this
   refine ⟨fun x hx' => ?_, Ylv fun i hi h0 => ((hx i hi).2).resolve_left (by omega)⟩
   obtain ⟨i, hi, rfl⟩ := List.mem_iff_getElem.1 hx'
   exact (hx i hi).1
  ·
   rintro ⟨h3, h4⟩ i hi
   have h5 := h3 _ (Wm hi)
   simp only [hi, dif_pos, h5, Bool.true_and, Bool.or_eq_true, decide_eq_true_eq]
   rcases Nat.eq_zero_or_pos i with h0 | h0
   ·
    exact .inl h0
   ·
    exact .inr (h4.lt hi (by omega : i - 1 < i))
 cases hb : s.all enOk && decide (UpS s) with
 | true => rw [if_pos (this.2 hb)]; rfl
 | false => rw [if_neg (fun h => by rw [this.1 h] at hb; cases hb)]; rfl

theorem Yly (s : List Y9m) (hl : s.length < 9223372036854775807) : Z8c s = some (Ylw s) := by
 unfold Z8c Z8a Ylw
 by_cases h4 : s.length ≤ 400
 ·
  rw [Wf (by omega : ¬ (s.length : Int) > 400), Wv, Wt h4, Bool.true_and]
  rw [Ylx hl ?_ (by simp only [Z89]; rw [dnlt, Wv])]
  ·
   cases s.all enOk && decide (UpS s) <;> rfl
  ·
   intro i hi
   simp only [Z89, Z85, Z84]
   rw [dlt hi, Wu, Ycv hi, Wb, Ycz, Ycz, Yd0]
   simp only [Wb, Z88, Ycw hi hl]
   unfold enOk
   generalize decide (1 ≤ s[i].kind ∧ s[i].kind ≤ 6) = b1
   generalize decide (0 ≤ s[i].key ∧ s[i].key ≤ 6) = b2
   generalize decide (1 ≤ s[i].id ∧ s[i].id ≤ 1000000) = b3
   by_cases h0 : i = 0
   ·
    rw [Wf (by omega : ¬ (i : Int) > 0), Wt h0]
    cases b1 <;> cases b2 <;> cases b3 <;> rfl
   ·
    rw [Wt (by omega : (i : Int) > 0), Wf h0, Ycx (by omega) (by omega), Ycv (by omega : i - 1 < s.length), Wb, Ygi]
    generalize decide (ltK s[i - 1] s[i]) = b4
    cases b1 <;> cases b2 <;> cases b3 <;> cases b4 <;> rfl
 ·
  rw [Wt (by omega : (s.length : Int) > 400), Wu, Wf h4]; rfl
theorem Ylz (s : List Y9m) (hl : s.length < 9223372036854775807) : Zbv s = some (Ylw s) := by
 unfold Zbv Zbt Ylw
 rw [Ylx hl ?_ (by simp only [Zbs]; rw [dnlt, Wv])]
 ·
  simp only [Zbq]
  rw [show decide ((s.length : Int) ≤ 400) = decide (s.length ≤ 400) from decide_eq_decide.2 (by omega)]
  cases s.all enOk && decide (UpS s) <;> cases decide (s.length ≤ 400) <;> rfl
 ·
  intro i hi
  simp only [Zbs]
  rw [dlt hi, Wu, Ycv hi, Wb, c_in, c_in, c_in]
  simp only [Wb, Zbr, Ycw hi hl]
  unfold enOk
  generalize decide (1 ≤ s[i].kind ∧ s[i].kind ≤ 6) = b1
  generalize decide (0 ≤ s[i].key ∧ s[i].key ≤ 6) = b2
  generalize decide (1 ≤ s[i].id ∧ s[i].id ≤ 1000000) = b3
  by_cases h0 : i = 0
  ·
   rw [Wf (by omega : ¬ (i : Int) > 0), Wt h0]
   cases b1 <;> cases b2 <;> cases b3 <;> rfl
  ·
   rw [Wt (by omega : (i : Int) > 0), Wf h0, Ycx (by omega) (by omega), Ycv (by omega : i - 1 < s.length), Wb, Ygq, Wb]
   have e4 : decide (cmpE s[i - 1] s[i] ≥ 0) = !decide (ltK s[i - 1] s[i]) := by
    rw [← Ygt]
    by_cases hc : cmpE s[i - 1] s[i] < 0
    ·
     rw [Wt hc, Wf (by omega)]; rfl
    ·
     rw [Wf hc, Wt (by omega)]; rfl
   rw [e4]
   generalize decide (ltK s[i - 1] s[i]) = b4
   cases b1 <;> cases b2 <;> cases b3 <;> cases b4 <;> rfl
theorem Ym0 (s : List Y9m) (hl : s.length < 9223372036854775807) : Z8c s = some (Ylw s) ∧ Zbv s = some (Ylw s) := ⟨Yly s hl, Ylz s hl⟩


def inG (l : List Y9j) (x : Y9m) : Bool := match evAt l x.id with
 | some e => decide (e.kind = x.kind) && decide (e.key = x.key)
 | none => false
def stB (l : List Y9j) (s : List Y9m) : Bool := Ylw s && s.all (inG l)

theorem Ym1 {l : List Y9j} {s : List Y9m} (h : stB l s = true) : StOk l s := by
 unfold stB Ylw at h
 simp only [Bool.and_eq_true, decide_eq_true_eq, List.all_eq_true] at h
 refine ⟨h.1.2.2, fun x hx => ?_⟩
 have := h.2 x hx
 unfold inG at this
 split at this
 ·
  rename_i e he
  simp only [Bool.and_eq_true, decide_eq_true_eq] at this
  exact ⟨e, he, this⟩
 ·
  cases this

theorem EvOk.key6 {e : Y9j} (h : EvOk e) (hk : e.kind ≤ 6) : 1 ≤ e.kind ∧ 0 ≤ e.key ∧ e.key ≤ 6 := by
 have hb := h.body
 unfold Ydj Z28 Z20 Z21 Z22 Z23 Z24 Z25 Z26 Z27 at hb
 simp only [Yd1, Ycz, Yd0, Wb, beqd] at hb
 by_cases h1 : e.kind = 1
 ·
  by_cases h0 : e.key = 0
  ·
   omega
  ·
   simp [h1, h0] at hb
 by_cases h2 : e.kind = 2
 ·
  by_cases h0 : 1 ≤ e.key ∧ e.key ≤ 6
  ·
   omega
  ·
   simp [h2, h0] at hb
 by_cases h3 : e.kind = 3
 ·
  by_cases h0 : 1 ≤ e.key ∧ e.key ≤ 6
  ·
   omega
  ·
   simp [h3, h0] at hb
 by_cases h4 : e.kind = 4
 ·
  by_cases h0 : e.key = 0
  ·
   omega
  ·
   simp [h4, h0] at hb
 by_cases h5 : e.kind = 5
 ·
  by_cases h0 : e.key = 0
  ·
   omega
  ·
   simp [h5, h0] at hb
 by_cases h6 : e.kind = 6
 ·
  by_cases h0 : e.key = 0
  ·
   omega
  ·
   simp [h6, h0] at hb
 have h7 : ¬ e.kind = 7 := by omega
 have h8 : ¬ e.kind = 8 := by omega
 simp [h1, h2, h3, h4, h5, h6, h7, h8] at hb

theorem Ym2 {g : Y9k} (hr : Yjs g) {s : List Y9m} (hs : StOk g.events s) (hlo : Low s) : stB g.events s = true := by
 have hl := (hr.sts hs)
 have hlen := Nat.le_trans hs.len hr.fits.len
 unfold stB Ylw
 simp only [Bool.and_eq_true, decide_eq_true_eq, List.all_eq_true]
 refine ⟨⟨by omega, fun x hx => ?_, hs.up⟩, fun x hx => ?_⟩
 ·
  obtain ⟨e, he, hk, hy⟩ := hs.ev x hx
  obtain ⟨h1, h2⟩ := Ydz he
  have h3 := hr.ev e h1
  have h4 := h3.key6 (by rw [hk]; exact hlo x hx)
  have h5 := h3.id
  have h6 := hlo x hx
  unfold enOk
  simp only [Bool.and_eq_true, decide_eq_true_eq]
  omega
 ·
  obtain ⟨e, he, hk, hy⟩ := hs.ev x hx
  unfold inG
  rw [he]
  simp [hk, hy]

theorem Ym3 {g : Y9k} (hel : g.events.length < 1000000) (s : List Y9m) (hl : s.length < 1000000) : Zhi g s = some (stB g.events s) := by
 unfold Zhi stB
 rw [Yly s (by omega), Wb]
 cases Ylw s with
 | false => rfl
 | true =>
  rw [Wu, Bool.true_and]
  rw [Ydb (l := s) (inG g.events) (.inl false) (.inr ()) (by omega) (fun i hi => by
   simp only [Zhh, Zhg]
   rw [dlt hi, Wu, Ycv hi, Wb, Yds _ _ (by omega), Wb, Ydu, Ycw hi (by omega)]
   cases he : evAt g.events s[i].id with
   | none => rw [Yh1, he]; simp [inG, he]
   | some e =>
    rw [Yh1, he, (Yh4 he).1, Wb, bned, bned]
    unfold inG
    rw [he]
    simp only
    cases decide (e.kind = s[i].kind) <;> cases decide (e.key = s[i].key) <;> rfl) (by simp only [Zhh]; rw [dnlt, Wv])]
  cases s.all (inG g.events) <;> rfl
theorem Ym4 {g : Y9k} (hu : Up2 g.events) (hel : g.events.length < 1000000) (s : List Y9m) (hl : s.length < 1000000) : Zc9 g s = some (stB g.events s) := by
 unfold Zc9 stB
 rw [Ylz s (by omega), Wb]
 cases Ylw s with
 | false => rfl
 | true =>
  rw [Wu, Bool.true_and]
  unfold Zc6 Zc4
  rw [Yde (Yd9 (l := s) (step := Zc3 s g) (fun x => !inG g.events x) (by omega) (fun i hi => by
   simp only [Zc3, Zc0, Zbz]
   rw [dlt hi, Wu, Ycv hi, Wb, c_at _ _ hu (by omega), Wb, Ycw hi (by omega)]
   cases he : evAt g.events s[i].id with
   | none => rw [Yh1, he]; simp [inG, he]
   | some e =>
    rw [Yh1, he]
    simp only [Option.isSome_some, Option.getD_some, Wu]
    rw [bned, bned]
    unfold inG
    rw [he]
    simp only
    cases decide (e.kind = s[i].kind) <;> cases decide (e.key = s[i].key) <;> rfl) (by simp only [Zc3]; rw [dnlt, Wv])) (fun _ => rfl) rfl]
  rw [Wb, Ydd, Yit, Wb]
  simp only [Zc8, Bool.not_not]
theorem Ym5 {g : Y9k} (hu : Up2 g.events) (hel : g.events.length < 1000000) (s : List Y9m) (hl : s.length < 1000000) : Zhi g s = some (stB g.events s) ∧ Zc9 g s = some (stB g.events s) := ⟨Ym3 hel s hl, Ym4 hu hel s hl⟩


structure Rs (g : Y9k) (ls : List (List Y9m)) : Prop where
 right : GOk g
 len : ls.length ≤ 60
 ok : ∀ s ∈ ls, stB g.events s = true
theorem Rs.mrg {g : Y9k} {ls : List (List Y9m)} (h : Rs g ls) : Mrg g ls := ⟨h.right.right.fits, h.right.right.ev, h.right.right.deep, fun s hs => Ym1 (h.ok s hs), by have := h.len; omega⟩

theorem Ym6 {g : Y9k} (hg : Fine g) {ls : List (List Y9m)} (hl : ls.length < 1000000) (hs : ∀ s ∈ ls, s.length < 1000000) :
  (Rs g ls ∧ Zhn g ls = some (resOf g ls) ∧ Zgy g ls = some (resOf g ls)) ∨ (¬ Rs g ls ∧ Zhn g ls = some [] ∧ Zgy g ls = some []) := by
 obtain ⟨b, b1, b2, b3⟩ := Ygg hg
 unfold Zhn Zgy
 rw [b1, b2, Wb, Wb]
 cases b with
 | false =>
  right
  refine ⟨fun h => absurd (b3.2 h.right) (by simp), rfl, ?_⟩
  cases decide ((ls.length : Int) > 60) <;> rfl
 | true =>
  rw [Wu, Wu]
  have hk := b3.1 rfl
  have hr := hk.right
  have hfl := hr.fits.len
  by_cases h60 : ls.length ≤ 60
  ·
   rw [Wf (by omega : ¬ (ls.length : Int) > 60), Wv]
   unfold Zgv Zgt
   rw [Yde (Yd9 (l := ls) (step := Zgs ls g) (fun s => !stB g.events s) (by omega) (fun i hi => by
    simp only [Zgs, Zgp]
    rw [dlt hi, Wu, Ycv hi, Wb, (Ym5 hr.fits.up (by omega) _ (hs _ (Wm hi))).2, Wb, Wb, Ycw hi (by omega)]
    cases stB g.events ls[i] <;> rfl) (by simp only [Zgs]; rw [dnlt, Wv])) (fun _ => rfl) rfl]
   rw [Wb, Ydd, Yit, Wb]
   simp only [Zhm, Zgx, Wv]
   rw [Ydb (l := ls) (stB g.events) (.inl []) (.inr ()) (by omega) (fun i hi => by
    simp only [Zhl]
    rw [dlt hi, Wu, Ycv hi, Wb, (Ym5 hr.fits.up (by omega) _ (hs _ (Wm hi))).1, Wb, Ycw hi (by omega)]
    cases stB g.events ls[i] <;> rfl) (by simp only [Zhl]; rw [dnlt, Wv])]
   cases ha : ls.all (stB g.events) with
   | false =>
    right
    refine ⟨fun h => ?_, rfl, rfl⟩
    rw [List.all_eq_true.2 h.ok] at ha; cases ha
   | true =>
    left
    have hR : Rs g ls := ⟨hk, h60, List.all_eq_true.1 ha⟩
    obtain ⟨h1, _, hb⟩ := Ykh hr
    have hgr := hb.graph
    have hm : Mrg (hiG g).graph ls := by rw [hgr]; exact hR.mrg
    obtain ⟨c1, c2, _⟩ := Yj1 hm hb.depth
    refine ⟨hR, ?_, ?_⟩
    ·
     simp only [Wu, Wb, Zhk]
     rw [(Yev hr.fits).1, Wb]
     rw [hgr] at c1
     rw [c1]; rfl
    ·
     simp only [Bool.not_true, Wv]
     rw [h1, Wb, c2, hgr]; rfl
  ·
   right
   refine ⟨fun h => h60 h.len, ?_, ?_⟩
   ·
    rw [Wt (by omega : (ls.length : Int) > 60)]; rfl
   ·
    rw [Wt (by omega : (ls.length : Int) > 60)]; rfl

theorem Ym7 {s : List Y9m} (h : s.length < 1000000) : Zf4 s = some s := by unfold Zf4; rw [Ygl (by omega)]; rfl

theorem Ylt {g : Y9k} (hg : Fine g) (id : Int) :
  (¬ (GOk g ∧ hasE g.events id = true) ∧ Zht g id = some [] ∧ Zh5 g id = some [] ∧ Z7w g id = some [] ∧ Zh8 g id = some [] ∧ Zhv g id = some (-1) ∧ Zhb g id = some (-1)) ∨
  (∃ e ∈ g.events, GOk g ∧ e.id = id ∧ Zht g id = some (stP g e) ∧ Zh5 g id = some (stP g e) ∧ Z7w g id = some (stA g id) ∧ Zh8 g id = some (stA g id) ∧ ∃ c, Zhv g id = some c ∧ Zhb g id = some c ∧ (c = 0 ↔ okB g id = true)) := by
 obtain ⟨b, b1, b2, b3⟩ := Ygg hg
 unfold Zht Zh5 Z7w Zh8 Zhv Zhb Z58
 rw [b1, b2]
 cases b with
 | false =>
  left
  exact ⟨fun h => absurd (b3.2 h.1) (by simp), rfl, rfl, rfl, rfl, rfl, rfl⟩
 | true =>
  have hk := b3.1 rfl
  have hr := hk.right
  have hel := hr.fits.len
  simp only [Wb, Wu]
  rw [Ye9 _ _ hr.fits.up (by omega), Yds _ _ (by omega)]
  simp only [Wb, Ydt]
  cases hh : hasE g.events id with
  | false =>
   left
   exact ⟨fun h => absurd h.2 (by simp), rfl, rfl, rfl, rfl, rfl, rfl⟩
  | true =>
   right
   obtain ⟨e, he, rfl⟩ := Ydy.1 hh
   obtain ⟨h1, h2, hb⟩ := Ykh hr
   obtain ⟨k1, k2, ⟨c, k3, k4, k5⟩, k6⟩ := Ylk hr he
   have hP := (Ykm hr he).1
   have hA := Ykn hr he
   have lP := hP.len
   have lA := hA.len
   refine ⟨e, he, hk, rfl, ?_, ?_, ?_, ?_, c, ?_, ?_, k4⟩
   ·
    simp only [Z57, Wu, Wb]
    rw [h2, Wb, k1]; rfl
   ·
    simp only [Zh4, Bool.not_true, Wv]
    rw [h1, Wb]
    have : Option.getD (mget (hiG g).before e.id) [] = stP g e := k6
    rw [this, Ym7 (by omega)]; rfl
   ·
    simp only [Z57, Wu, Wb]
    rw [h2, Wb, k2]; rfl
   ·
    simp only [Zh7, Bool.not_true, Wv]
    rw [h1, Wb]
    show (Zf4 (stA g e.id)).bind _ = _
    rw [Ym7 (by omega)]; rfl
   ·
    simp only [Z57, Wu, Wb]
    rw [h2, Wb, k3]; rfl
   ·
    simp only [Zha, Bool.not_true, Wv]
    rw [h1, Wb, k5]

theorem Ym8 {g : Y9k} (hr : Yjs g) {e : Y9j} (he : e ∈ g.events) : stB g.events (stA g e.id) = true := Ym2 hr (Ykn hr he) (Ykq hr e he)
end Go.Proofs.YtomachnjepgpbaaGreat
namespace Go.Proofs.YtomachnjepgpbaaGreat
open Go Go.Abs

theorem Ym9 {s : Y9i} (h : Yed s) : DrP s (fun _ => True) (Z81 s) := by
 unfold Z81
 refine DrP.bind (nD h (by omega) (by omega)) rfl fun r2 a1 a2 _ => ?_
 refine DrP.bind (nD a1 (by omega) (by omega)) a2 fun r4 b1 b2 _ => ?_
 have key : ∀ (q : Y9i) (x : Int), Yed q → q.size = s.size → DrP s (fun _ => True) (Z7z r2 r4 q.b q.at_ q.mix q.size x) := fun q x q1 q2 => by
  simp only [Z7z, Z7y]
  refine DrP.bind (oneD q1 (by omega)) q2 fun r17 c1 c2 _ => ?_
  refine DrP.cond (fun _ => ?_) (fun _ => DrP.ret c1 c2 trivial)
  refine DrP.bind (nD c1 (by omega) (by omega)) c2 fun r20 d1 d2 _ => ?_
  refine DrP.cond (fun _ => ?_) (fun _ => DrP.cond (fun _ => ?_) (fun _ => ?_))
  ·
   exact DrP.bind (nD d1 (by omega) (by omega)) d2 fun r23 f1 f2 _ => DrP.ret f1 f2 trivial
  ·
   refine DrP.bind (nD d1 (by omega) (by omega)) d2 fun r27 f1 f2 f3 => ?_
   exact DrP.get f3.1 (by simpa using f3.2) fun _ _ => DrP.ret f1 f2 trivial
  ·
   refine DrP.bind (nD d1 (by omega) (by omega)) d2 fun r32 f1 f2 f3 => ?_
   exact DrP.get f3.1 (by simpa using f3.2) fun _ _ => DrP.ret f1 f2 trivial
 have key3 : ∀ x, DrP s (fun _ => True) (Z80 r2 r4 x) := fun x => by
  simp only [Z80]
  refine DrP.cond (fun _ => ?_) (fun _ => key r4.2 0 b1 b2)
  exact DrP.bind (nD b1 (by omega) (by omega)) b2 fun r10 c1 c2 _ => key r10.2 _ c1 c2
 exact DrP.cond (fun _ => key3 _) (fun _ => key3 _)

theorem Yma {s : List Y9m} (hl : s.length < 1000000) (x : Y9m) : ∃ r, Z8f s x = some r ∧ r.state.length ≤ s.length + 1 := by
 unfold Z8f
 by_cases h4 : (s.length : Int) > 400
 ·
  rw [Wt h4]; exact ⟨_, rfl, by simp⟩
 ·
  rw [Wf h4, Wv, (Ym0 s (by omega)).1, Wb]
  have bad : ∃ r, Z8e s x true = some r ∧ r.state.length ≤ s.length + 1 := ⟨_, rfl, by simp⟩
  cases hb : Ylw s with
  | false => exact bad
  | true =>
   have hu : UpS s := by
    unfold Ylw at hb
    simp only [Bool.and_eq_true, decide_eq_true_eq] at hb
    exact hb.2.2
   rw [Wu]
   unfold Z85 Z84
   rw [Ycz, Ycz, Yd0]
   simp only [Wb]
   have good : ∃ r, Z8e s x false = some r ∧ r.state.length ≤ s.length + 1 := by
    simp only [Z8e, Wv]
    rw [Ygo hu x hl]
    exact ⟨_, rfl, Yhn⟩
   cases decide (1 ≤ x.kind ∧ x.kind ≤ 6) <;> cases decide (0 ≤ x.key ∧ x.key ≤ 6) <;> cases decide (1 ≤ x.id ∧ x.id ≤ 1000000) <;> first | exact bad | exact good

theorem Ymb {s : Y9i} (h : Yed s) : DrP s (fun l => l.length ≤ 9) (Z8l s) := by
 unfold Z8l
 refine DrP.bind (nD h (by omega) (by omega)) rfl fun r2 a1 a2 a3 => ?_
 obtain ⟨k, hk⟩ := Int.eq_ofNat_of_zero_le a3.1
 have hk8 := a3.2
 rw [hk] at hk8 ⊢
 obtain ⟨o, e1, e2⟩ := Y51 (step := fun z : List Int × Int × Int × Int × List Y9m × Int => Z8k z.1 z.2.1 z.2.2.1 z.2.2.2.1 z.2.2.2.2.1 z.2.2.2.2.2) (p := fun o : List Int × Int × Int × Int × List Y9m => Yed ⟨o.1, o.2.1, o.2.2.1, o.2.2.2.1⟩ ∧ o.2.2.2.1 = s.size ∧ o.2.2.2.2.length ≤ 8)
  (fun n (z : List Int × Int × Int × Int × List Y9m × Int) => Yed ⟨z.1, z.2.1, z.2.2.1, z.2.2.2.1⟩ ∧ z.2.2.2.1 = s.size ∧ z.2.2.2.2.1.length + n ≤ 8 ∧ z.2.2.2.2.2 = (n : Int)) (by
  rintro n ⟨b, a, x, sz, l, y⟩ ⟨g1, g2, g3, g4⟩
  simp only at g1 g2 g3 g4
  subst g4
  simp only [Z8k]
  by_cases h1 : (n : Int) > 0
  ·
   right
   rw [Wt h1, Wu]
   obtain ⟨r, r1, r2, r3, _⟩ := Ym9 g1
   obtain ⟨q, q1, q2⟩ := Yma (s := l) (by omega) r.1
   rw [r1, Wb, q1, Wb]
   simp only [Z8j]
   rw [Y4y (n := (n : Int) - 1) (by omega) (by omega)]
   cases q.code == 0 with
   | true => exact ⟨_, n - 1, rfl, by omega, r2, r3.trans g2, by simp only; omega, by simp only; omega⟩
   | false => exact ⟨_, n - 1, rfl, by omega, r2, r3.trans g2, by simp only; omega, by simp only; omega⟩
  ·
   left
   rw [Wf h1, Wv]
   exact ⟨_, rfl, g1, g2, by simp only; omega⟩) big k (r2.2.b, r2.2.at_, r2.2.mix, r2.2.size, [], (k : Int)) ⟨a1, a2, by simp; omega, rfl⟩ (Ycq (by omega))
 obtain ⟨ob, oa, ox, os, ol⟩ := o
 rw [e1, Wb]
 obtain ⟨o1, o2, o3⟩ := e2
 simp only at o1 o2 o3
 simp only [Z8i, Z8h]
 refine DrP.bind (oneD o1 (by omega)) o2 fun r47 b1 b2 _ => ?_
 refine DrP.cond (fun _ => ?_) (fun _ => DrP.ret b1 b2 (by omega))
 refine DrP.bind (Ym9 b1) b2 fun r50 c1 c2 _ => ?_
 rw [Ygl (by simp; omega), Wb]
 exact DrP.ret c1 c2 (by simp; omega)

def Ymc (r : Y9k × List (List Y9m)) : Prop := SmG r.1 ∧ r.2.length ≤ 4 ∧ ∀ s ∈ r.2, s.length ≤ 100

theorem Ymd {g : Y9k} (hg : Fine g) (id : Int) : ∃ r, Z7w g id = some r ∧ r.length ≤ 60 := by
 rcases Ylt hg id with ⟨_, _, _, h, _⟩ | ⟨e, he, hk, hid, _, _, h, _⟩
 ·
  exact ⟨[], h, by simp⟩
 ·
  refine ⟨_, h, ?_⟩
  rw [← hid]
  exact Nat.le_trans (Ykn hk.right he).len hk.right.fits.len

theorem Yme {p : List Int} (hl : p.length ≤ 1048576) : ∃ r, Z8s p = some r ∧ Ymc r := by
 obtain ⟨s, s1, s2⟩ := Yei hl
 obtain ⟨g, g1, g2, g3, g4⟩ := Yla s2
 obtain ⟨n, n1, n2, n3, n4⟩ := nD g2 (k := 4) (by omega) (by omega)
 unfold Z8s
 rw [s1, Wb, g1, Wb, n1, Wb]
 obtain ⟨k, hk⟩ := Int.eq_ofNat_of_zero_le n4.1
 have hk4 := n4.2
 rw [hk] at hk4 ⊢
 obtain ⟨o, e1, e2⟩ := Y51 (step := fun z : List Int × Int × Int × Int × List Y9j × List (List Y9m) × Int => Z8r g z.1 z.2.1 z.2.2.1 z.2.2.2.1 z.2.2.2.2.1 z.2.2.2.2.2.1 z.2.2.2.2.2.2) (p := fun o : List Int × Int × Int × Int × List Y9j × List (List Y9m) => Yed ⟨o.1, o.2.1, o.2.2.1, o.2.2.2.1⟩ ∧ SmG ⟨g.1.room, g.1.events, o.2.2.2.2.1⟩ ∧ o.2.2.2.2.2.length ≤ 3 ∧ ∀ s ∈ o.2.2.2.2.2, s.length ≤ 100)
  (fun n (z : List Int × Int × Int × Int × List Y9j × List (List Y9m) × Int) => Yed ⟨z.1, z.2.1, z.2.2.1, z.2.2.2.1⟩ ∧ SmG ⟨g.1.room, g.1.events, z.2.2.2.2.1⟩ ∧ z.2.2.2.2.2.1.length + n ≤ 3 ∧ (∀ s ∈ z.2.2.2.2.2.1, s.length ≤ 100) ∧ z.2.2.2.2.2.2 = (n : Int)) (by
  rintro n ⟨b, a, x, sz, pk, l, y⟩ ⟨g1, g2, g3, g4, g5⟩
  simp only at g1 g2 g3 g4 g5
  subst g5
  have stop : (∃ o, Z8q g b a x sz pk l (n : Int) false = some (.inr o) ∧ Yed ⟨o.1, o.2.1, o.2.2.1, o.2.2.2.1⟩ ∧ SmG ⟨g.1.room, g.1.events, o.2.2.2.2.1⟩ ∧ o.2.2.2.2.2.length ≤ 3 ∧ ∀ s ∈ o.2.2.2.2.2, s.length ≤ 100) := ⟨_, rfl, g1, g2, by simp only; omega, g4⟩
  simp only [Z8r]
  by_cases h1 : (n : Int) > 0
  ·
   rw [Wt h1, Wu]
   cases decide ((g.1.events.length : Int) > 0) with
   | false => exact .inl stop
   | true =>
    right
    obtain ⟨i, i1, i2, _⟩ := idD g1 g2
    obtain ⟨r, r1, r2⟩ := Ymd g2.fine i.1
    simp only [Z8q, Wu]
    rw [i1, Wb, r1, Wb, Ygl (by simp; omega), Wb, Y4y (n := (n : Int) - 1) (by omega) (by omega)]
    refine ⟨_, n - 1, rfl, by omega, i2, g2, by simp; omega, fun s hs => ?_, by simp only; omega⟩
    simp only [List.mem_append, List.mem_singleton] at hs
    rcases hs with hs | rfl
    ·
     exact g4 s hs
    ·
     omega
  ·
   left
   rw [Wf h1, Wv]
   exact stop) big k (n.2.b, n.2.at_, n.2.mix, n.2.size, g.1.parked, [], (k : Int)) ⟨n2, g4, by simp; omega, by simp, rfl⟩ (Ycq (by omega))
 obtain ⟨ob, oa, ox, os, op, ol⟩ := o
 rw [e1, Wb]
 obtain ⟨o1, o2, o3, o4⟩ := e2
 simp only at o1 o2 o3 o4
 simp only [Z8p, Z8o]
 obtain ⟨q, q1, q2, _⟩ := oneD o1 (k := 15) (by omega)
 rw [q1, Wb]
 cases q.1 with
 | false => exact ⟨_, rfl, o2, by simp only; omega, o4⟩
 | true =>
  obtain ⟨t, t1, t2, t3, t4⟩ := Ymb q2
  rw [Wu, t1, Wb, Ygl (by simp; omega), Wb]
  refine ⟨_, rfl, o2, by simp; omega, fun s hs => ?_⟩
  simp only [List.mem_append, List.mem_singleton] at hs
  rcases hs with hs | rfl
  ·
   exact o4 s hs
  ·
   omega
end Go.Proofs.YtomachnjepgpbaaGreat
