/- Plain laws for the graphs: who is ahead of whom; depths rise. -/
import Derived.Test.YtbgichfjcnibpaaGreatTGO
set_option autoImplicit false
set_option linter.unusedVariables false
set_option linter.unusedSimpArgs false
namespace Go.Proofs.YtbgichfjcnibpaaGreat
open Go Go.Abs

inductive Bf (l : List Y8z) (a : Int) : List Int → List Int → Bool → Prop
 | nil (seen : List Int) : Bf l a seen [] false
 | hit (seen r : List Int) : Bf l a seen (a :: r) true
 | skip (seen r : List Int) (id : Int) (b : Bool) : id ≠ a → id ∈ seen → Bf l a seen r b → Bf l a seen (id :: r) b
 | more (seen r : List Int) (id : Int) (b : Bool) : id ≠ a → id ∉ seen → Bf l a (id :: seen) (r ++ (evD l id).prev) b → Bf l a seen (id :: r) b

theorem Bf.det {l : List Y8z} {a : Int} {seen todo : List Int} {b1 b2 : Bool} (h1 : Bf l a seen todo b1) (h2 : Bf l a seen todo b2) : b1 = b2 := by
 induction h1 with
 | nil => cases h2; rfl
 | hit => cases h2 <;> first | rfl | contradiction
 | skip _ _ _ _ n1 m1 _ ih =>
  cases h2 with
  | hit => exact absurd rfl n1
  | skip _ _ _ _ _ _ h => exact ih h
  | more _ _ _ _ _ m2 _ => exact absurd m1 m2
 | more _ _ _ _ n1 m1 _ ih =>
  cases h2 with
  | hit => exact absurd rfl n1
  | skip _ _ _ _ _ m2 _ => exact absurd m2 m1
  | more _ _ _ _ _ _ h => exact ih h

def Yjq (l : List Y8z) (seen : List Int) : Nat := l.countP fun e => !decide (e.id ∈ seen)
theorem Yjr {l : List Y8z} {seen : List Int} {id : Int} (hi : id ∈ l.map (·.id)) (hn : id ∉ seen) : Yjq l (id :: seen) < Yjq l seen := by
 have key : ∀ l : List Y8z, Yjq l (id :: seen) ≤ Yjq l seen ∧ (id ∈ l.map (·.id) → Yjq l (id :: seen) < Yjq l seen) := by
  intro l; unfold Yjq
  induction l with
  | nil => simp
  | cons e l ih =>
   obtain ⟨i1, i2⟩ := ih
   by_cases he : e.id = id
   ·
    rw [List.countP_cons_of_neg (by simp [he]), List.countP_cons_of_pos (by simp [he, hn])]; exact ⟨by omega, fun _ => by omega⟩
   ·
    by_cases hs : e.id ∈ seen
    ·
     rw [List.countP_cons_of_neg (by simp [hs]), List.countP_cons_of_neg (by simp [hs])]; refine ⟨i1, fun h => i2 ?_⟩; simp only [List.map_cons, List.mem_cons] at h; exact h.resolve_left fun h => he h.symm
    ·
     rw [List.countP_cons_of_pos (by simp [hs, he]), List.countP_cons_of_pos (by simp [hs])]; refine ⟨by omega, fun h => ?_⟩; simp only [List.map_cons, List.mem_cons] at h; have := i2 (h.resolve_left fun h => he h.symm); omega
 exact (key l).2 hi
theorem Yjs (l : List Y8z) (seen : List Int) : Yjq l seen ≤ l.length := List.countP_le_length

structure Walk (g : Y92) : Prop where
 fits : Fits g.events
 ev : ∀ e ∈ g.events, EvOk e

theorem Walk.prev {g : Y92} (h : Walk g) {id : Int} (hi : id ∈ g.events.map (·.id)) : (evD g.events id).prev.length ≤ 4 ∧ ∀ p ∈ (evD g.events id).prev, p ∈ g.events.map (·.id) := by
 obtain ⟨_, h2, _⟩ := Yjj hi h.fits.up; refine ⟨(h.ev _ h2).prev.1, fun p hp => ?_⟩; obtain ⟨e, he, hid⟩ := Yff.1 (h.fits.whole _ h2 p hp); exact List.mem_map.2 ⟨e, he, hid⟩

theorem Yjt {l : List Y8z} {id : Int} : hasE l id = true ↔ id ∈ l.map (·.id) := by rw [Yff, List.mem_map]

theorem Zl5 {g : Y92} (h : Walk g) (a : Int) {e : Y8z} (he : e ∈ g.events) : ∃ b, Zew g a e = some b ∧ Bf g.events a [] e.prev b := by
 have hfl := h.fits.len; have hev : evD g.events e.id = e := by unfold evD; rw [h.fits.up.evAt_mem he]; rfl
 have hpe := h.prev (List.mem_map.2 ⟨e, he, rfl⟩); rw [hev] at hpe; unfold Zew; have hcl : Zer e.prev = some e.prev := by unfold Zer; rw [chk8 (by omega)]; rfl
 rw [hcl, Wb]
 obtain ⟨o, h1, h2⟩ := Y4l (step := fun z : List (Int × Bool) × List Int × Int => Zev g a z.1 z.2.1 z.2.2) (p := fun o : Bool ⊕ Unit => ∃ b, Bf g.events a [] e.prev b ∧ ((o = .inl true ∧ b = true) ∨ (o = .inr () ∧ b = false)))
  (fun k (z : List (Int × Bool) × List Int × Int) => ∃ (seen : List Int) (at_ : Nat), z.2.2 = (at_ : Int) ∧ at_ ≤ z.2.1.length ∧ (∀ id, Option.getD (mget z.1 id) false = true ↔ id ∈ seen) ∧ (∀ id ∈ z.2.1, id ∈ g.events.map (·.id)) ∧ z.2.1.length + 5 * Yjq g.events seen ≤ 400 ∧ (∀ b, Bf g.events a seen (z.2.1.drop at_) b → Bf g.events a [] e.prev b) ∧ k = (z.2.1.length - at_) + 5 * Yjq g.events seen) (by
  rintro k ⟨m, q, x⟩ ⟨seen, at_, hx, hat, hm, hq, hb, hB, hk⟩; simp only at hx hat hm hq hb hB hk; subst hx; simp only [Zev]
  by_cases hlt : at_ < q.length
  ·
   rw [dlt hlt, Wu, Yec hlt, Wb, beqd]; rw [List.drop_eq_getElem_cons hlt] at hB; have hqi := hq _ (Wm hlt); generalize q[at_] = id at hB hqi
   by_cases ha : id = a
   ·
    left; rw [Wt ha, Wu]; subst ha; exact ⟨_, rfl, true, hB _ (.hit _ _), .inl ⟨rfl, rfl⟩⟩
   ·
    right; rw [Wf ha, Wv]; simp only [Zeu, Yed hlt (by omega : q.length < 9223372036854775807)]
    by_cases hs : Option.getD (mget m id) false = true
    ·
     rw [hs, Wu]; exact ⟨_, k - 1, rfl, by omega, seen, at_ + 1, rfl, by simp only; omega, hm, hq, hb, fun b h => hB b (.skip _ _ _ _ ha ((hm id).1 hs) h), by simp only; omega⟩
    ·
     rw [Bool.eq_false_iff.2 hs, Wv, c_at _ _ h.fits.up (by omega), Wb]; have hns : id ∉ seen := fun h => hs ((hm id).2 h); have hp := h.prev hqi; have hu := Yjr hqi hns; have e1 : (evAt g.events id).getD zEv = evD g.events id := rfl; rw [e1, chk8 (by show q.length + (evD g.events id).prev.length < 1000000000; omega), Wb]; refine ⟨_, (q.length + (evD g.events id).prev.length - (at_ + 1)) + 5 * Yjq g.events (id :: seen), rfl, by omega, id :: seen, at_ + 1, rfl, by simp; omega, fun id' => ?_, fun id' hid => ?_, by simp; omega, fun b h => hB b ?_, by simp⟩
     ·
      rw [Y67]
      by_cases h3 : id' = id
      ·
       rw [if_pos h3]; simp [h3]
      ·
       rw [if_neg h3, hm]; simp [h3]
     ·
      rcases List.mem_append.1 hid with hid | hid
      ·
       exact hq _ hid
      ·
       exact hp.2 _ hid
     ·
      refine .more _ _ _ _ ha hns ?_; simp only at h; rwa [List.drop_append_of_le_length (by omega)] at h
  ·
   left; obtain rfl : at_ = q.length := by omega
   rw [dnlt, Wv]; rw [List.drop_length] at hB
   exact ⟨_, rfl, false, hB _ (.nil _), .inr ⟨rfl, rfl⟩⟩) big (e.prev.length + 5 * Yjq g.events []) ([], e.prev, 0) ⟨[], 0, rfl, by simp, by simp [mget], hpe.2, by have := Yjs g.events []; simp only; omega, by simp, by simp⟩ (Ye7 (by have := Yjs g.events []; omega))
 obtain ⟨b, hb, h2⟩ := h2; rw [h1, Wb]; rcases h2 with ⟨rfl, rfl⟩ | ⟨rfl, rfl⟩
 ·
  exact ⟨true, rfl, hb⟩
 ·
  exact ⟨false, rfl, hb⟩

theorem Yju (e : Y8z) (h : e.prev.length < 1000000) : Z56 e = some e := by
 unfold Z56; rw [chk8 (by simp; omega), Wb]; rfl

theorem Yjv {g : Y92} (hl : g.events.length < 1000000) {e : Y8z} {id : Int} (he : evAt g.events id = some e) (hp : e.prev.length < 1000000) : Z58 g id = some e := by
 unfold Z58; obtain ⟨h1, h2⟩ := Yi9 he; rw [Yf9 _ _ (by omega), Wb, Wf (by omega), Wv, h1, Wb, Yju _ hp]; rfl

theorem Zl6 {g : Y92} (h : Walk g) (a : Int) (ha : a ∈ g.events.map (·.id)) {e : Y8z} (he : e ∈ g.events) : ∃ b, Z5d g a e.id = some b ∧ Bf g.events a [] e.prev b := by
 have hfl := h.fits.len; have hee := h.fits.up.evAt_mem he; have hev : evD g.events e.id = e := by unfold evD; rw [hee]; rfl
 have hpe := h.prev (List.mem_map.2 ⟨e, he, rfl⟩); rw [hev] at hpe; unfold Z5d; rw [Yf9 _ _ (by omega), Wb, Yfb, Yjt.2 ha, Yf9 _ _ (by omega), Wb, Yfb, Yfe he]; simp only [Bool.not_true, Wv, Z5c]; rw [Y4j (Wt ⟨by omega, by omega⟩), Wb, Yjv (by omega) hee (by omega), Wb, chk8 (by simp; omega), Wb, Int.toNat_natCast, List.nil_append]
 obtain ⟨o, h1, h2⟩ := Y4l (step := fun z : List Bool × List Int => Z5b g a z.1 z.2) (p := fun o : Bool ⊕ Unit => ∃ b, Bf g.events a [] e.prev b ∧ ((o = .inl true ∧ b = true) ∨ (o = .inr () ∧ b = false)))
  (fun k (z : List Bool × List Int) => ∃ (seen : List Int), z.1.length = g.events.length ∧ (∀ id ∈ g.events.map (·.id), getI z.1 (plc g.events id) = some (decide (id ∈ seen))) ∧ (∀ id ∈ z.2, id ∈ g.events.map (·.id)) ∧ z.2.length + 5 * Yjq g.events seen ≤ 400 ∧ (∀ b, Bf g.events a seen z.2 b → Bf g.events a [] e.prev b) ∧ k = z.2.length + 5 * Yjq g.events seen) (by
  rintro k ⟨m, q⟩ ⟨seen, hml, hm, hq, hb, hB, hk⟩; simp only at hml hm hq hb hB hk; simp only [Z5b]
  cases q with
  | nil =>
   left
   exact ⟨_, rfl, false, hB _ (.nil _), .inr ⟨rfl, rfl⟩⟩
  | cons id r =>
   have hqi := hq id (by simp); obtain ⟨i1, i2, i3⟩ := Yjj hqi h.fits.up; rw [Wt (by simp <;> omega), Wu, show (0 : Int) = ((0 : Nat) : Int) from rfl, Yec (by simp), Wb, Y4j (Wt (by simp <;> omega)), Wb, Yf9 _ _ (by omega), Wb]; simp only [List.getElem_cons_zero, List.length_cons] at hk hb ⊢; rw [beqd]
   by_cases ha : id = a
   ·
    left; rw [Wt ha, Wu]; subst ha; exact ⟨_, rfl, true, hB _ (.hit _ _), .inl ⟨rfl, rfl⟩⟩
   ·
    right; rw [Wf ha, Wv, hm id hqi, Wb]
    by_cases hs : id ∈ seen
    ·
     rw [Wt hs, Wu]; exact ⟨_, k - 1, rfl, by omega, seen, hml, hm, fun id' h => hq id' (by simp at h; simp [h]), by simp; omega, fun b h => hB b (.skip _ _ _ _ ha hs (by simpa using h)), by simp; omega⟩
    ·
     have hp := h.prev hqi; have hu := Yjr hqi hs; rw [Wf hs, Wv, (Yi9 i1).1, Wb, chk8 (by simp; omega), Wb]; refine ⟨_, r.length + (evD g.events id).prev.length + 5 * Yjq g.events (id :: seen), rfl, by omega, id :: seen, by simp [hml], fun id' hid => ?_, fun id' hid => ?_, by simp; omega, fun b h => hB b (.more _ _ _ _ ha hs (by simpa using h)), by simp⟩
     ·
      obtain ⟨p, hpl, p1, p2, p3⟩ := Yfc (Yjt.2 hid); obtain ⟨p', hpl', p1', p2', p3'⟩ := Yfc (Yjt.2 hqi); rw [p1, p1', Int.toNat_natCast]; have hm' := hm id' hid; rw [p1] at hm'
      by_cases h3 : id' = id
      ·
       subst h3; obtain rfl : p = p' := by omega
       rw [Yec (by simp; omega)]; simp
      ·
       have hne : p' ≠ p := fun h => by subst h; exact h3 (p2.symm.trans p2')
       rw [Yec (by omega)] at hm'; rw [Yec (by simp; omega), List.getElem_set_ne hne]; rw [hm']; simp [h3]
     ·
      simp at hid; rcases hid with hid | hid
      ·
       exact hq _ (by simp [hid])
      ·
       exact hp.2 _ hid) big (e.prev.length + 5 * Yjq g.events []) (List.replicate g.events.length false, e.prev) ⟨[], by simp, fun id hid => by
   obtain ⟨p, hpl, p1, _, _⟩ := Yfc (Yjt.2 hid)
   rw [p1, Yec (by simpa using hpl)]; simp, hpe.2, by have := Yjs g.events []; simp only; omega, by simp, by simp⟩ (Ye7 (by have := Yjs g.events []; omega))
 obtain ⟨b, hb, h2⟩ := h2; rw [h1, Wb]; rcases h2 with ⟨rfl, rfl⟩ | ⟨rfl, rfl⟩
 ·
  exact ⟨true, rfl, hb⟩
 ·
  exact ⟨false, rfl, hb⟩

theorem Bf.none {g : Y92} (h : Walk g) {a : Int} (ha : a ∉ g.events.map (·.id)) {seen todo : List Int} {b : Bool} (hb : Bf g.events a seen todo b) (ht : ∀ id ∈ todo, id ∈ g.events.map (·.id)) : b = false := by
 induction hb with
 | nil => rfl
 | hit => exact absurd (ht a (by simp)) ha
 | skip _ _ _ _ _ _ _ ih => exact ih fun id hid => ht id (by simp [hid])
 | more _ r id _ _ _ _ ih =>
  refine ih fun id' hid => ?_; rcases List.mem_append.1 hid with hid | hid
  ·
   exact ht id' (by simp [hid])
  ·
   exact (h.prev (ht id (by simp))).2 _ hid

theorem Yjw {g : Y92} (h : Walk g) (a : Int) {e : Y8z} (he : e ∈ g.events) : ∃ b, Z5d g a e.id = some b ∧ Zew g a e = some b := by
 obtain ⟨b, h1, h2⟩ := Zl5 h a he
 by_cases ha : a ∈ g.events.map (·.id)
 ·
  obtain ⟨b', h3, h4⟩ := Zl6 h a ha he; have := h2.det h4; subst this; exact ⟨b, h3, h1⟩
 ·
  have hpe := h.prev (List.mem_map.2 ⟨e, he, rfl⟩); have hev : evD g.events e.id = e := by unfold evD; rw [h.fits.up.evAt_mem he]; rfl
  rw [hev] at hpe; have := h2.none h ha hpe.2; subst this; refine ⟨false, ?_, h1⟩; have hfl := h.fits.len; unfold Z5d; rw [Yf9 _ _ (by omega), Wb, Yfb, Bool.eq_false_iff.2 (fun hh => ha (Yjt.1 hh))]; rfl


def Cons (l : List Y8z) (d : List Int) : Prop := ∀ (i : Nat) (hi : i < l.length), d.getD i 0 > 0 → own l d l[i] = d.getD i 0

theorem Yjx {l : List Y8z} {d : List Int} {e : Y8z} (h : own l d e > 0) : e.prev.all (fun p => decide (dOf l d p > 0)) = true := by
 unfold own at h
 split at h
 ·
  assumption
 ·
  omega

theorem Yjy {f g : Int → Int → Int} : ∀ {l : List Int} {m : Int}, (∀ m, ∀ p ∈ l, f m p = g m p) → l.foldl f m = l.foldl g m
 | [], _, _ => rfl
 | p :: l, m, h => by rw [List.foldl_cons, List.foldl_cons, h m p (by simp)]; exact Yjy fun m q hq => h m q (by simp [hq])

theorem Yjz {l : List Y8z} {d : List Int} (hd : d.length = l.length) (hw : Yfs l) {i : Nat} {v : Int} (h0 : d.getD i 0 = 0) {e : Y8z} (he : e ∈ l) (h : own l d e > 0) : own l (d.set i v) e = own l d e := by
 have hp := Yjx h
 have hsame : ∀ p ∈ e.prev, dOf l (d.set i v) p = dOf l d p := fun p hp' => by
  have h1 := Wo (List.all_eq_true.1 hp p hp'); obtain ⟨k, hk, k1, _, _⟩ := Yfc (hw e he p hp'); unfold dOf at h1 ⊢; rw [k1] at h1 ⊢; have hkd : k < d.length := by omega
  rw [Yec hkd] at h1; rw [Yec (by simpa using hkd), Yec hkd]
  by_cases hik : i = k
  ·
   subst hik; simp only [List.getD_eq_getElem?_getD, We hkd, Option.getD_some] at h0; simp only [Option.getD_some] at h1; omega
  ·
   rw [List.getElem_set_ne hik]
 unfold own
 have e1 : e.prev.all (fun p => decide (dOf l (d.set i v) p > 0)) = e.prev.all (fun p => decide (dOf l d p > 0)) := by
  rw [Bool.eq_iff_iff, List.all_eq_true, List.all_eq_true]; constructor
  ·
   intro h2 p hp'; have := h2 p hp'; rwa [hsame p hp'] at this
  ·
   intro h2 p hp'; rw [hsame p hp']; exact h2 p hp'
 rw [e1, Yjy fun m p hp' => by rw [hsame p hp']]

theorem Cons.upd {l : List Y8z} {d : List Int} {c i : Nat} (hw : Yfs l) (hb : Bd l c d) (hi : i < l.length) (h : Cons l d) : Cons l (updD l d i) := by
 rcases Yg2 hb hi with h1 | ⟨h1, h2, h3, _⟩
 ·
  rw [h1]; exact h
 ·
  rw [h3]; have e2 : l.getD i zEv = l[i] := by simp [hi]
  rw [e2] at h2 ⊢; intro j hj hpos; have hjd : j < d.length := by rw [hb.len]; exact hj
  have hid : i < d.length := by rw [hb.len]; exact hi
  by_cases hij : i = j
  ·
   subst hij; rw [Yjz hb.len hw h1 (Wm hi) h2]; simp [hid]
  ·
   have e3 : (d.set i (own l d l[i])).getD j 0 = d.getD j 0 := by
    simp only [List.getD_eq_getElem?_getD, List.getElem?_set_ne hij]
   rw [e3] at hpos ⊢; have h4 := h j hj hpos; rw [Yjz hb.len hw h1 (Wm hj) (by omega)]; exact h4

theorem Cons.sweep {l : List Y8z} {d : List Int} {c : Nat} (hw : Yfs l) (hb : Bd l c d) (h : Cons l d) : Cons l (sweep l d) := by
 unfold Go.Proofs.YtbgichfjcnibpaaGreat.sweep
 suffices key : ∀ (r : List Nat) (c : Nat) (d : List Int), (∀ i ∈ r, i < l.length) → Bd l c d → Cons l d → Cons l (r.foldl (updD l) d) from key _ c d (fun i hi => by simpa using hi) hb h
 intro r
 induction r with
 | nil => intro c d _ _ h; exact h
 | cons i r ih =>
  intro c d hr hb h; rw [List.foldl_cons]; exact ih (c + 1) _ (fun j hj => hr j (by simp [hj])) (Yfy hw hb (hr i (by simp))) (h.upd hw hb (hr i (by simp)))

theorem Yk0 {l : List Y8z} (hf : Fits l) : Cons l (Yfu l) := by
 unfold Yfu; have hz : Bd l 0 (List.replicate l.length 0) := ⟨by simp, fun x hx => by rw [List.eq_of_mem_replicate hx]; simp⟩
 have key : ∀ k, k ≤ l.length → Cons l (Yft l k (List.replicate l.length 0)) := by
  intro k
  induction k with
  | zero =>
   intro _ i hi h
   simp [Yft, hi] at h
  | succ k ih =>
   intro hk; exact (ih (by omega)).sweep hf.whole (Yg6 hf hz k (by omega))
 exact key _ (Nat.le_refl _)

theorem Yk1 (a b : Int) : a ≤ mx2 a b ∧ b ≤ mx2 a b := by unfold mx2; split <;> omega
theorem Yk2 {l : List Y8z} (hf : Fits l) (hd : Deep l) {e : Y8z} (he : e ∈ l) {p : Int} (hp : p ∈ e.prev) : dOf l (Yfu l) p < dOf l (Yfu l) e.id := by
 obtain ⟨i, hi, rfl⟩ := List.mem_iff_getElem.1 he; have hb := (Yg0 hf).2; have hid : i < (Yfu l).length := by rw [hb.len]; exact hi
 have e1 : dOf l (Yfu l) l[i].id = (Yfu l)[i] := by
  unfold dOf; rw [(hf.up.plc hi).1, Yec hid]; rfl
 have e2 : (Yfu l).getD i 0 = (Yfu l)[i] := by simp [hid]
 have hpos := hd _ (Wm hid); have hc := Yk0 hf i hi (by rw [e2]; exact hpos); rw [e2] at hc; rw [e1]; have ha := Yjx (l := l) (d := Yfu l) (e := l[i]) (by omega); unfold own at hc; rw [if_pos ha] at hc
 have hmx : ∀ (ps : List Int) (m : Int), p ∈ ps → dOf l (Yfu l) p ≤ ps.foldl (fun m p => mx2 m (dOf l (Yfu l) p)) m := by
  intro ps
  have hmono : ∀ (ps : List Int) (m : Int), m ≤ ps.foldl (fun m p => mx2 m (dOf l (Yfu l) p)) m := by
   intro ps
   induction ps with
   | nil => intro m; exact Int.le_refl _
   | cons q ps ih => intro m; rw [List.foldl_cons]; have := ih (mx2 m (dOf l (Yfu l) q)); have := (Yk1 m (dOf l (Yfu l) q)).1; omega
  induction ps with
  | nil => intro m h; cases h
  | cons q ps ih =>
   intro m h; rw [List.foldl_cons]; rcases List.mem_cons.1 h with rfl | h
   ·
    have := hmono ps (mx2 m (dOf l (Yfu l) p)); have := (Yk1 m (dOf l (Yfu l) p)).2; omega
   ·
    exact ih _ h
 have := hmx _ 0 hp; omega
end Go.Proofs.YtbgichfjcnibpaaGreat
namespace Go.Proofs.YtbgichfjcnibpaaGreat
open Go Go.Abs

theorem Yk3 {τ1 τ2 ω1 ω2 σ1 σ2 : Type} {step1 : τ1 → Option (τ1 ⊕ ω1)} {step2 : τ2 → Option (τ2 ⊕ ω2)} {n : Nat} (emb1 : σ1 → Int → τ1) (emb2 : σ2 → Int → τ2) (I : Nat → σ1 → σ2 → Prop) (Q : ω1 → ω2 → Prop) (hn : n < 9223372036854775807)
  (h1 : ∀ (i : Nat) (s : σ1) (t : σ2), i < n → I i s t → ∃ s' t', step1 (emb1 s i) = some (.inl (emb1 s' ((i + 1 : Nat) : Int))) ∧ step2 (emb2 t i) = some (.inl (emb2 t' ((i + 1 : Nat) : Int))) ∧ I (i + 1) s' t')
  (h2 : ∀ s t, I n s t → ∃ o o', step1 (emb1 s n) = some (.inr o) ∧ step2 (emb2 t n) = some (.inr o') ∧ Q o o') {s : σ1} {t : σ2} (h0 : I 0 s t) :
  ∃ o o', iter step1 big (emb1 s 0) = some o ∧ iter step2 big (emb2 t 0) = some o' ∧ Q o o' := by
 have key : ∀ m i k : Nat, ∀ s t, i + m = n → m < k → I i s t → ∃ o o', iter step1 k (emb1 s i) = some o ∧ iter step2 k (emb2 t i) = some o' ∧ Q o o' := by
  intro m
  induction m with
  | zero =>
   intro i k s t hm hk hi; obtain ⟨k, rfl⟩ : ∃ k', k = k' + 1 := ⟨k - 1, by omega⟩; obtain rfl : i = n := by omega
   obtain ⟨o, o', e1, e2, hq⟩ := h2 s t hi
   exact ⟨o, o', by rw [iter, e1]; rfl, by rw [iter, e2]; rfl, hq⟩
  | succ m ih =>
   intro i k s t hm hk hi; obtain ⟨k, rfl⟩ : ∃ k', k = k' + 1 := ⟨k - 1, by omega⟩; obtain ⟨s', t', e1, e2, hi'⟩ := h1 i s t (by omega) hi; obtain ⟨o, o', f1, f2, hq⟩ := ih (i + 1) k s' t' (by omega) (by omega) hi'; exact ⟨o, o', by rw [iter, e1]; exact f1, by rw [iter, e2]; exact f2, hq⟩
 exact key n 0 big s t (by omega) (Ye7 (by omega)) h0


theorem Yk4 {l : List Y8z} {k : Nat} (hk : k < l.length) : idPl l (k : Int) = l[k].id := by unfold idPl; simp [hk]
theorem Yk5 {l : List Y8z} (hf : Fits l) {k : Nat} (hk : k < l.length) : dd (Yfu l) (k : Int) = dOf l (Yfu l) l[k].id := by
 have hb := (Yg0 hf).2; have hkd : k < (Yfu l).length := by rw [hb.len]; exact hk
 unfold dd dOf; rw [(hf.up.plc hk).1, Yec hkd]; simp [hkd]

theorem Yk6 {l : List Y8z} (hf : Fits l) {k : Nat} (hk : k < l.length) : (k : Int) ∈ Yh2 l := by
 refine (Yh4 hf).2.1.mem_iff.2 ?_; unfold idt; exact List.mem_map.2 ⟨k, List.mem_range'_1.2 ⟨by omega, by omega⟩, rfl⟩

theorem Yk7 {l : List Y8z} (hf : Fits l) : (Yh3 l).length = l.length := by unfold Yh3; rw [List.length_map, Yh6 hf]
theorem Yk8 {l : List Y8z} (hf : Fits l) {id : Int} : id ∈ Yh3 l ↔ id ∈ l.map (·.id) := by
 unfold Yh3; rw [List.mem_map, List.mem_map]; constructor
 ·
  rintro ⟨x, hx, rfl⟩; obtain ⟨k, rfl, hk⟩ := Yh5 hf hx; exact ⟨l[k], Wm hk, (Yk4 hk).symm⟩
 ·
  rintro ⟨e, he, rfl⟩; obtain ⟨k, hk, rfl⟩ := List.mem_iff_getElem.1 he; exact ⟨(k : Int), Yk6 hf hk, Yk4 hk⟩
theorem Yk9 {l : List Y8z} (hf : Fits l) : (Yh3 l).Nodup := by
 unfold Yh3; rw [List.nodup_iff_pairwise_ne, List.pairwise_map]; refine List.Pairwise.imp_of_mem (fun {a b} ha hb hab he => ?_) (Yh4 hf).2.2; obtain ⟨i, rfl, hi⟩ := Yh5 hf ha; obtain ⟨j, rfl, hj⟩ := Yh5 hf hb; rw [Yk4 hi, Yk4 hj] at he; obtain rfl := hf.up.inj hi hj he; unfold Lt2 at hab; omega

theorem Yka {l : List Y8z} {i : Nat} (h1 : i < (Yh2 l).length) (h2 : i < (Yh3 l).length) : (Yh3 l)[i] = idPl l (Yh2 l)[i] := List.getElem_map _
theorem Ykb {l : List Y8z} (hf : Fits l) (hd : Deep l) {i : Nat} (hi : i < (Yh3 l).length) {e : Y8z} (he : evAt l (Yh3 l)[i] = some e) {p : Int} (hp : p ∈ e.prev) : p ∈ (Yh3 l).take i := by
 obtain ⟨hel, hid⟩ := Yfg he; obtain ⟨f, hfl, hfid⟩ := Yff.1 (hf.whole e hel p hp); obtain ⟨k, hk, rfl⟩ := List.mem_iff_getElem.1 hfl; obtain ⟨u, hu, huk⟩ := List.mem_iff_getElem.1 (Yk6 hf hk); have hlt := Yk2 hf hd hel hp; have hil : i < (Yh2 l).length := by rw [Yh6 hf]; rw [Yk7 hf] at hi; exact hi
 obtain ⟨x, hx, hxl⟩ := Yh5 hf (Wm hil)
 have e1 : (Yh3 l)[i] = l[x].id := by
  rw [Yka hil hi, hx, Yk4 hxl]
 have d1 := Yk5 hf hxl; have d2 := Yk5 hf hk; rw [← e1, ← hid] at d1; rw [hfid] at d2
 have hui : u < i := by
  rcases Nat.lt_trichotomy u i with h | h | h
  ·
   exact h
  ·
   subst h; rw [hx] at huk; have : x = k := by omega
   subst this; omega
  ·
   have := List.pairwise_iff_getElem.1 (Yh4 hf).2.2 i u hil hu h; rw [hx, huk] at this; unfold Lt2 at this; omega
 have hul : u < (Yh3 l).length := by omega
 have e2 : (Yh3 l)[u] = p := by
  rw [Yka hu hul, huk, Yk4 hk, hfid]
 have : ((Yh3 l).take i)[u]'(by simp; omega) = p := by simp [e2]
 rw [← this]; exact Wm _


def Ykc (g : Y92) (a : Int) (e : Y8z) : Bool := (Zew g a e).getD false
def Ykd (g : Y92) (s : List Y94) (e : Y8z) : Int := if alw g s e = 0 ∧ e.kind = 8 ∧ Ykc g e.key e = false then 6 else alw g s e
def Yke (g : Y92) (s : List Y94) (e : Y8z) : List Y94 := if Ykd g s e = 0 ∧ e.kind ≤ 6 then putE s e else s

theorem Ykf {g : Y92} (hu : Up2 g.events) {s : List Y94} (hs : StOk g.events s) {e : Y8z} (he : e ∈ g.events) : StOk g.events (Yke g s e) := by
 unfold Yke
 split
 ·
  exact hs.put (hu.evAt_mem he)
 ·
  exact hs

structure Ykg (g : Y92) (ls : Int → List Y94) (B A : List (Int × List Y94)) (R : List (Int × Int)) (ah bh : List (List Y94)) (cd : List Int) (e : Y8z) : Prop where
 ok : StOk g.events (Yjn g (e.prev.map ls))
 mB : mget B e.id = some (Yjn g (e.prev.map ls))
 mR : mget R e.id = some (Ykd g (Yjn g (e.prev.map ls)) e)
 mA : mget A e.id = some (Yke g (Yjn g (e.prev.map ls)) e)
 ga : getI ah (plc g.events e.id) = some (Yjn g (e.prev.map ls))
 gc : getI cd (plc g.events e.id) = some (Ykd g (Yjn g (e.prev.map ls)) e)
 gb : getI bh (plc g.events e.id) = some (Yke g (Yjn g (e.prev.map ls)) e)

def behI (A : List (Int × List Y94)) (id : Int) : List Y94 := Option.getD (mget A id) []

structure Ykh (g : Y92) : Prop where
 fits : Fits g.events
 ev : ∀ e ∈ g.events, EvOk e
 deep : Deep g.events
theorem GOk.right {g : Y92} (h : GOk g) : Ykh g := ⟨h.fits, fun e he => (h.ev e he).1, h.deep⟩
theorem Ykh.walk {g : Y92} (h : Ykh g) : Walk g := ⟨h.fits, h.ev⟩

theorem Yki {g : Y92} (h : Ykh g) (a : Int) {e : Y8z} (he : e ∈ g.events) : Z5d g a e.id = some (Ykc g a e) ∧ Zew g a e = some (Ykc g a e) := by
 obtain ⟨b, h1, h2⟩ := Yjw h.walk a he; unfold Ykc; rw [h1, h2]; exact ⟨rfl, rfl⟩

theorem Ykj {α : Type} {l : List α} {k j : Nat} {v : α} (hk : k < l.length) : getI (l.set k v) (j : Int) = if j = k then some v else getI l (j : Int) := by
 have h0 : (0 : Int) ≤ (j : Int) := by omega
 simp only [getI, h0, if_true, Int.toNat_natCast]
 by_cases h : j = k
 ·
  subst h; rw [if_pos rfl, List.getElem?_set_self hk]
 ·
  rw [if_neg h, List.getElem?_set_ne (by omega)]

theorem Zl7 {h : Y99} (hr : Ykh h.graph) (hk : Yjo h) {e : Y8z} (he : e ∈ h.graph.events) (hpl : ∀ p ∈ e.prev, StOk h.graph.events (behI h.after p)) :
  Zf1 h e = some (mset h.before e.id (Yjn h.graph (e.prev.map (behI h.after))), mset h.after e.id (Yke h.graph (Yjn h.graph (e.prev.map (behI h.after))) e), mset h.refused e.id (Ykd h.graph (Yjn h.graph (e.prev.map (behI h.after))) e)) := by
 have hp4 := (hr.ev e he).prev.1
 have hst : Zcc h e.prev = some (e.prev.map (behI h.after)) := by
  unfold Zcc
  have := Yet (l := e.prev) (step := fun z : List (List Y94) × Int => Zcb h e.prev z.1 z.2) (fun q j => (q, j)) (fun q => q) (fun q p => q ++ [behI h.after p]) (fun i q => q.length = i) (by omega) (fun i q hi hq => by
   refine ⟨?_, by simp [hq]⟩; simp only [Zcb]
   rw [dlt hi, Wu, Yec hi, Wb, Yhq (by simp; omega), Wb, Yed hi (by omega)]; rfl)
   (fun q _ => by simp only [Zcb]; rw [dnlt, Wv]) (s := []) rfl
  have e1 : ∀ (r : List Int) (q : List (List Y94)), r.foldl (fun q p => q ++ [behI h.after p]) q = q ++ r.map (behI h.after) := by
   intro r
   induction r with
   | nil => intro q; simp
   | cons p r ih => intro q; rw [List.foldl_cons, ih]; simp
  rw [this.1, e1]; rfl
 have hm : Mrg h.graph (e.prev.map (behI h.after)) := ⟨hr.fits, hr.ev, hr.deep, fun s hs => by obtain ⟨p, hp, rfl⟩ := List.mem_map.1 hs; exact hpl p hp, by simp; omega⟩; obtain ⟨_, c2, c3⟩ := Yjp hm hk; unfold Zf1; rw [hst, Wb, c2, Wb, (Yik (hm.sts c3) (hr.ev e he).ask).2, Wb, (Yki hr _ he).2, beqd, beqd]; have hsl := hm.slen c3; generalize Yjn h.graph (e.prev.map (behI h.after)) = s at c3 hsl; have hid := (hr.ev e he).id.1; have hput := Yi4 c3.up (Y94.mk e.kind e.key e.id) (by simp only; omega) (by omega); simp only [Zf0, Zez, Zey, Wb, hput, Y68, beqd]; unfold Yke Ykd putE
 by_cases h1 : alw h.graph s e = 0
 ·
  by_cases h2 : e.kind = 8
  ·
   cases h3 : Ykc h.graph e.key e with
   | false => simp [h1, h2]
   | true => simp [h1, h2]
  ·
   by_cases h4 : e.kind ≤ 6
   ·
    simp [h1, h2, h4]
   ·
    simp [h1, h2, h4]
 ·
  simp [h1]
end Go.Proofs.YtbgichfjcnibpaaGreat
namespace Go.Proofs.YtbgichfjcnibpaaGreat
open Go Go.Abs

theorem Ykk {α β : Type} (f : α → β) : ∀ (r : List α) (q : List β), r.foldl (fun q p => q ++ [f p]) q = q ++ r.map f
 | [], q => by simp
 | p :: r, q => by rw [List.foldl_cons, Ykk f r]; simp

theorem Zl8 {g : Y92} (hr : Ykh g) {od : List Int} {ah bh : List (List Y94)} {cd : List Int} (ls : Int → List Y94) {i : Nat} (hi : i < od.length) (hil : i < g.events.length) {k : Nat} (hk : k < g.events.length) (hid : od[i] = g.events[k].id)
  (la : ah.length = g.events.length) (lb : bh.length = g.events.length) (lc : cd.length = g.events.length) (hpl : ∀ p ∈ g.events[k].prev, StOk g.events (ls p) ∧ getI bh (plc g.events p) = some (ls p)) :
  Z5m g (Yfu g.events) od ah bh cd (i : Int) = some (.inl (ah.set k (Yjn g (g.events[k].prev.map ls)), bh.set k (Yke g (Yjn g (g.events[k].prev.map ls)) g.events[k]), cd.set k (Ykd g (Yjn g (g.events[k].prev.map ls)) g.events[k]), ((i + 1 : Nat) : Int))) := by
 have hfl := hr.fits.len; have he : g.events[k] ∈ g.events := Wm hk; have hev := hr.ev _ he; have hp4 := hev.prev.1; have hplc := (hr.fits.up.plc hk).1; simp only [Z5m]; rw [dlt hil, Wu, Yec hi, Wb, hid, Yf9 _ _ (by omega), Wb, hplc, Yec hk, Wb]; generalize g.events[k] = e at *
 have h7 := Yet (l := e.prev) (step := fun z : List (List Y94) × Int => Z5l g bh e z.1 z.2) (fun q j => (q, j)) (fun q => q) (fun q p => q ++ [ls p]) (fun i q => q.length = i) (by omega) (fun i q hi hq => by
  refine ⟨?_, by simp [hq]⟩; simp only [Z5l]
  rw [dlt hi, Wu, Yec hi, Wb, Yf9 _ _ (by omega), Wb, (hpl _ (Wm hi)).2, Wb, Yhq (by simp; omega), Wb, Yed hi (by omega)])
  (fun q _ => by simp only [Z5l]; rw [dnlt, Wv]) (s := []) rfl
 rw [h7.1, Ykk, Wb, List.nil_append]; have hm : Mrg g (e.prev.map ls) := ⟨hr.fits, hr.ev, hr.deep, fun s hs => by obtain ⟨p, hp, rfl⟩ := List.mem_map.1 hs; exact (hpl p hp).1, by simp; omega⟩
 -- any history that knows the depths
 have hkn : Yjo (Y99.mk g (g.events.map fun e => (e.id, dmR g.events e)) [] [] []) := by
  intro e' he'
  have key : ∀ l : List Y8z, e' ∈ l → mget (l.map fun e => (e.id, dmR g.events e)) e'.id = some (dmR g.events e') := by
   intro l
   induction l with
   | nil => intro h; cases h
   | cons f l ih =>
    intro h; simp only [List.map_cons, mget]
    by_cases hf : e'.id = f.id
    ·
     rw [if_pos hf]; unfold dmR; rw [hf]
    ·
     rw [if_neg hf]; rcases List.mem_cons.1 h with rfl | h
     ·
      exact absurd rfl hf
     ·
      exact ih h
  exact key _ he'
 obtain ⟨c1, _, c3⟩ := Yjp (h := Y99.mk g (g.events.map fun e => (e.id, dmR g.events e)) [] [] []) hm hkn; simp only at c1 c3; simp only [Z5k]; rw [c1, Wb, Yec (by omega : k < ah.length), Wb, Int.toNat_natCast, Ykj (by omega), if_pos rfl, Wb, (Yik (hm.sts c3) hev.ask).1, Wb, Yec (by omega : k < cd.length), Wb, Ykj (by omega), if_pos rfl, Wb, (Yki hr _ he).1, beqd, beqd]; have hsl := hm.slen c3; generalize Yjn g (e.prev.map ls) = s at c3 hsl; have hput := Yht c3.up (Y94.mk e.kind e.key e.id) (by omega); have w1 : IntKind.i64.wrap ((i : Int) + 1) = ((i + 1 : Nat) : Int) := Yed hil (by omega); simp only [Z5j, Z5i, Z5h, Z5g, Int.toNat_natCast, hput, List.nil_append]; rw [Yhq (by simp; omega)]; have hgb : ∀ v : List Y94, getI (bh.set k v) (k : Int) = some v := fun v => by rw [Ykj (by omega), if_pos rfl]
 have hgc : ∀ v : Int, getI (cd.set k v) (k : Int) = some v := fun v => by rw [Ykj (by omega), if_pos rfl]
 have hgb0 := Yec (by omega : k < bh.length); simp only [Wb, hgb, hgc, hgb0, w1, List.set_set, beqd]; unfold Yke Ykd putE
 by_cases h1 : alw g s e = 0
 ·
  by_cases h2 : e.kind = 8
  ·
   cases h3 : Ykc g e.key e with
   | false => simp [h1, h2, hgc]
   | true => simp [h1, h2, hgc]
  ·
   by_cases h4 : e.kind ≤ 6
   ·
    simp [h1, h2, h4, hgc]
   ·
    simp [h1, h2, h4, hgc]
 ·
  simp [h1, hgc]

structure Both (g : Y92) (h : Y99) (w : Y95) : Prop where
 graph : h.graph = g
 depth : Yjo h
 depths : w.depths = Yfu g.events
 la : w.ahead.length = g.events.length
 lb : w.behind.length = g.events.length
 lc : w.code.length = g.events.length
 all : ∀ e ∈ g.events, Ykg g (behI h.after) h.before h.after h.refused w.ahead w.behind w.code e

theorem Ykl {A : List (Int × List Y94)} {id p : Int} {t : List Y94} (h : p ≠ id) : behI (mset A id t) p = behI A p := by
 unfold behI; rw [Y67, if_neg h]

theorem Ykm {g : Y92} (hr : Ykh g) : ∃ h w, Zf7 g = some h ∧ Z5o g = some w ∧ Both g h w := by
 have hfl := hr.fits.len; obtain ⟨e0, hb⟩ := Yg0 hr.fits; have hol := Yk7 hr.fits
 -- the depths
 obtain ⟨m, hm1, hm2⟩ : ∃ m, iter (fun z : List (Int × Int) × Int => Zf6 g (Yfu g.events, decide (Yg1 (Yfu g.events) = 0)) z.1 z.2) big ([], 0) = some m ∧ ∀ e ∈ g.events, mget m e.id = some (dmR g.events e) := by
  obtain ⟨o, h1, h2⟩ := Yea (τ := List (Int × Int) × Int) (ω := List (Int × Int)) (σ := List (Int × Int)) (step := fun z : List (Int × Int) × Int => Zf6 g (Yfu g.events, decide (Yg1 (Yfu g.events) = 0)) z.1 z.2) (n := g.events.length) (fun s j => (s, j))
   (fun i s => ∀ (j : Nat) (hj : j < g.events.length), j < i → mget s g.events[j].id = some (dmR g.events g.events[j])) (fun o => ∀ (j : Nat) (hj : j < g.events.length), mget o g.events[j].id = some (dmR g.events g.events[j])) (by omega) (by
   intro i s hi hI; have hid : i < (Yfu g.events).length := by rw [hb.len]; exact hi
   refine ⟨mset s g.events[i].id (Yfu g.events)[i], ?_, fun j hj hji => ?_⟩
   ·
    simp only [Zf6]; rw [dlt hi, Wu, Yec hi, Wb, Yec hid, Wb, Yed hi (by omega)]
   ·
    rw [Y67]
    by_cases he : g.events[j].id = g.events[i].id
    ·
     rw [if_pos he]; obtain rfl := hr.fits.up.inj hj hi he; unfold dmR dOf; rw [(hr.fits.up.plc hj).1, Yec hid]; rfl
    ·
     rw [if_neg he]
     exact hI j hj (by
      rcases Nat.lt_or_ge j i with h | h
      ·
       exact h
      ·
       obtain rfl : j = i := by omega
       exact absurd rfl he)) (by
   intro s hI; simp only [Zf6]; rw [dnlt, Wv]
   exact ⟨s, rfl, fun j hj => hI j hj hj⟩) (s := []) (fun j hj h => by omega)
  refine ⟨o, h1, fun e he => ?_⟩; obtain ⟨j, hj, rfl⟩ := List.mem_iff_getElem.1 he; exact h2 j hj
 -- the states
 have hpos : ∀ i, (hi : i < (Yh3 g.events).length) → ∃ k, ∃ hk : k < g.events.length, (Yh3 g.events)[i] = g.events[k].id := fun i hi => by
  obtain ⟨e, he, h1⟩ := List.mem_map.1 ((Yk8 hr.fits).1 (Wm hi)); obtain ⟨k, hk, rfl⟩ := List.mem_iff_getElem.1 he; exact ⟨k, hk, h1.symm⟩
 obtain ⟨⟨B, A, R⟩, ⟨ah, bh, cd⟩, q1, q2, la, lb, lc, hall⟩ := Yk3 (step1 := fun z : List (Int × List Y94) × List (Int × List Y94) × List (Int × Int) × Int => Zf4 g m (Yh3 g.events) z.1 z.2.1 z.2.2.1 z.2.2.2) (step2 := fun z : List (List Y94) × List (List Y94) × List Int × Int => Z5m g (Yfu g.events) (Yh3 g.events) z.1 z.2.1 z.2.2.1 z.2.2.2) (n := g.events.length)
  (fun (s : List (Int × List Y94) × List (Int × List Y94) × List (Int × Int)) j => (s.1, s.2.1, s.2.2, j)) (fun (s : List (List Y94) × List (List Y94) × List Int) j => (s.1, s.2.1, s.2.2, j))
  (fun i s t => t.1.length = g.events.length ∧ t.2.1.length = g.events.length ∧ t.2.2.length = g.events.length ∧ ∀ e ∈ g.events, e.id ∈ (Yh3 g.events).take i → Ykg g (behI s.2.1) s.1 s.2.1 s.2.2 t.1 t.2.1 t.2.2 e)
  (fun (s : List (Int × List Y94) × List (Int × List Y94) × List (Int × Int)) (t : List (List Y94) × List (List Y94) × List Int) => t.1.length = g.events.length ∧ t.2.1.length = g.events.length ∧ t.2.2.length = g.events.length ∧ ∀ e ∈ g.events, Ykg g (behI s.2.1) s.1 s.2.1 s.2.2 t.1 t.2.1 t.2.2 e) (by omega) (by
  rintro i ⟨B, A, R⟩ ⟨ah, bh, cd⟩ hi ⟨la, lb, lc, hI⟩; simp only at la lb lc hI ⊢; have hio : i < (Yh3 g.events).length := by omega
  obtain ⟨k, hk, hid⟩ := hpos i hio; have he : g.events[k] ∈ g.events := Wm hk; have hevat : evAt g.events (Yh3 g.events)[i] = some g.events[k] := by rw [hid]; exact (hr.fits.up.plc hk).2
  have hprev : ∀ p ∈ g.events[k].prev, ∃ f ∈ g.events, f.id = p ∧ p ∈ (Yh3 g.events).take i := fun p hp => by
   obtain ⟨f, hf, hfid⟩ := Yff.1 (hr.fits.whole _ he p hp); exact ⟨f, hf, hfid, Ykb hr.fits hr.deep hio hevat hp⟩
  have hknow : ∀ p ∈ g.events[k].prev, StOk g.events (behI A p) ∧ getI bh (plc g.events p) = some (behI A p) := fun p hp => by
   obtain ⟨f, hf, hfid, ht⟩ := hprev p hp; subst hfid; have hk := hI f hf ht
   have e1 : behI A f.id = Yke g (Yjn g (f.prev.map (behI A))) f := by
    show Option.getD (mget A f.id) [] = _; rw [hk.mA]; rfl
   rw [e1]; exact ⟨Ykf hr.fits.up hk.ok hf, hk.gb⟩
  have hks : Yjo (Y99.mk g m B A R) := hm2; have s1 := Zl7 (h := Y99.mk g m B A R) hr hks he (fun p hp => (hknow p hp).1); have s2 := Zl8 hr (od := Yh3 g.events) (ah := ah) (bh := bh) (cd := cd) (behI A) hio hi hk hid la lb lc hknow; have hm : Mrg g (g.events[k].prev.map (behI A)) := ⟨hr.fits, hr.ev, hr.deep, fun s hs => by obtain ⟨p, hp, rfl⟩ := List.mem_map.1 hs; exact (hknow p hp).1, by have := (hr.ev _ he).prev.1; simp; omega⟩; have hsok := (Yjp (h := Y99.mk g m B A R) hm hks).2.2; simp only at s1 hsok; refine ⟨(mset B g.events[k].id (Yjn g (g.events[k].prev.map (behI A))), mset A g.events[k].id (Yke g (Yjn g (g.events[k].prev.map (behI A))) g.events[k]), mset R g.events[k].id (Ykd g (Yjn g (g.events[k].prev.map (behI A))) g.events[k])), (ah.set k (Yjn g (g.events[k].prev.map (behI A))), bh.set k (Yke g (Yjn g (g.events[k].prev.map (behI A))) g.events[k]), cd.set k (Ykd g (Yjn g (g.events[k].prev.map (behI A))) g.events[k])), ?_, s2, by simp [la], by simp [lb], by simp [lc], ?_⟩
  ·
   simp only [Zf4]; rw [dlt hio, Wu, Yec hio, Wb, c_at _ _ hr.fits.up (by omega), hevat, Wb]; simp only [Option.getD_some]; rw [s1, Wb, Yed hio (by omega)]
  ·
   intro e hem het; have hself : ∀ p ∈ g.events[k].prev, p ≠ g.events[k].id := fun p hp => ((hr.ev _ he).prev.2.1 p hp).2.2; have hpk := (hr.fits.up.plc hk).1
   by_cases hek : e = g.events[k]
   ·
    subst hek; have e1 : g.events[k].prev.map (behI (mset A g.events[k].id (Yke g (Yjn g (g.events[k].prev.map (behI A))) g.events[k]))) = g.events[k].prev.map (behI A) := List.map_congr_left fun p hp => Ykl (hself p hp); refine ⟨?_, ?_, ?_, ?_, ?_, ?_, ?_⟩
    ·
     simp only [e1]; exact hsok
    ·
     simp only [e1]; rw [Y67, if_pos rfl]
    ·
     simp only [e1]; rw [Y67, if_pos rfl]
    ·
     simp only [e1]; rw [Y67, if_pos rfl]
    ·
     simp only [e1]; rw [hpk, Ykj (by omega), if_pos rfl]
    ·
     simp only [e1]; rw [hpk, Ykj (by omega), if_pos rfl]
    ·
     simp only [e1]; rw [hpk, Ykj (by omega), if_pos rfl]
   ·
    have hne : e.id ≠ g.events[k].id := fun h => hek (by
     obtain ⟨j, hj, rfl⟩ := List.mem_iff_getElem.1 hem; obtain rfl := hr.fits.up.inj hj hk h
     rfl)
    have het' : e.id ∈ (Yh3 g.events).take i := by
     rw [List.take_add_one, We hio, hid] at het; rcases List.mem_append.1 het with h | h
     ·
      exact h
     ·
      simp at h; exact absurd h hne
    obtain ⟨j, hj, hji, hje⟩ := Ygi het'
    have hpn : ∀ p ∈ e.prev, p ≠ g.events[k].id := fun p hp hpe => by
     have h1 := Ykb hr.fits hr.deep hj (e := e) (by rw [hje]; exact hr.fits.up.evAt_mem hem) hp; obtain ⟨u, hu, huj, hue⟩ := Ygi h1
     have : u = i := by
      have hnd := Yk9 hr.fits; exact (List.getElem_inj (h₀ := hu) (h₁ := hio) hnd).1 (by rw [hue, hpe, hid])
     omega
    have e1 : e.prev.map (behI (mset A g.events[k].id (Yke g (Yjn g (g.events[k].prev.map (behI A))) g.events[k]))) = e.prev.map (behI A) := List.map_congr_left fun p hp => Ykl (hpn p hp); have hK := hI e hem het'; obtain ⟨ke, hke, hkp, _, _⟩ := Yfc (Yfe hem)
    have hkk : ke ≠ k := fun h => by
     subst h; have := hr.fits.up.plc hke; obtain ⟨j2, hj2, hje2⟩ := List.mem_iff_getElem.1 hem; have h3 := (hr.fits.up.plc hj2).1; rw [hje2, hkp] at h3; have : j2 = ke := by omega
     subst this; exact hek hje2.symm
    refine ⟨?_, ?_, ?_, ?_, ?_, ?_, ?_⟩
    ·
     simp only [e1]; exact hK.ok
    ·
     simp only [e1]; rw [Y67, if_neg hne]; exact hK.mB
    ·
     simp only [e1]; rw [Y67, if_neg hne]; exact hK.mR
    ·
     simp only [e1]; rw [Y67, if_neg hne]; exact hK.mA
    ·
     simp only [e1]; rw [hkp, Ykj (by omega), if_neg hkk, ← hkp]; exact hK.ga
    ·
     simp only [e1]; rw [hkp, Ykj (by omega), if_neg hkk, ← hkp]; exact hK.gc
    ·
     simp only [e1]; rw [hkp, Ykj (by omega), if_neg hkk, ← hkp]; exact hK.gb) (by
  rintro ⟨B, A, R⟩ ⟨ah, bh, cd⟩ ⟨la, lb, lc, hI⟩; simp only at la lb lc hI; refine ⟨(B, A, R), (ah, bh, cd), ?_, ?_, la, lb, lc, fun e he => hI e he ?_⟩
  ·
   simp only [Zf4]; rw [hol, dnlt, Wv]
  ·
   simp only [Z5m]; rw [dnlt, Wv]
  ·
   rw [List.take_of_length_le (by omega)]
   exact (Yk8 hr.fits).2 (List.mem_map.2 ⟨e, he, rfl⟩)) (s := ([], [], [])) (t := (List.replicate g.events.length [], List.replicate g.events.length [], List.replicate g.events.length 0)) ⟨by simp, by simp, by simp, fun e _ h => by simp at h⟩
 simp only at q1 q2 la lb lc hall; refine ⟨Y99.mk g m B A R, Y95.mk (Yfu g.events) ah bh cd, ?_, ?_, rfl, hm2, rfl, la, lb, lc, hall⟩
 ·
  unfold Zf7; rw [Yg7 hr.fits, Wb, hm1, Wb]; simp only [Zf5, Zf3]; rw [Yh7 hr.fits, Wb, q1]; rfl
 ·
  unfold Z5o; rw [e0, Wb, Y4j (Wt ⟨by omega, by omega⟩), Wb, Wb, Y4j (Wt ⟨by omega, by omega⟩), Wb]; simp only [Z5n, Z5f, Int.toNat_natCast]; rw [Yhf hr.fits hr.deep, Wb, q2]; rfl
end Go.Proofs.YtbgichfjcnibpaaGreat
namespace Go.Proofs.YtbgichfjcnibpaaGreat
open Go Go.Abs

def refB (h : Y99) (id : Int) : Bool := decide (Option.getD (mget h.refused id) 0 = 0)

theorem Both.code {g : Y92} {h : Y99} {w : Y95} (hb : Both g h w) {e : Y8z} (he : e ∈ g.events) : ∃ c, getI w.code (plc g.events e.id) = some c ∧ Option.getD (mget h.refused e.id) 0 = c := by
 have hk := hb.all e he; exact ⟨_, hk.gc, by rw [hk.mR]; rfl⟩
theorem Both.behind {g : Y92} {h : Y99} {w : Y95} (hb : Both g h w) (hr : Ykh g) {e : Y8z} (he : e ∈ g.events) : getI w.behind (plc g.events e.id) = some (behI h.after e.id) ∧ StOk g.events (behI h.after e.id) := by
 have hk := hb.all e he
 have e1 : behI h.after e.id = Yke g (Yjn g (e.prev.map (behI h.after))) e := by
  show Option.getD (mget h.after e.id) [] = _; rw [hk.mA]; rfl
 rw [e1]; exact ⟨hk.gb, Ykf hr.fits.up hk.ok he⟩
theorem Both.ahead {g : Y92} {h : Y99} {w : Y95} (hb : Both g h w) {e : Y8z} (he : e ∈ g.events) : getI w.ahead (plc g.events e.id) = some (behI h.before e.id) ∧ StOk g.events (behI h.before e.id) := by
 have hk := hb.all e he
 have e1 : behI h.before e.id = Yjn g (e.prev.map (behI h.after)) := by
  show Option.getD (mget h.before e.id) [] = _; rw [hk.mB]; rfl
 rw [e1]; exact ⟨hk.ga, hk.ok⟩

theorem Ykh.sts {g : Y92} (hr : Ykh g) {s : List Y94} (hs : StOk g.events s) : Sts g s := (Mrg.mk (ls := []) hr.fits hr.ev hr.deep (fun s hs => by cases hs) (by simp)).sts hs

end Go.Proofs.YtbgichfjcnibpaaGreat
namespace Go.Proofs.YtbgichfjcnibpaaGreat
open Go Go.Abs


theorem Ykn (p : List Int) (n : Int) (hp : p.length ≤ maxLen) (h0 : 0 ≤ n) (hn : n ≤ 1048576) : ∃ r, Z1 p n = some r ∧ ((0 ≤ r ∧ r ≤ n ∧ p.length ≤ 1048576) ∨ r = -1) := by
 simp only [maxLen] at hp; unfold Z1; rw [Y4i (by omega) (by omega)]
 by_cases h : n - (p.length : Int) < 0
 ·
  rw [Wt h]; exact ⟨_, rfl, .inr rfl⟩
 ·
  rw [Wf h]; exact ⟨_, rfl, .inl ⟨by omega, by omega, by omega⟩⟩

structure EvIn (e : Y8z) : Prop where
 text : e.text.size ≤ maxLen
 prev : e.prev.length ≤ maxLen

theorem Yko (e : Y8z) (n : Int) (he : EvIn e) (h0 : 0 ≤ n) (hn : n ≤ 1048576) : ∃ r, Z3 e n = some r ∧ ((0 ≤ r ∧ r ≤ n ∧ e.prev.length ≤ 1048576 ∧ e.text.size ≤ 1048576) ∨ r = -1) := by
 have ht := he.text; simp only [maxLen] at ht; unfold Z3; rw [Y4i (by omega) (by omega)]
 by_cases h : n - (e.text.size : Int) < 0
 ·
  rw [Wt h]; exact ⟨_, rfl, .inr rfl⟩
 ·
  rw [Wf h, Wv]; obtain ⟨r, h1, h2⟩ := Ykn e.prev (n - (e.text.size : Int)) he.prev (by omega) (by omega); rw [h1, Wb]; rcases h2 with ⟨h2, h3, h4⟩ | rfl
  ·
   rw [Wf (by omega)]; exact ⟨_, rfl, .inl ⟨h2, by omega, h4, by omega⟩⟩
  ·
   exact ⟨_, rfl, .inr rfl⟩

def Ykp (l : List Y8z) : Prop := l.length ≤ 1048576 ∧ ∀ e ∈ l, e.prev.length ≤ 1048576 ∧ e.text.size ≤ 1048576

theorem Ykq (p : List Y8z) (n : Int) (hl : p.length ≤ maxLen) (hp : ∀ e ∈ p, EvIn e) (h0 : 0 ≤ n) (hn : n ≤ 1048576) : ∃ r, Z7 p n = some r ∧ ((0 ≤ r ∧ r + p.length ≤ n ∧ Ykp p) ∨ r = -1) := by
 simp only [maxLen] at hl; unfold Z7; rw [Y4i (by omega) (by omega)]
 by_cases h : n - (p.length : Int) < 0
 ·
  rw [Wt h]; exact ⟨_, rfl, .inr rfl⟩
 ·
  rw [Wf h, Wv]
  obtain ⟨o, h1, h2⟩ := Yeb (τ := Int × Int) (ω := Int ⊕ Int) (σ := Int) (step := fun z : Int × Int => Z6 p z.1 z.2) (n := p.length) (fun s j => (s, j))
   (fun i s => 0 ≤ s ∧ s + p.length ≤ n ∧ ∀ (j : Nat) (hj : j < p.length), j < i → p[j].prev.length ≤ 1048576 ∧ p[j].text.size ≤ 1048576) (fun o => o = .inl (-1) ∨ ∃ r, o = .inr r ∧ 0 ≤ r ∧ r + p.length ≤ n ∧ Ykp p) (by omega) (by
   rintro i s hi ⟨hs0, hsn, hI⟩; obtain ⟨r, e1, e2⟩ := Yko p[i] s (hp _ (Wm hi)) hs0 (by omega); simp only [Z6]; rw [dlt hi, Wu, Yec hi, Wb, e1, Wb, Yed hi (by omega)]; rcases e2 with ⟨e2, e3, e4⟩ | rfl
   ·
    rw [Wf (by omega), Wv]; refine .inl ⟨r, rfl, e2, by omega, fun j hj hji => ?_⟩; rcases Nat.lt_or_ge j i with h | h
    ·
     exact hI j hj h
    ·
     obtain rfl : j = i := by omega
     exact e4
   ·
    exact .inr ⟨_, rfl, .inl rfl⟩) (by
   rintro s ⟨hs0, hsn, hI⟩; simp only [Z6]; rw [dnlt, Wv]; refine ⟨_, rfl, .inr ⟨s, rfl, hs0, hsn, by omega, fun e he => ?_⟩⟩; obtain ⟨j, hj, rfl⟩ := List.mem_iff_getElem.1 he
   exact hI j hj hj) (s := n - (p.length : Int)) ⟨by omega, by omega, fun j hj h => by omega⟩
  rw [h1, Wb]; rcases h2 with rfl | ⟨r, rfl, h3⟩
  ·
   exact ⟨_, rfl, .inr rfl⟩
  ·
   exact ⟨_, rfl, .inl h3⟩

structure GIn (g : Y90) : Prop where
 el : g.events.length ≤ maxLen
 pl : g.parked.length ≤ maxLen
 ev : ∀ e ∈ g.events, EvIn e
 pv : ∀ e ∈ g.parked, EvIn e

theorem Ykr (g : Y90) (n : Int) (hg : GIn g) (h0 : 0 ≤ n) (hn : n ≤ 1048576) : ∃ r, Z9 g n = some r ∧ ((0 ≤ r ∧ r + (g.events.length + g.parked.length : Nat) ≤ n ∧ Ykp g.events ∧ Ykp g.parked) ∨ r = -1) := by
 unfold Z9; obtain ⟨r, h1, h2⟩ := Ykq g.events n hg.el hg.ev h0 hn; rw [h1, Wb]; rcases h2 with ⟨h2, h3, h4⟩ | rfl
 ·
  rw [Wf (by omega), Wv]; obtain ⟨r', h5, h6⟩ := Ykq g.parked r hg.pl hg.pv h2 (by omega); rw [h5, Wb]; rcases h6 with ⟨h6, h7, h8⟩ | rfl
  ·
   rw [Wf (by omega)]; exact ⟨_, rfl, .inl ⟨h6, by omega, h4, h8⟩⟩
  ·
   exact ⟨_, rfl, .inr rfl⟩
 ·
  exact ⟨_, rfl, .inr rfl⟩


theorem Yks {α β : Type} {xs : List α} {z : β} (f : α → β) {step : List β × Int → Option ((List β × Int) ⊕ List β)} (hl : xs.length < 9223372036854775807)
  (h1 : ∀ (i : Nat) (s : List β) (hi : i < xs.length), s.length = xs.length → step (s, (i : Int)) = some (.inl (s.set i (f xs[i]), ((i + 1 : Nat) : Int)))) (h2 : ∀ s : List β, step (s, (xs.length : Int)) = some (.inr s)) :
  iter step big (List.replicate xs.length z, 0) = some (xs.map f) := by
 obtain ⟨o, e1, rfl⟩ := Yea (τ := List β × Int) (ω := List β) (σ := List β) (step := step) (n := xs.length) (fun s j => (s, j)) (fun i s => s = (xs.take i).map f ++ List.replicate (xs.length - i) z) (fun o => o = xs.map f) hl (by
  rintro i s hi rfl; refine ⟨_, h1 i _ hi (by simp; omega), ?_⟩
  have e0 : List.replicate (xs.length - i) z = z :: List.replicate (xs.length - (i + 1)) z := by
   rw [show xs.length - i = (xs.length - (i + 1)) + 1 by omega, List.replicate_succ]
  have e1 : xs.take (i + 1) = xs.take i ++ [xs[i]] := by rw [List.take_add_one, We hi]; rfl
  rw [e0, Yg9 (X := (xs.take i).map f) (u := z) (Y := List.replicate (xs.length - (i + 1)) z) rfl (by simp; omega), e1, List.map_append, List.append_assoc]
  rfl) (by
  rintro s rfl
  exact ⟨_, h2 _, by simp⟩) (s := List.replicate xs.length z) (by simp)
 exact e1

theorem Ykt (p : List Int) (hp : p.length ≤ 1048576) : Zl p = some p := by
 unfold Zl; rw [Y4j (Wt ⟨by omega, by omega⟩), Wb, Int.toNat_natCast]
 rw [Yks (xs := p) (fun x => x) (by omega) (fun i s hi hs => by
  simp only [Zk]
  rw [dlt hi, Wu, Yec hi, Wb, Yec (by omega : i < s.length), Wb, Yed hi (by omega), Int.toNat_natCast]) (fun s => by simp only [Zk]; rw [dnlt, Wv])]
 simp [Zj]

theorem Yku (e : Y8z) (hp : e.prev.length ≤ 1048576) : Zn e = some e := by
 unfold Zn; rw [Ykt _ hp]; rfl

theorem Ykv (p : List Y8z) (hp : Ykp p) : Zr p = some p := by
 have hl := hp.1; unfold Zr; rw [Y4j (Wt ⟨by omega, by omega⟩), Wb, Int.toNat_natCast]
 rw [Yks (xs := p) (fun x => x) (by omega) (fun i s hi hs => by
  simp only [Zq]
  rw [dlt hi, Wu, Yec hi, Wb, Yku _ (hp.2 _ (Wm hi)).1, Wb, Yec (by omega : i < s.length), Wb, Yed hi (by omega), Int.toNat_natCast]) (fun s => by simp only [Zq]; rw [dnlt, Wv])]
 simp [Zp]

def toG (g : Y90) : Y92 := Y92.mk g.room g.events g.parked
theorem Ykw (g : Y90) (he : Ykp g.events) (hp : Ykp g.parked) : Zt g = some (toG g) := by
 unfold Zt; rw [Ykv _ he, Wb, Ykv _ hp]; rfl

theorem Ykx {g : Y90} (he : Ykp g.events) (hp : Ykp g.parked) : Fine (toG g) := ⟨he.1, hp.1, fun e h => (he.2 e h).1, fun e h => (hp.2 e h).1⟩


theorem Yky (p : List Int) (hp : p.length ≤ 1048576) : Ziw p p = some true := by
 unfold Ziw; rw [bned, Wt rfl]; simp only [Bool.not_true, Wv]
 rw [Yes (l := p) (fun _ => true) (.inl false) (.inr ()) (by omega) (fun i hi => by
  simp only [Ziv]
  rw [dlt hi, Wu, Yec hi, Wb, Wb, bned, Wt rfl, Yed hi (by omega)]; rfl) (by simp only [Ziv]; rw [dnlt, Wv])]
 rw [show (p.all fun _ => true) = true by simp]; rfl

theorem Ykz (e : Y8z) (hp : e.prev.length ≤ 1048576) : Ziy e e = some true := by
 unfold Ziy; rw [Yky _ hp]; simp

theorem Yl0 (p : List Y8z) (hp : Ykp p) : Zja p p = some true := by
 have hl := hp.1; unfold Zja; rw [bned, Wt rfl]; simp only [Bool.not_true, Wv]
 rw [Yes (l := p) (fun _ => true) (.inl false) (.inr ()) (by omega) (fun i hi => by
  simp only [Zj9]
  rw [dlt hi, Wu, Yec hi, Wb, Wb, Ykz _ (hp.2 _ (Wm hi)).1, Wb, Yed hi (by omega)]; rfl) (by simp only [Zj9]; rw [dnlt, Wv])]
 rw [show (p.all fun _ => true) = true by simp]; rfl

theorem Yl1 (g : Y92) (he : Ykp g.events) (hp : Ykp g.parked) : Zjc g g = some true := by
 unfold Zjc; rw [Yl0 _ he, Yl0 _ hp]; simp


def Yl2 (n : Int) : Nat → List Int
 | 0 => []
 | k + 1 => n :: Yl2 (n + 1) k
theorem Yl3 : ∀ (k : Nat) (n : Int), (Yl2 n k).length = k
 | 0, _ => rfl
 | k + 1, n => by simp [Yl2, Yl3 k]
theorem Yl4 : ∀ (k : Nat) (n : Int) (i : Nat) (hi : i < (Yl2 n k).length), (Yl2 n k)[i] = n + i
 | 0, _, i, hi => by simp [Yl2] at hi
 | k + 1, n, 0, hi => by simp [Yl2]
 | k + 1, n, i + 1, hi => by
  simp only [Yl2, List.getElem_cons_succ]; rw [Yl4 k]; omega
theorem Yl5 : ∀ (k : Nat) (n : Int), Yl2 n (k + 1) = Yl2 n k ++ [n + k]
 | 0, n => by simp [Yl2]
 | k + 1, n => by
  rw [Yl2, Yl5 k (n + 1)]; simp [Yl2]; omega

theorem Yl6 (p : List Int) (n : Int) (hp : p.length ≤ 1048576) (h0 : 0 ≤ n) (hn : n ≤ 1000000000000000) : Zjw p n = some (n + p.length, Yl2 n p.length) := by
 unfold Zjw
 obtain ⟨o, e1, rfl⟩ := Yea (τ := List Int × Int × Int) (ω := Int × List Int) (σ := List Int × Int) (step := fun z : List Int × Int × Int => Zjv z.1 z.2.1 z.2.2) (n := p.length) (fun s j => (s.1, s.2, j)) (fun i s => s = (Yl2 n i ++ p.drop i, n + i)) (fun o => o = (n + p.length, Yl2 n p.length)) (by omega) (by
  rintro i s hi rfl; have e0 : p.drop i = p[i] :: p.drop (i + 1) := List.drop_eq_getElem_cons hi; generalize hR : p.drop (i + 1) = R at e0; generalize p[i] = u at e0; refine ⟨(Yl2 n (i + 1) ++ R, n + i + 1), ?_, by simp; omega⟩; have hlen : (Yl2 n i ++ p.drop i).length = p.length := by rw [List.length_append, Yl3, List.length_drop]; omega
  simp only [Zjv]; rw [hlen, dlt hi, Wu, e0, Yg8 (X := Yl2 n i) (u := u) (Y := R) rfl (Yl3 i n).symm, Wb, Int.toNat_natCast, Yg9 (X := Yl2 n i) (u := u) (Y := R) rfl (Yl3 i n).symm, Yed hi (by omega), Y4i (by omega) (by omega), Yl5]
  simp) (by
  rintro s rfl; simp only [Zjv]; rw [show (Yl2 n p.length ++ p.drop p.length).length = p.length by simp [Yl3], dnlt, Wv]
  exact ⟨_, rfl, by simp⟩) (s := (p, n)) (by simp [Yl2])
 rw [e1, Wb]; rfl

theorem Yl7 (k : Nat) (n : Int) (hk : k ≤ 1048576) (h0 : 0 ≤ n) (hn : n ≤ 1000000000000000) : Zkk (Yl2 n k) n = some (n + k) := by
 unfold Zkk
 obtain ⟨o, e1, rfl⟩ := Yea (τ := Int × Int) (ω := Int ⊕ Int) (σ := Int) (step := fun z : Int × Int => Zkj (Yl2 n k) z.1 z.2) (n := k) (fun s j => (s, j)) (fun i s => s = n + i) (fun o => o = .inr (n + k)) (by omega) (by
  rintro i s hi rfl; refine ⟨n + i + 1, ?_, by omega⟩; simp only [Zkj, Yl3]; have hi' : i < (Yl2 n k).length := by rw [Yl3]; exact hi
  rw [dlt hi, Wu, Yec hi', Wb, Yl4, bned, Wt rfl, Yed hi (by omega), Y4i (by omega) (by omega)]; rfl) (by
  rintro s rfl; simp only [Zkj, Yl3]; rw [dnlt, Wv]
  exact ⟨_, rfl, rfl⟩) (s := n) (by simp)
 rw [e1, Wb]; rfl

theorem Yl8 (n : Int) (h0 : 0 ≤ n) (hn : n ≤ 1000000000000000) : ∃ t, Zjs n = some t := by
 unfold Zjs
 by_cases h : n ≤ 0
 ·
  rw [Wt h]; exact ⟨_, rfl⟩
 ·
  rw [Wf h, Wv]
  obtain ⟨o, e1, e2⟩ := Y4l (step := fun z : Int × ByteArray => Zjr z.1 z.2) (p := fun o : ByteArray => (o.size : Int) ≤ 1000000000000000) (fun m (z : Int × ByteArray) => 0 ≤ z.1 ∧ z.1 + z.2.size ≤ 1000000000000000 ∧ m = z.1.toNat) (by
   rintro m ⟨x, t⟩ ⟨hx, hs, rfl⟩; simp only at hx hs; simp only [Zjr]
   by_cases hp : x > 0
   ·
    right; have hsz : ∀ k : Int, (Y6w [k]).size = 1 := fun k => rfl
    have hd : 0 ≤ Int.tdiv x 10 ∧ Int.tdiv x 10 < x := by
     rw [Int.tdiv_eq_ediv_of_nonneg hx]; omega
    rw [Wt hp, Wu, Y4j (Wt (by rw [hsz]; omega)), Wb, Y4i (n := Int.tdiv x 10) (by omega) (by omega)]; refine ⟨_, (Int.tdiv x 10).toNat, rfl, by omega, hd.1, ?_, rfl⟩; simp only [ByteArray.size_append, hsz]; omega
   ·
    left; rw [Wf hp, Wv]
    exact ⟨_, rfl, by omega⟩) big n.toNat (n, ByteArray.empty) ⟨h0, by simp; omega, rfl⟩ (Ye7 (by omega))
  rw [e1, Wb]; unfold Zjq; rw [Y4j (Wt (by show 1 + o.size ≤ _; omega))]; exact ⟨_, rfl⟩

theorem Yl9 {α : Type} {l : List α} {k : Nat} {v : α} (hk : k < l.length) : getI (l.set k v) (k : Int) = some v := by rw [Ykj hk, if_pos rfl]

theorem Yla (p : List Y8z) (n : Int) (hp : Ykp p) (h0 : 0 ≤ n) (hn : n ≤ 100000000000000) : ∃ r, Zk0 p n = some r ∧ 0 ≤ r.1 ∧ r.1 ≤ n + p.length * 2000000 := by
 have hl := hp.1; unfold Zk0
 obtain ⟨o, e1, e2⟩ := Yea (τ := List Y8z × Int × Int) (ω := Int × List Y8z) (σ := List Y8z × Int) (step := fun z : List Y8z × Int × Int => Zjz z.1 z.2.1 z.2.2) (n := p.length) (fun s j => (s.1, s.2, j)) (fun i s => s.1.length = p.length ∧ (∀ e ∈ s.1, e.prev.length ≤ 1048576) ∧ 0 ≤ s.2 ∧ s.2 ≤ n + i * 2000000) (fun o => 0 ≤ o.1 ∧ o.1 ≤ n + p.length * 2000000) (by omega) (by
  rintro i ⟨l, k⟩ hi ⟨hll, hpl, hk0, hk⟩; simp only at hll hpl hk0 hk; have hil : i < l.length := by omega
  have w : ∀ x : Int, 0 ≤ x → x ≤ 1000000000000000 → IntKind.i64.wrap (x + 1) = x + 1 := fun x h1 h2 => Y4i (by omega) (by omega); obtain ⟨t, ht⟩ := Yl8 (k + 1 + 1 + 1 + 1 + 1 + 1) (by omega) (by omega); have hmk := Yl6 l[i].prev (k + 1 + 1 + 1 + 1 + 1 + 1 + 1) (hpl _ (Wm hil)) (by omega) (by omega); have hpi := hpl _ (Wm hil); have hw := Yed hi (by omega : p.length < 9223372036854775807); simp only [Zjz]; rw [w k hk0 (by omega), w (k + 1) (by omega) (by omega), w (k + 1 + 1) (by omega) (by omega), w (k + 1 + 1 + 1) (by omega) (by omega), w (k + 1 + 1 + 1 + 1) (by omega) (by omega), w (k + 1 + 1 + 1 + 1 + 1) (by omega) (by omega), w (k + 1 + 1 + 1 + 1 + 1 + 1) (by omega) (by omega)]; rw [Wt (by omega : (i : Int) < (l.length : Int)), Wu, Yec hil, Wb]; simp only [Int.toNat_natCast, Yl9, List.length_set, hil, Wb, ht, List.set_set, hmk, hw]; rw [w _ (by omega) (by omega)]; refine ⟨(_, _), rfl, by simp [hll], fun e he => ?_, by simp only; omega, by simp only; omega⟩; simp only at he; rcases List.mem_or_eq_of_mem_set he with h | h
  ·
   exact hpl e h
  ·
   subst h; simp only [Yl3]; exact hpi) (by
  rintro ⟨l, k⟩ ⟨hll, _, hk0, hk⟩; simp only at hll hk0 hk; simp only [Zjz]; rw [hll, dnlt, Wv]
  exact ⟨_, rfl, hk0, hk⟩) (s := (p, n)) ⟨rfl, fun e he => (hp.2 e he).1, h0, by simp⟩
 rw [e1, Wb]; exact ⟨_, rfl, e2⟩

end Go.Proofs.YtbgichfjcnibpaaGreat
namespace Go.Proofs.YtbgichfjcnibpaaGreat
open Go Go.Abs


def accT (l : List Y8z) (T : Int → Bool) : List Int := (l.map (·.id)).filter T
def endT (l : List Y8z) (T : Int → Bool) (x : Int) : Bool := (accT l T).all fun id => !decide (x ∈ (evD l id).prev)
def endsT (l : List Y8z) (T : Int → Bool) : List Int := (accT l T).filter (endT l T)

theorem Ylb {l : List Y8z} (h : Up2 l) : UpI (l.map (·.id)) := by
 show (l.map (·.id)).Pairwise (· < ·); rw [List.pairwise_map]; exact h

theorem Ylc {h : Y99} (hr : Ykh h.graph) : Zfc h = some (accT h.graph.events (refB h)) := by
 have hfl := hr.fits.len; unfold Zfc
 have := Yet (l := h.graph.events) (step := fun z : List Int × Int => Zfb h z.1 z.2) (fun q j => (q, j)) (fun q => q) (fun q e => if refB h e.id = true then q ++ [e.id] else q) (fun i q => q.length ≤ i) (by omega) (fun i q hi hq => by
  refine ⟨?_, by split <;> first | omega | (rw [List.length_append, List.length_singleton]; omega)⟩; simp only [Zfb, Zfa]; rw [dlt hi, Wu, Yec hi, Wb, Yed hi (by omega), chk8 (by simp; omega), beqd]; unfold refB
  by_cases hc : Option.getD (mget h.refused h.graph.events[i].id) 0 = 0
  ·
   rw [Wt hc]; rfl
  ·
   rw [Wf hc]; rfl)
  (fun q _ => by simp only [Zfb]; rw [dnlt, Wv]) (s := []) (by simp)
 rw [this.1, Wb]
 have key : ∀ (l : List Y8z) (q : List Int), l.foldl (fun q e => if refB h e.id = true then q ++ [e.id] else q) q = q ++ (l.map (·.id)).filter (refB h) := by
  intro l
  induction l with
  | nil => intro q; simp
  | cons e l ih =>
   intro q; rw [List.foldl_cons, ih]
   cases hc : refB h e.id with
   | true => rw [if_pos rfl, List.map_cons, List.filter_cons_of_pos hc]; simp
   | false => rw [if_neg (by simp), List.map_cons, List.filter_cons_of_neg (by simp [hc])]
 rw [key]; rfl

theorem Yld {l : List Int} (hl : UpI l) (hn : l.length < 1000000) : Zgg l = some l := by
 unfold Zgg
 by_cases h2 : (l.length : Int) < 2
 ·
  rw [Wt h2]; rfl
 ·
  rw [Wf h2, Wv, Y4m (o := .inr ()) (fun m (x : Int) => ∃ i : Nat, x = i ∧ 1 ≤ i ∧ i ≤ l.length ∧ m = l.length - i) ?_ (m := l.length - 1) (x := 1) ⟨1, rfl, by omega, by omega, rfl⟩ (Ye7 (by omega))]
  ·
   rfl
  ·
   rintro m x ⟨i, rfl, h1, hi, rfl⟩; simp only [Zgf]
   by_cases hil : i < l.length
   ·
    right; have hm : i - 1 < l.length := by omega
    have := List.pairwise_iff_getElem.1 hl (i - 1) i hm hil (by omega); rw [dlt hil, Wu, Yec hil, Wb, Yee (by omega) (by omega), Yec hm, Wb, beqd, Wf (by omega), Wv, Yed hil (by omega)]; exact ⟨_, l.length - (i + 1), rfl, by omega, i + 1, rfl, by omega, by omega, rfl⟩
   ·
    left; obtain rfl : i = l.length := by omega
    rw [dnlt, Wv]

theorem Zl9 {l ids : List Int} (hl : UpI l) (hn : ids.Nodup) (hm : ∀ x, x ∈ ids ↔ x ∈ l) : List.mergeSort ids (fun x y => decide (x ≤ y)) = l := by
 have hp : ids.Perm l := (List.perm_ext_iff_of_nodup hn (hl.imp fun {a b} h => by omega)).2 hm; exact List.Perm.eq_of_pairwise (le := fun a b => decide (a ≤ b) = true) (fun a b _ _ h1 h2 => by simp at h1 h2; omega) (List.pairwise_mergeSort (fun a b c h1 h2 => by simp at h1 h2 ⊢; omega) (fun a b => by simp; omega) ids) (hl.imp fun {a b} h => by simp; omega) ((List.mergeSort_perm ids _).trans hp)

theorem Yle {l ids : List Int} (hl : UpI l) (hn : ids.Nodup) (hm : ∀ x, x ∈ ids ↔ x ∈ l) (hlen : l.length < 1000000) : Zgi ids = some l := by
 have hpl : ids.length = l.length := ((List.perm_ext_iff_of_nodup hn (hl.imp fun {a b} h => by omega)).2 hm).length_eq; unfold Zgi; rw [Y4j (Wt (by omega)), Wb, Zl9 hl hn hm, Yld hl hlen]; rfl

theorem Ylf (e : Y8z) (l : List Int) (hl : l.length < 1000000) (he : e.prev.length < 1000000) : Zgt l e = some (l.filter fun x => !decide (x ∈ e.prev)) := by
 have hc : ∀ x, Zgk x e = some (decide (x ∈ e.prev)) := fun x => by unfold Zgk; rw [Yey _ _ (by omega)]; rfl
 unfold Zgt Zgo
 rw [Yev (Yeq (l := l) (step := Zgn l e) (fun x => decide (x ∈ e.prev)) (by omega) (fun i hi => by
  simp only [Zgn]; rw [dlt hi, Wu, Yec hi, Wb, hc, Wb, Yed hi (by omega)]
  cases decide (l[i] ∈ e.prev) <;> rfl) (by simp only [Zgn]; rw [dnlt, Wv])) (fun _ => rfl) rfl, Wb]
 unfold idxP
 cases hf : l.findIdx? (fun x => decide (x ∈ e.prev)) with
 | none =>
  rw [List.findIdx?_eq_none_iff] at hf; rw [beqd, Wt rfl, Wu]
  exact congrArg some (List.filter_eq_self.2 fun x hx => by simp [hf x hx]).symm
 | some k =>
  obtain ⟨hk, hkp, hkn⟩ := List.findIdx?_eq_some_iff_getElem.1 hf; simp only; rw [beqd, Wf (by omega), Wv, Yed hk (by omega)]
  -- the rest
  have hpre : (l.take k).filter (fun x => !decide (x ∈ e.prev)) = l.take k := List.filter_eq_self.2 fun x hx => by
   obtain ⟨j, hj, hjk, rfl⟩ := Ygi hx; have := hkn j hjk; simpa using this
  obtain ⟨⟨o1, o2⟩, e1, w, hw1, hw2, hw3, hw4⟩ := Y4l (step := fun z : List Int × Int × Int => Zgs e z.1 z.2.1 z.2.2) (p := fun o : List Int × Int => ∃ w : Nat, o.2 = (w : Int) ∧ w ≤ l.length ∧ o.1.length = l.length ∧ o.1.take w = l.filter fun x => !decide (x ∈ e.prev))
   (fun m (z : List Int × Int × Int) => ∃ (w i : Nat), z.2.1 = (w : Int) ∧ z.2.2 = (i : Int) ∧ w < i ∧ i ≤ l.length ∧ z.1.length = l.length ∧ z.1.take w = (l.take i).filter (fun x => !decide (x ∈ e.prev)) ∧ z.1.drop i = l.drop i ∧ m = l.length - i) (by
   rintro m ⟨q, x, y⟩ ⟨w, i, hx, hy, hwi, hi, hq, ht, hd, rfl⟩; simp only at hx hy hq ht hd; subst hx hy; simp only [Zgs, Zgr]
   by_cases hil : i < l.length
   ·
    right; have hiq : i < q.length := by omega
    have hwq : w < q.length := by omega
    have hqi : q[i] = l[i] := by
     have h1 : (q.drop i)[0]? = (l.drop i)[0]? := by rw [hd]
     simpa [hiq, hil] using h1
    have etk : l.take (i + 1) = l.take i ++ [l[i]] := by rw [List.take_add_one, We hil]; rfl
    rw [dlt hiq, Wu, Yec hiq, Wb, hc, Wb, hqi, Yec hwq, Yed hiq (by omega)]
    have hd' : ∀ v : Int, (q.set w v).drop (i + 1) = l.drop (i + 1) := fun v => by
     rw [List.drop_set_of_lt (by omega)]; have := congrArg (List.drop 1) hd; rwa [List.drop_drop, List.drop_drop] at this
    by_cases hp : l[i] ∈ e.prev
    ·
     rw [Wt hp, Wu]; refine ⟨_, l.length - (i + 1), rfl, by omega, w, i + 1, rfl, rfl, by omega, by omega, hq, ?_, ?_, rfl⟩
     ·
      rw [etk, List.filter_append, List.filter_cons_of_neg (by simp [hp]), List.filter_nil, List.append_nil]; exact ht
     ·
      have := congrArg (List.drop 1) hd; rwa [List.drop_drop, List.drop_drop] at this
    ·
     rw [Wf hp, Wv, Wb, Int.toNat_natCast, Yed hwq (by omega)]; refine ⟨_, l.length - (i + 1), rfl, by omega, w + 1, i + 1, rfl, rfl, by omega, by omega, by simp [hq], ?_, hd' _, rfl⟩; simp only; rw [etk, List.filter_append, List.filter_cons_of_pos (by simp [hp]), List.filter_nil, ← ht, List.take_add_one, List.getElem?_set_self hwq]; rw [List.take_set_of_le (Nat.le_refl _)]; rfl
   ·
    left; obtain rfl : i = l.length := by omega
    rw [Wf (by omega), Wv]; refine ⟨_, rfl, w, rfl, by omega, hq, ?_⟩; rw [List.take_length] at ht
    exact ht) big (l.length - (k + 1)) (l, (k : Int), ((k + 1 : Nat) : Int)) ⟨k, k + 1, rfl, rfl, by omega, by omega, rfl, by
    rw [List.take_add_one, We hk, List.filter_append, hpre]; simp at hkp
    simp [hkp], rfl, rfl⟩ (Ye7 (by omega))
  rw [e1, Wb]; simp only at hw1 hw2 hw3 hw4; subst hw1; simp only [Zgq, Int.toNat_natCast]; rw [Y4j (Wt (by omega)), Wb, Y4j (Wt (by omega)), Wb, Y4j (Wt (by simp; omega)), Wb]; congr 1; rw [← hw4, List.take_append_of_le_length (by simp; omega), List.take_take, Nat.min_self]

theorem Ylg {l : List Y8z} (hf : Fits l) (T : Int → Bool) : UpI (accT l T) := (Ylb hf.up).filter _
theorem Ylh {l : List Y8z} (hf : Fits l) (T : Int → Bool) : (accT l T).length ≤ 60 := by
 have := List.length_filter_le T (l.map (·.id)); rw [List.length_map] at this; have := hf.len; unfold accT; omega
theorem Yli {l : List Y8z} {T : Int → Bool} {id : Int} (hi : id ∈ endsT l T) : id ∈ l.map (·.id) := (List.mem_filter.1 (List.mem_filter.1 hi).1).1
theorem Ylj {l : List Y8z} (hf : Fits l) (T : Int → Bool) : (endsT l T).length ≤ 60 := Nat.le_trans (List.length_filter_le _ _) (Ylh hf T)

theorem Ylk {h : Y99} (hr : Ykh h.graph) {ids : List Int} {T : Int → Bool} (hn : ids.Nodup) (hm : ∀ x, x ∈ ids ↔ x ∈ accT h.graph.events T) : Zgx h ids = some (endsT h.graph.events T) := by
 have hfl := hr.fits.len; have hup := Ylg hr.fits T; have hal := Ylh hr.fits T; have hil : ids.length = (accT h.graph.events T).length := ((List.perm_ext_iff_of_nodup hn (hup.imp fun {a b} h => by omega)).2 hm).length_eq; unfold Zgx; have hcl : Zer ids = some ids := by unfold Zer; rw [chk8 (by omega)]; rfl
 rw [hcl, Wb, Yle hup hn hm (by omega), Wb]
 have := Yet (l := ids) (step := fun z : List Int × Int => Zgw h ids z.1 z.2) (fun q j => (q, j)) (fun q => q) (fun q id => q.filter fun x => !decide (x ∈ (evD h.graph.events id).prev)) (fun _ q => q.length ≤ 60) (by omega) (fun i q hi hq => by
  refine ⟨?_, Nat.le_trans (List.length_filter_le _ _) hq⟩; have hmi : ids[i] ∈ h.graph.events.map (·.id) := (List.mem_filter.1 ((hm _).1 (Wm hi))).1; have hp := (hr.walk.prev hmi).1; simp only [Zgw]; rw [dlt hi, Wu, Yec hi, Wb, c_at _ _ hr.fits.up (by omega), Wb]; show (Zgt q (evD h.graph.events ids[i])).bind _ = _
  rw [Ylf _ _ (by omega) (by omega), Wb, Yed hi (by omega)])
  (fun q _ => by simp only [Zgw]; rw [dnlt, Wv]) (s := accT h.graph.events T) hal
 rw [this.1, Wb]; simp only [Zgv]; congr 1
 have key : ∀ (r q : List Int), r.foldl (fun q id => q.filter fun x => !decide (x ∈ (evD h.graph.events id).prev)) q = q.filter fun x => r.all fun id => !decide (x ∈ (evD h.graph.events id).prev) := by
  intro r
  induction r with
  | nil => intro q; exact (List.filter_eq_self.2 fun x _ => rfl).symm
  | cons id r ih =>
   intro q; rw [List.foldl_cons, ih, List.filter_filter]; congr 1
   funext x
   simp [Bool.and_comm]
 rw [key]; unfold endsT; congr 1
 funext x
 unfold endT; rw [Bool.eq_iff_iff, List.all_eq_true, List.all_eq_true]; exact ⟨fun h id hid => h id ((hm id).2 hid), fun h id hid => h id ((hm id).1 hid)⟩

def Yll (l : List Y8z) (T : Int → Bool) : List Bool := l.map fun e => T e.id

theorem Ylm {g : Y92} {h : Y99} {w : Y95} (hb : Both g h w) (hr : Ykh g) : w.code.map (fun c => decide (c = 0)) = Yll h.graph.events (refB h) := by
 unfold Yll; rw [hb.graph]; refine List.ext_getElem (by simp [hb.lc]) fun i h1 h2 => ?_; simp only [List.length_map] at h1 h2; simp only [List.getElem_map]; obtain ⟨c, k1, k2⟩ := hb.code (Wm h2); rw [(hr.fits.up.plc h2).1, Yec h1] at k1; cases k1; unfold refB; rw [k2]

theorem Yln {w : Y95} {step : List Bool × Int → Option ((List Bool × Int) ⊕ List Bool)} (hl : w.code.length < 1000000)
  (h1 : ∀ (l : List Bool) (i : Nat), step (l, (i : Int)) = cond (decide ((i : Int) < (l.length : Int))) ((getI w.code (i : Int)).bind fun e12 => (getI l (i : Int)).bind fun e14 => some (.inl ((List.set l (Int.toNat (i : Int)) (e12 == 0)), (IntKind.i64.wrap ((i : Int) + 1))))) (some (.inr l))) :
  iter step big (List.replicate w.code.length false, 0) = some (w.code.map fun c => decide (c = 0)) := by
 obtain ⟨o, e1, rfl⟩ := Yea (τ := List Bool × Int) (ω := List Bool) (σ := List Bool) (step := step) (n := w.code.length) (fun s j => (s, j)) (fun i s => s = (w.code.take i).map (fun c => decide (c = 0)) ++ List.replicate (w.code.length - i) false) (fun o => o = w.code.map fun c => decide (c = 0)) (by omega) (by
  rintro i s hi rfl
  have e0 : List.replicate (w.code.length - i) false = false :: List.replicate (w.code.length - (i + 1)) false := by
   rw [show w.code.length - i = (w.code.length - (i + 1)) + 1 by omega, List.replicate_succ]
  have etk : w.code.take (i + 1) = w.code.take i ++ [w.code[i]] := by rw [List.take_add_one, We hi]; rfl
  refine ⟨_, ?_, rfl⟩; rw [h1, Wt (by simp; omega), Wu, Yec hi, Wb, e0, Yg8 (X := (w.code.take i).map fun c => decide (c = 0)) rfl (by simp; omega), Wb, Int.toNat_natCast, Yg9 (X := (w.code.take i).map fun c => decide (c = 0)) rfl (by simp; omega), Yed hi (by omega), etk, beqd, List.map_append, List.append_assoc]
  rfl) (by
  rintro s rfl; refine ⟨_, ?_, rfl⟩; rw [h1, Wf (by simp), Wv]
  simp) (s := List.replicate w.code.length false) (by simp)
 exact e1

theorem Ylo {α β : Type} (f : α → β) {l : List α} {i : Nat} (hi : i < l.length) : getI (l.map f) (i : Int) = some (f l[i]) := by
 rw [Yec (by simpa using hi)]; simp

theorem Ylp {g : Y92} (hr : Ykh g) (T : Int → Bool) : Z5z g (Yll g.events T) = some (endsT g.events T) := by
 have hfl := hr.fits.len; unfold Z5z
 -- whether one stands behind an event
 have inner1 : ∀ (i k : Nat) (hi : i < g.events.length) (hk : k < g.events.length) (b : Bool), iter (fun z : Bool × Int => Z5w g (Yll g.events T) (i : Int) (k : Int) z.1 z.2) big (b, 0) = some (b && (!T g.events[k].id || !decide (g.events[i].id ∈ g.events[k].prev))) := by
  intro i k hi hk b; have hpl := hr.fits.plen _ (Wm hk); have ht : getI (Yll g.events T) (k : Int) = some (T g.events[k].id) := Ylo _ hk
  cases hrk : T g.events[k].id with
  | false =>
   rw [Y4m (o := b) (fun m (z : Bool × Int) => z = (b, 0)) ?_ (m := 0) rfl (Ye7 (by omega))]
   ·
    simp
   ·
    rintro m z rfl; left; simp only [Z5w, Z5v]
    rw [ht, Wb, hrk]; rfl
  | true =>
   have := Yet (l := g.events[k].prev) (step := fun z : Bool × Int => Z5w g (Yll g.events T) (i : Int) (k : Int) z.1 z.2) (fun q j => (q, j)) (fun q => q) (fun q p => q && !decide (p = g.events[i].id)) (fun _ _ => True) hpl (fun j q hj _ => by
    refine ⟨?_, trivial⟩; simp only [Z5w, Z5v, Z5u]; rw [ht, Wb, hrk, Wu, Yec hk, Wb, dlt hj, Wu, Yec hi, Yed hj hpl]
    cases q with
    | false => rfl
    | true =>
     simp only [Wu, Wb]
     rw [Yec hj, Wb, bned]; rfl)
    (fun q _ => by
     simp only [Z5w, Z5v]
     rw [ht, Wb, hrk, Wu, Yec hk, Wb, dnlt, Wv]) (s := b) trivial
   rw [this.1]; congr 1
   have key : ∀ (ps : List Int) (q : Bool), ps.foldl (fun q p => q && !decide (p = g.events[i].id)) q = (q && !decide (g.events[i].id ∈ ps)) := by
    intro ps
    induction ps with
    | nil => intro q; simp
    | cons p ps ih =>
     intro q; rw [List.foldl_cons, ih]
     by_cases hp : p = g.events[i].id
     ·
      simp [hp]
     ·
      simp [hp, show ¬ g.events[i].id = p from fun h => hp h.symm]
   rw [key]; simp
 have inner2 : ∀ (i : Nat) (hi : i < g.events.length) (b : Bool), iter (fun z : Bool × Int => Z5x g (Yll g.events T) (i : Int) z.1 z.2) big (b, 0) = some (b && endT g.events T g.events[i].id) := by
  intro i hi b
  have := Yet (l := g.events) (step := fun z : Bool × Int => Z5x g (Yll g.events T) (i : Int) z.1 z.2) (fun q j => (q, j)) (fun q => q) (fun q e => q && (!T e.id || !decide (g.events[i].id ∈ e.prev))) (fun _ _ => True) (by omega) (fun k q hk _ => by
   refine ⟨?_, trivial⟩; simp only [Z5x]; rw [dlt hk, Wu, inner1 i k hi hk, Wb]; simp only [Z5t]
   rw [Yed hk (by omega)])
   (fun q _ => by simp only [Z5x]; rw [dnlt, Wv]) (s := b) trivial
  rw [this.1]; congr 1
  have key : ∀ (l : List Y8z) (q : Bool), l.foldl (fun q e => q && (!T e.id || !decide (g.events[i].id ∈ e.prev))) q = (q && l.all fun e => (!T e.id || !decide (g.events[i].id ∈ e.prev))) := by
   intro l
   induction l with
   | nil => intro q; simp
   | cons e l ih => intro q; rw [List.foldl_cons, ih, List.all_cons, Bool.and_assoc]
  rw [key]; congr 1; unfold endT accT; rw [Bool.eq_iff_iff, List.all_eq_true, List.all_eq_true]; constructor
  ·
   intro h1 id hid; obtain ⟨h2, h3⟩ := List.mem_filter.1 hid; obtain ⟨_, e2, e3⟩ := Yjj h2 hr.fits.up; have := h1 _ e2; rw [e3, h3] at this; simpa using this
  ·
   intro h1 e he
   cases h3 : T e.id with
   | false => rfl
   | true =>
    have := h1 e.id (List.mem_filter.2 ⟨List.mem_map.2 ⟨e, he, rfl⟩, h3⟩); have e1 : evD g.events e.id = e := by unfold evD; rw [hr.fits.up.evAt_mem he]; rfl
    rw [e1] at this; simpa using this
 have := Yet (l := g.events) (step := fun z : List Int × Int => Z5y g (Yll g.events T) z.1 z.2) (fun q j => (q, j)) (fun q => q) (fun q e => if (T e.id && endT g.events T e.id) = true then q ++ [e.id] else q) (fun i q => q.length ≤ i) (by omega) (fun i q hi hq => by
  refine ⟨?_, by split <;> first | omega | (rw [List.length_append, List.length_singleton]; omega)⟩; have ht : getI (Yll g.events T) (i : Int) = some (T g.events[i].id) := Ylo _ hi; simp only [Z5y]; rw [dlt hi, Wu, ht, Wb, inner2 i hi, Wb]; simp only [Z5s, Z5r]; rw [Yec hi, Yed hi (by omega), Wb, chk8 (by simp; omega)]
  cases (T g.events[i].id && endT g.events T g.events[i].id) <;> rfl)
  (fun q _ => by simp only [Z5y]; rw [dnlt, Wv]) (s := []) (by simp)
 rw [this.1, Wb]; simp only [Z5q]; congr 1; unfold endsT accT; rw [List.filter_filter]
 have key : ∀ (l : List Y8z) (q : List Int), l.foldl (fun q e => if (T e.id && endT g.events T e.id) = true then q ++ [e.id] else q) q = q ++ (l.map (·.id)).filter fun x => endT g.events T x && T x := by
  intro l
  induction l with
  | nil => intro q; simp
  | cons e l ih =>
   intro q; rw [List.foldl_cons, ih]
   cases hc : T e.id && endT g.events T e.id with
   | true => rw [if_pos rfl, List.map_cons, List.filter_cons_of_pos (by rw [Bool.and_comm]; exact hc)]; simp
   | false => rw [if_neg (by simp), List.map_cons, List.filter_cons_of_neg (by rw [Bool.and_comm, hc]; simp)]
 rw [key]; rfl


def nowT (g : Y92) (h : Y99) (T : Int → Bool) : List Y94 := Yjn g ((endsT g.events T).map (behI h.after))

theorem Ylq {h : Y99} (l : List Int) (hl : l.length < 1000000) : Zh3 h l = some (l.map (behI h.after)) := by
 unfold Zh3
 have := Yet (l := l) (step := fun z : List (List Y94) × Int => Zh2 h l z.1 z.2) (fun q j => (q, j)) (fun q => q) (fun q p => q ++ [behI h.after p]) (fun i q => q.length = i) (by omega) (fun i q hi hq => by
  refine ⟨?_, by simp [hq]⟩; simp only [Zh2]
  rw [dlt hi, Wu, Yec hi, Wb, Yhq (by simp; omega), Wb, Yed hi (by omega)]; rfl)
  (fun q _ => by simp only [Zh2]; rw [dnlt, Wv]) (s := []) rfl
 rw [this.1, Ykk]; rfl

theorem Both.endsT {g : Y92} {h : Y99} {w : Y95} (hb : Both g h w) (hr : Ykh g) (T : Int → Bool) : Mrg g ((endsT g.events T).map (behI h.after)) := by
 refine ⟨hr.fits, hr.ev, hr.deep, fun s hs => ?_, by have := Ylj hr.fits T; simp; omega⟩; obtain ⟨id, hid, rfl⟩ := List.mem_map.1 hs; have hm := Yli hid; obtain ⟨_, e2, e3⟩ := Yjj hm hr.fits.up; have := (hb.behind hr e2).2; rwa [e3] at this

theorem Ylr : @Zhj = @Zep := rfl

theorem Yls {g : Y92} {h : Y99} {w : Y95} (hb : Both g h w) (hr : Ykh g) (T : Int → Bool) : (Zh3 h (endsT g.events T)).bind (fun r => (Zhj h r).bind fun r' => some r') = some (nowT g h T) ∧ StOk g.events (nowT g h T) := by
 have hgr := hb.graph; have hm := hb.endsT hr T; have hel := Ylj hr.fits T; rw [Ylq _ (by omega), Wb]; have hm' : Mrg h.graph ((endsT g.events T).map (behI h.after)) := by rw [hgr]; exact hm
 obtain ⟨_, c2, c3⟩ := Yjp hm' hb.depth; rw [Ylr, c2, hgr]; rw [hgr] at c3; exact ⟨rfl, c3⟩

theorem Ylt {g : Y92} {h : Y99} {w : Y95} (hb : Both g h w) (hr : Ykh g) (T : Int → Bool) : Z67 g w (Yll g.events T) = some (nowT g h T) := by
 have hgr := hb.graph; have hel := Ylj hr.fits T; have hfl := hr.fits.len; unfold Z67; rw [Ylp hr, Wb]
 have := Yet (l := endsT g.events T) (step := fun z : List (List Y94) × Int => Z66 g w (endsT g.events T) z.1 z.2) (fun q j => (q, j)) (fun q => q) (fun q p => q ++ [behI h.after p]) (fun i q => q.length = i) (by omega) (fun i q hi hq => by
  refine ⟨?_, by simp [hq]⟩; have hm := Yli (Wm hi); obtain ⟨_, e2, e3⟩ := Yjj hm hr.fits.up; have hbe := (hb.behind hr e2).1; rw [e3] at hbe; simp only [Z66]
  rw [dlt hi, Wu, Yec hi, Wb, Yf9 _ _ (by omega), Wb, hbe, Wb, Yhq (by simp; omega), Wb, Yed hi (by omega)])
  (fun q _ => by simp only [Z66]; rw [dnlt, Wv]) (s := []) rfl
 rw [this.1, Ykk, Wb]; simp only [Z65, List.nil_append]; have hm' : Mrg h.graph ((endsT g.events T).map (behI h.after)) := by rw [hgr]; exact hb.endsT hr T
 obtain ⟨c1, _, _⟩ := Yjp hm' hb.depth; rw [hb.depths, ← hgr]; rw [hgr] at c1 ⊢; rw [c1]; rfl

theorem Ylu {g : Y92} {h : Y99} {w : Y95} (hb : Both g h w) (hr : Ykh g) : Z63 w = some (Yll g.events (refB h)) := by
 have hfl := hr.fits.len; have hlc := hb.lc; unfold Z63; rw [Y4j (Wt (by omega)), Wb, Int.toNat_natCast]; rw [Yln (by omega) (fun l i => by simp only [Z62]), Wb]; have := Ylm hb hr; rw [hb.graph] at this; rw [this]; rfl
end Go.Proofs.YtbgichfjcnibpaaGreat
namespace Go.Proofs.YtbgichfjcnibpaaGreat
open Go Go.Abs


theorem Ylv {α σ τ ω : Type} {l : List α} {step : τ → Option (τ ⊕ ω)} (emb : σ → Int → τ) (fin : σ → ω) (bad : ω) (p : Nat → Bool) (g : σ → α → σ) (I : Nat → σ → Prop) (hl : l.length < 9223372036854775807)
  (h1 : ∀ (i : Nat) (s : σ) (hi : i < l.length), I i s → (∀ j, j < i → p j = true) → step (emb s i) = some (cond (p i) (.inl (emb (g s l[i]) ((i + 1 : Nat) : Int))) (.inr bad)) ∧ (p i = true → I (i + 1) (g s l[i])))
  (h2 : ∀ s, I l.length s → step (emb s l.length) = some (.inr (fin s))) {s : σ} (h0 : I 0 s) :
  ((∀ i, i < l.length → p i = true) ∧ iter step big (emb s 0) = some (fin (l.foldl g s)) ∧ I l.length (l.foldl g s)) ∨ ((∃ i, i < l.length ∧ p i = false) ∧ iter step big (emb s 0) = some bad) := by
 have key : ∀ m i k : Nat, ∀ s, i + m = l.length → m < k → I i s → (∀ j, j < i → p j = true) →
   ((∀ i, i < l.length → p i = true) ∧ iter step k (emb s i) = some (fin ((l.drop i).foldl g s)) ∧ I l.length ((l.drop i).foldl g s)) ∨ ((∃ i, i < l.length ∧ p i = false) ∧ iter step k (emb s i) = some bad) := by
  intro m
  induction m with
  | zero =>
   intro i k s hm hk hi hp; obtain ⟨k, rfl⟩ : ∃ k', k = k' + 1 := ⟨k - 1, by omega⟩; obtain rfl : i = l.length := by omega
   rw [iter, h2 s hi, List.drop_length]
   exact .inl ⟨hp, rfl, hi⟩
  | succ m ih =>
   intro i k s hm hk hi hp; obtain ⟨k, rfl⟩ : ∃ k', k = k' + 1 := ⟨k - 1, by omega⟩; have hil : i < l.length := by omega
   obtain ⟨e1, e2⟩ := h1 i s hil hi hp
   cases hpi : p i with
   | false =>
    rw [hpi] at e1
    exact .inr ⟨⟨i, hil, hpi⟩, by rw [iter, e1]; rfl⟩
   | true =>
    rw [hpi] at e1; rw [iter, e1, List.drop_eq_getElem_cons hil, List.foldl_cons]
    exact ih (i + 1) k _ (by omega) (by omega) (e2 hpi) fun j hj => by
     rcases Nat.lt_or_ge j i with h | h
     ·
      exact hp j h
     ·
      obtain rfl : j = i := by omega
      exact hpi
 have := key l.length 0 big s (by omega) (Ye7 (by omega)) h0 fun j hj => by omega
 simpa using this


abbrev Pr := Int × Int
def pr (x : Y91) : Pr := (x.room, x.id)
def prs (l : List Y91) : List Pr := l.map pr
def posP (l : List Pr) (y : Pr) : Int := if y ∈ l then (l.idxOf y : Int) + 1 else 0

theorem Ylw (l : List Pr) (a y : Pr) : posP (l ++ [a]) y = if y ∈ l then posP l y else if y = a then (l.length : Int) + 1 else 0 := by
 unfold posP
 by_cases h : y ∈ l
 ·
  rw [if_pos h, if_pos h, if_pos (by simp [h]), List.idxOf_append, if_pos h]
 ·
  rw [if_neg h]
  by_cases ha : y = a
  ·
   subst ha; rw [if_pos (by simp), if_pos rfl, List.idxOf_append, if_neg h]; simp
  ·
   rw [if_neg (by simp [h, ha]), if_neg ha]
theorem Ylx {l : List Pr} {y : Pr} : 0 < posP l y ↔ y ∈ l := by
 unfold posP
 by_cases h : y ∈ l
 ·
  rw [if_pos h]; exact ⟨fun _ => h, fun _ => by omega⟩
 ·
  rw [if_neg h]; exact ⟨fun x => by omega, fun x => absurd x h⟩
theorem Yly {l : List Pr} {y : Pr} {i : Nat} (hi : i ≤ l.length) : y ∈ l.take i ↔ y ∈ l ∧ l.idxOf y < i := by
 constructor
 ·
  intro h; refine ⟨List.mem_of_mem_take h, ?_⟩; have e : l = l.take i ++ l.drop i := (List.take_append_drop i l).symm; have h2 := List.idxOf_lt_length_of_mem h; rw [List.length_take] at h2; rw [e, List.idxOf_append, if_pos h]; omega
 ·
  rintro ⟨h, hlt⟩; have h1 := List.idxOf_lt_length_of_mem h; have : l[l.idxOf y] = y := List.getElem_idxOf h1; rw [List.mem_take_iff_getElem]; exact ⟨l.idxOf y, by omega, this⟩
theorem Ylz {l : List Pr} {y : Pr} {i : Nat} (hi : i ≤ l.length) : y ∈ l.take i ↔ 0 < posP l y ∧ posP l y ≤ i := by
 rw [Yly hi, Ylx]; unfold posP; constructor
 ·
  rintro ⟨h, hlt⟩; rw [if_pos h]; exact ⟨h, by omega⟩
 ·
  rintro ⟨h, hlt⟩; rw [if_pos h] at hlt; exact ⟨h, by omega⟩
theorem Ym0 {α : Type} {l : List α} (h : l.Nodup) {i j : Nat} (hi : i < l.length) (hj : j < l.length) (e : l[i] = l[j]) : i = j := by
 have hp := List.pairwise_iff_getElem.1 (List.nodup_iff_pairwise_ne.1 h); rcases Nat.lt_trichotomy i j with h1 | h1 | h1
 ·
  exact absurd e (hp i j hi hj h1)
 ·
  exact h1
 ·
  exact absurd e.symm (hp j i hj hi h1)
theorem Ym1 {l : List Pr} (h : l.Nodup) {i : Nat} (hi : i < l.length) : l.idxOf l[i] = i := by
 have hm : l[i] ∈ l := Wm hi; have h1 := List.idxOf_lt_length_of_mem hm; have e : l[l.idxOf l[i]] = l[i] := List.getElem_idxOf h1; exact Ym0 h h1 hi e
theorem Ym2 {l : List Pr} : l.Nodup ↔ ∀ (i : Nat) (hi : i < l.length), l[i] ∉ l.take i := by
 constructor
 ·
  intro h i hi hm; have := (Yly (by omega)).1 hm; rw [Ym1 h hi] at this; omega
 ·
  intro h; rw [List.nodup_iff_pairwise_ne, List.pairwise_iff_getElem]; intro i j hi hj hij e; exact h j hj (by rw [List.mem_take_iff_getElem]; exact ⟨i, by omega, e⟩)

theorem Ym3 : ∀ {a l : List Pr}, a.Nodup → (∀ x ∈ a, x ∈ l) → a.length ≤ l.length
 | [], _, _, _ => Nat.zero_le _
 | x :: a, l, hn, hs => by
  simp only [List.nodup_cons] at hn; have hx : x ∈ l := hs x (by simp); have := Ym3 (l := l.erase x) hn.2 fun y hy => (List.mem_erase_of_ne (fun e => hn.1 (by rw [← e]; exact hy))).2 (hs y (by simp [hy])); rw [List.length_erase_of_mem hx] at this; have : 0 < l.length := List.length_pos_of_mem hx; simp only [List.length_cons]; omega
theorem Ym4 {a l : List Pr} (hn : a.Nodup) (hs : ∀ x ∈ a, x ∈ l) (hl : l.length ≤ a.length) : ∀ x ∈ l, x ∈ a := by
 intro x hx
 by_cases h : x ∈ a
 ·
  exact h
 ·
  have := Ym3 (a := x :: a) (l := l) (List.nodup_cons.2 ⟨h, hn⟩) fun y hy => by
   rcases List.mem_cons.1 hy with rfl | hy
   ·
    exact hx
   ·
    exact hs y hy
  simp only [List.length_cons] at this; omega


def Ym5 : Y99 := ⟨⟨0, [], []⟩, [], [], [], []⟩
def hiG (g : Y92) : Y99 := (Zf7 g).getD Ym5
def knG (g : Y92) : Y95 := (Z5o g).getD ⟨[], [], [], []⟩
theorem Ym6 {g : Y92} (hr : Ykh g) : Zf7 g = some (hiG g) ∧ Z5o g = some (knG g) ∧ Both g (hiG g) (knG g) := by
 obtain ⟨h, w, h1, h2, h3⟩ := Ykm hr; unfold hiG knG; rw [h1, h2]; exact ⟨rfl, rfl, h3⟩

def okB (g : Y92) (id : Int) : Bool := refB (hiG g) id
def posG (s : List Pr) (g : Y92) : List Int := g.events.map fun e => posP s (g.room, e.id)
def nowG (g : Y92) : List Y94 := nowT g (hiG g) (okB g)
def wOf (h : Y93) : Y96 := ⟨h, h.rooms.map knG, h.rooms.map (posG (prs h.stream)), h.rooms.map nowG⟩

theorem Ym7 {s : List Pr} {g : Y92} {j : Nat} (hj : j < g.events.length) (h2 : j < (posG s g).length) : (posG s g)[j] = posP s (g.room, g.events[j].id) := List.getElem_map _

theorem Ym8 {h : Y93} {g : Y92} (hr : Ykh g) (hn : (prs h.stream).Nodup) (hl : h.stream.length ≤ 120) :
  iter (fun z : List Int × Int => Z6d h g z.1 z.2) big (List.replicate g.events.length 0, 0) = some (posG (prs h.stream) g) := by
 have hfl := hr.fits.len
 obtain ⟨o, e1, rfl⟩ := Yea (τ := List Int × Int) (ω := List Int) (σ := List Int) (step := fun z : List Int × Int => Z6d h g z.1 z.2) (n := h.stream.length) (fun s j => (s, j)) (fun i s => s = posG ((prs h.stream).take i) g) (fun o => o = posG (prs h.stream) g) (by omega) (by
  rintro i s hi rfl; have hil : i < (prs h.stream).length := by unfold prs; rw [List.length_map]; exact hi
  have eL : (prs h.stream)[i] = (h.stream[i].room, h.stream[i].id) := List.getElem_map pr; have etk : (prs h.stream).take (i + 1) = (prs h.stream).take i ++ [(h.stream[i].room, h.stream[i].id)] := by rw [List.take_add_one, We hil, eL]; rfl
  have hnot := Ym2.1 hn i hil; rw [eL] at hnot; have hw := Yed hi (by omega : h.stream.length < 9223372036854775807); have hlt : ((prs h.stream).take i).length = i := by rw [List.length_take]; omega
  have hskip : (∀ e ∈ g.events, (g.room, e.id) ≠ (h.stream[i].room, h.stream[i].id)) → posG ((prs h.stream).take i) g = posG ((prs h.stream).take (i + 1)) g := fun hx => by
   unfold posG; refine List.map_congr_left fun e he => ?_; rw [etk, Ylw]
   by_cases hm : (g.room, e.id) ∈ (prs h.stream).take i
   ·
    rw [if_pos hm]
   ·
    rw [if_neg hm, if_neg (hx e he)]; unfold posP; rw [if_neg hm]
  simp only [Z6d]; rw [dlt hi, Wu, Yec hi, Wb, Yf9 _ _ (by omega), Wb, beqd]
  by_cases hroom : h.stream[i].room = g.room
  ·
   rw [Wt hroom, Wu, Yfa]
   cases hh : hasE g.events h.stream[i].id with
   | false =>
    refine ⟨_, by simp only [Z6c, Z6b, Wv]; rw [hw], hskip fun e he ee => ?_⟩; have : e.id = h.stream[i].id := (Prod.mk.inj ee).2; have := Yff.2 ⟨e, he, this⟩
    rw [hh] at this; cases this
   | true =>
    obtain ⟨k, hk, h1, h2, h3⟩ := Yfc hh; have hkl : k < (posG ((prs h.stream).take i) g).length := by unfold posG; rw [List.length_map]; exact hk
    refine ⟨(posG ((prs h.stream).take i) g).set k ((i + 1 : Nat) : Int), by simp only [Z6c, Z6b, Wu]; rw [h1, Yec hkl, Wb, Int.toNat_natCast, hw], ?_⟩; refine List.ext_getElem (by simp [posG]) fun j hj1 hj2 => ?_; have hj : j < g.events.length := by simpa [posG] using hj2
    have hj0 : j < (posG ((prs h.stream).take i) g).length := by simpa [posG] using hj
    rw [List.getElem_set, Ym7 hj hj2, Ym7 hj hj0]; simp only [etk]; rw [Ylw]
    by_cases hjk : k = j
    ·
     subst hjk; have ee : (g.room, g.events[k].id) = (h.stream[i].room, h.stream[i].id) := by rw [h2, hroom]
     rw [if_pos rfl, ee, if_neg hnot, if_pos rfl, hlt]; omega
    ·
     rw [if_neg hjk]
     by_cases hm : (g.room, g.events[j].id) ∈ (prs h.stream).take i
     ·
      rw [if_pos hm]
     ·
      rw [if_neg hm, if_neg (fun ee => hjk (hr.fits.up.inj hk hj (by rw [h2]; exact (Prod.mk.inj ee).2.symm)))]; unfold posP; rw [if_neg hm]
  ·
   rw [Wf hroom, Wv]
   exact ⟨_, by simp only [Z6c, Z6b, Wv]; rw [hw], hskip fun e he ee => hroom (Prod.mk.inj ee).1.symm⟩) (by
  rintro s rfl; simp only [Z6d]; rw [dnlt, Wv]
  exact ⟨_, rfl, by rw [show h.stream.length = (prs h.stream).length by simp [prs], List.take_length]⟩) (s := List.replicate g.events.length 0) (by
  show List.replicate g.events.length 0 = posG [] g
  exact List.ext_getElem (by simp [posG]) fun j h1 h2 => by simp [posG, posP])
 exact e1

theorem Ym9 {h : Y93} (hr : ∀ g ∈ h.rooms, Ykh g) (hn : (prs h.stream).Nodup) (hl : h.stream.length ≤ 120) (h3 : h.rooms.length = 3) : Z6f h = some (wOf h) := by
 unfold Z6f
 have := Yet (l := h.rooms) (step := fun z : List Y95 × List (List Int) × List (List Y94) × Int => Z6e h z.1 z.2.1 z.2.2.1 z.2.2.2) (fun (q : List Y95 × List (List Int) × List (List Y94)) j => (q.1, q.2.1, q.2.2, j)) (fun q => q)
  (fun q g => (q.1 ++ [knG g], q.2.1 ++ [posG (prs h.stream) g], q.2.2 ++ [nowG g])) (fun i q => q.1.length = i ∧ q.2.1.length = i ∧ q.2.2.length = i) (by omega) (fun i q hi ⟨q1, q2, q3⟩ => by
  refine ⟨?_, by simp [q1], by simp [q2], by simp [q3]⟩; have hg := hr _ (Wm hi); have hfl := hg.fits.len; obtain ⟨b1, b2, b3⟩ := Ym6 hg; have hp := Ym8 hg hn hl; simp only [Z6e]; rw [dlt hi, Wu, Yec hi, Wb, b2, Wb, Y4j (Wt (by simp; omega)), Wb, Ylu b3 hg, Wb, Ylt b3 hg, Wb, Yhq (by simp; omega), Wb, Y4j (Wt (by omega)), Wb, Int.toNat_natCast, hp, Wb]; simp only [Z6a]; rw [Yhq (by simp; omega), Wb, Yed hi (by omega)]
  rfl)
  (fun q _ => by simp only [Z6e]; rw [dnlt, Wv]) (s := ([], [], [])) ⟨rfl, rfl, rfl⟩
 rw [this.1, Wb]
 have key : ∀ (l : List Y92) (q : List Y95 × List (List Int) × List (List Y94)), l.foldl (fun q g => (q.1 ++ [knG g], q.2.1 ++ [posG (prs h.stream) g], q.2.2 ++ [nowG g])) q = (q.1 ++ l.map knG, q.2.1 ++ l.map (posG (prs h.stream)), q.2.2 ++ l.map nowG) := by
  intro l
  induction l with
  | nil => intro q; simp
  | cons g l ih => intro q; rw [List.foldl_cons, ih]; simp
 rw [key]; simp only [List.nil_append, Z69]; rfl
end Go.Proofs.YtbgichfjcnibpaaGreat
namespace Go.Proofs.YtbgichfjcnibpaaGreat
open Go Go.Abs

def inS (s : List Pr) (g : Y92) (e : Y8z) : Bool := decide (0 < posP s (g.room, e.id))
def strE (s : List Pr) (g : Y92) (e : Y8z) : Bool := (okB g e.id == inS s g e) && (!inS s g e || e.prev.all fun p => decide (posP s (g.room, p) < posP s (g.room, e.id)))
def Yma (s : List Pr) (g : Y92) : Nat := (g.events.filter (inS s g)).length
def Ymb (s : List Pr) (l : List Y92) : Nat := (l.map (Yma s)).sum

theorem Ymc (s : List Pr) (g : Y92) : ∀ (l : List Y8z) (m : Int), l.foldl (fun m e => if inS s g e = true then m + 1 else m) m = m + (l.filter (inS s g)).length
 | [], m => by simp
 | e :: l, m => by
  rw [List.foldl_cons, Ymc s g l]
  cases h : inS s g e with
  | true => rw [if_pos rfl, List.filter_cons_of_pos h, List.length_cons]; omega
  | false => rw [if_neg (by simp), List.filter_cons_of_neg (by simp [h])]
theorem Ymd (s : List Pr) : ∀ (l : List Y92) (m : Int), l.foldl (fun m g => m + (Yma s g : Int)) m = m + (Ymb s l : Nat)
 | [], m => by simp [Ymb]
 | g :: l, m => by
  rw [List.foldl_cons, Ymd s l]; unfold Ymb; rw [List.map_cons, List.sum_cons]; omega

def atB {α : Type} (l : List α) (p : α → Bool) (i : Nat) : Bool := if h : i < l.length then p l[i] else true
theorem Yme {α : Type} {l : List α} {p : α → Bool} {i : Nat} (h : i < l.length) : atB l p i = p l[i] := by unfold atB; rw [dif_pos h]
theorem Ymf {α : Type} {l : List α} {p : α → Bool} : (∀ i, i < l.length → atB l p i = true) ↔ l.all p = true := Yer
theorem Ymg {α : Type} {l : List α} {p : α → Bool} (h : ∃ i, i < l.length ∧ atB l p i = false) : l.all p = false := by
 obtain ⟨i, hi, hb⟩ := h; rw [Bool.eq_false_iff]; intro ha; have := Ymf.2 ha i hi; rw [hb] at this; cases this

theorem Ymh {s : List Pr} {g : Y92} (hr : Ykh g) {k : Nat} (hk : k < g.events.length) :
  iter (Z6m g (k : Int) (posG s g) (posP s (g.room, g.events[k].id))) big 0 = some (cond (!inS s g g.events[k] || g.events[k].prev.all fun p => decide (posP s (g.room, p) < posP s (g.room, g.events[k].id))) (.inr ()) (.inl false)) := by
 have hpl := hr.fits.plen _ (Wm hk); have hfl := hr.fits.len
 cases hin : inS s g g.events[k] with
 | false =>
  have h0 : decide (posP s (g.room, g.events[k].id) > 0) = false := hin; rw [Y4m (o := .inr ()) (fun m (x : Int) => x = 0 ∧ m = 0) ?_ (m := 0) ⟨rfl, rfl⟩ (Ye7 (by omega))]
  ·
   rfl
  ·
   rintro m x ⟨rfl, rfl⟩; left; simp only [Z6m]; rw [Yec hk, Wb, h0]
   cases decide ((0 : Int) < (g.events[k].prev.length : Int)) <;> rfl
 | true =>
  have h0 : decide (posP s (g.room, g.events[k].id) > 0) = true := hin
  rw [Yes (l := g.events[k].prev) (fun p => decide (posP s (g.room, p) < posP s (g.room, g.events[k].id))) (.inl false) (.inr ()) hpl (fun i hi => by
   obtain ⟨j, hj, j1, j2, _⟩ := Yfc (hr.fits.whole _ (Wm hk) _ (Wm hi)); have hjl : j < (posG s g).length := by unfold posG; rw [List.length_map]; exact hj
   simp only [Z6m]; rw [Yec hk, Wb, dlt hi, Wu, h0]; simp only [Z6l]; rw [Yec hk, Wu, Wb, Yec hi, Wb, Yf9 _ _ (by omega), Wb, j1, Yec hjl, Wb, Ym7 hj, j2, Yed hi hpl]
   by_cases hc : posP s (g.room, g.events[k].prev[i]) < posP s (g.room, g.events[k].id)
   ·
    rw [Wt hc, Wf (by omega)]; rfl
   ·
    rw [Wf hc, Wt (by omega)]; rfl) (by
   simp only [Z6m]
   rw [Yec hk, Wb, dnlt, Wv]; rfl)]
  rfl

theorem Ymi {g : Y92} (hr : Ykh g) {k : Nat} (hk : k < g.events.length) : ∃ c, getI (knG g).code (k : Int) = some c ∧ (c == 0) = okB g g.events[k].id := by
 obtain ⟨c, h1, h2⟩ := (Ym6 hr).2.2.code (Wm hk); rw [(hr.fits.up.plc hk).1] at h1; refine ⟨c, h1, ?_⟩; unfold okB refB; rw [h2, beqd]

theorem Ymj {h : Y93} {i : Nat} (hi : i < h.rooms.length) (hr : Ykh h.rooms[i]) {m : Int} (hm : 0 ≤ m ∧ m ≤ 1000) :
  iter (fun z : Int × Int => Z6n (wOf h) (i : Int) h.rooms[i] z.1 z.2) big (m, 0) = some (cond (h.rooms[i].events.all (strE (prs h.stream) h.rooms[i])) (.inr (m + (Yma (prs h.stream) h.rooms[i] : Int))) (.inl false)) := by
 have hfl := hr.fits.len; have g1 : getI (wOf h).rooms (i : Int) = some (knG h.rooms[i]) := Ylo knG hi; have g2 : getI (wOf h).pos (i : Int) = some (posG (prs h.stream) h.rooms[i]) := Ylo _ hi
 have := Ylv (l := h.rooms[i].events) (step := fun z : Int × Int => Z6n (wOf h) (i : Int) h.rooms[i] z.1 z.2) (fun q j => (q, j)) (fun q => Sum.inr q) (Sum.inl false) (atB h.rooms[i].events (strE (prs h.stream) h.rooms[i])) (fun m e => if inS (prs h.stream) h.rooms[i] e = true then m + 1 else m) (fun k q => 0 ≤ q ∧ q ≤ 1000 + k) (by omega) (fun k q hk ⟨q1, q2⟩ _ => by
  refine ⟨?_, fun _ => by split <;> omega⟩; obtain ⟨c, c1, c2⟩ := Ymi hr hk; have hkl : k < (posG (prs h.stream) h.rooms[i]).length := by unfold posG; rw [List.length_map]; exact hk
  have hp := Ymh (s := prs h.stream) hr hk; have hw := Yed hk (by omega : h.rooms[i].events.length < 9223372036854775807); have hin : decide (posP (prs h.stream) (h.rooms[i].room, h.rooms[i].events[k].id) > 0) = inS (prs h.stream) h.rooms[i] h.rooms[i].events[k] := rfl; simp only [Z6n]; rw [dlt hk, Wu, g1, Wb, c1, Wb, g2, Wb, Yec hkl, Wb, Ym7 hk, c2, hin, hp, Wb, Yme hk]; unfold strE
  cases ho : okB h.rooms[i] h.rooms[i].events[k].id == inS (prs h.stream) h.rooms[i] h.rooms[i].events[k] with
  | false => rfl
  | true =>
   rw [Wu, Bool.true_and]
   cases hc : (!inS (prs h.stream) h.rooms[i] h.rooms[i].events[k] || h.rooms[i].events[k].prev.all fun p => decide (posP (prs h.stream) (h.rooms[i].room, p) < posP (prs h.stream) (h.rooms[i].room, h.rooms[i].events[k].id))) with
   | false => rfl
   | true =>
    simp only [Wu, Z6k, Z6j]; rw [hin, hw, Y4i (n := q + 1) (by omega) (by omega)]
    cases inS (prs h.stream) h.rooms[i] h.rooms[i].events[k] <;> rfl)
  (fun q _ => by simp only [Z6n]; rw [dnlt, Wv]) (s := m) ⟨hm.1, by omega⟩
 rcases this with ⟨a1, a2, _⟩ | ⟨a1, a2⟩
 ·
  rw [a2, Ymf.1 a1, Ymc]; rfl
 ·
  rw [a2, Ymg a1]; rfl

theorem Ymk {s : List Pr} {g : Y92} (hr : Ykh g) : Yma s g ≤ 60 := Nat.le_trans (List.length_filter_le _ _) hr.fits.len

theorem Yml {h : Y93} (hr : ∀ g ∈ h.rooms, Ykh g) (h3 : h.rooms.length = 3) (hl : h.stream.length ≤ 120) :
  Z6p (wOf h) = some ((h.rooms.all fun g => g.events.all (strE (prs h.stream) g)) && decide (Ymb (prs h.stream) h.rooms = h.stream.length)) := by
 unfold Z6p
 have := Ylv (l := h.rooms) (step := fun z : Int × Int => Z6o (wOf h) z.1 z.2) (fun q j => (q, j)) (fun q => Sum.inr q) (Sum.inl false) (atB h.rooms fun g => g.events.all (strE (prs h.stream) g)) (fun m g => m + (Yma (prs h.stream) g : Int)) (fun k q => 0 ≤ q ∧ q ≤ 60 * k) (by omega) (fun k q hk ⟨q1, q2⟩ _ => by
  have hg := hr _ (Wm hk); have hml := Ymk (s := prs h.stream) hg; refine ⟨?_, fun _ => by omega⟩; have hev := Ymj (h := h) hk hg (m := q) ⟨q1, by omega⟩; have g0 : getI (wOf h).h.rooms (k : Int) = some h.rooms[k] := Yec hk; have hw := Yed hk (by omega : h.rooms.length < 9223372036854775807); have hd : decide ((k : Int) < ((wOf h).h.rooms.length : Int)) = true := dlt hk; simp only [Z6o]; rw [hd, Wu, g0, Wb, hev, Wb, Yme hk]
  cases h.rooms[k].events.all (strE (prs h.stream) h.rooms[k]) with
  | false => rfl
  | true => simp only [Wu, Z6i]; rw [hw])
  (fun q _ => by
   have hd : decide ((h.rooms.length : Int) < ((wOf h).h.rooms.length : Int)) = false := dnlt _
   simp only [Z6o]; rw [hd, Wv]) (s := 0) ⟨by omega, by omega⟩
 rcases this with ⟨a1, a2, _⟩ | ⟨a1, a2⟩
 ·
  rw [a2, Ymf.1 a1, Ymd, Wb]; simp only [Z6h]; rw [beqd, Bool.true_and]; congr 1; rw [Bool.eq_iff_iff]; simp only [decide_eq_true_eq]; show (0 + ((Ymb (prs h.stream) h.rooms : Nat) : Int) = (h.stream.length : Int)) ↔ _; omega
 ·
  rw [a2, Ymg a1]; rfl
end Go.Proofs.YtbgichfjcnibpaaGreat
namespace Go.Proofs.YtbgichfjcnibpaaGreat
open Go Go.Abs

structure Ymm (h : Y93) : Prop where
 rl : h.rooms.length ≤ 1048576
 sl : h.stream.length ≤ 1048576
 fine : ∀ g ∈ h.rooms, Fine g

def gB (g : Y92) : Bool := (Z2u g).getD false
theorem Ymn {g : Y92} (hg : Fine g) : Z2u g = some (gB g) ∧ Zap g = some (gB g) ∧ (gB g = true ↔ GOk g) := by
 obtain ⟨b, h1, h2, h3⟩ := Yhl hg; unfold gB; rw [h1]; exact ⟨rfl, h2, h3⟩
def rB (l : List Y92) (i : Nat) : Bool := if h : i < l.length then gB l[i] && decide (l[i].room = (i : Int) + 1) else true
theorem Ymo {l : List Y92} {i : Nat} (h : i < l.length) : rB l i = (gB l[i] && decide (l[i].room = (i : Int) + 1)) := by unfold rB; rw [dif_pos h]
def Ymp (h : Y93) : Prop := ∀ (i : Nat) (hi : i < h.rooms.length), GOk h.rooms[i] ∧ h.rooms[i].room = (i : Int) + 1
theorem Ymq {h : Y93} (hf : Ymm h) : (∀ i, i < h.rooms.length → rB h.rooms i = true) ↔ Ymp h := by
 constructor
 ·
  intro k i hi; have := k i hi; rw [Ymo hi, Bool.and_eq_true] at this; exact ⟨(Ymn (hf.fine _ (Wm hi))).2.2.1 this.1, by simpa using this.2⟩
 ·
  intro k i hi; rw [Ymo hi, Bool.and_eq_true]; exact ⟨(Ymn (hf.fine _ (Wm hi))).2.2.2 (k i hi).1, by simpa using (k i hi).2⟩
theorem Ymp.right {h : Y93} (k : Ymp h) : ∀ g ∈ h.rooms, Ykh g := fun g hg => by
 obtain ⟨i, hi, rfl⟩ := List.mem_iff_getElem.1 hg; exact (k i hi).1.right


def zW : Y96 := ⟨⟨[], []⟩, [], [], []⟩
def OkS (h : Y93) : Prop := h.rooms.length = 3 ∧ h.stream.length ≤ 120 ∧ Ymp h ∧ (prs h.stream).Nodup ∧ (∀ g ∈ h.rooms, ∀ e ∈ g.events, strE (prs h.stream) g e = true) ∧ Ymb (prs h.stream) h.rooms = h.stream.length

theorem Ymr {l : List Y91} {i : Nat} (hi : i < l.length) (h2 : i < (prs l).length) : (prs l)[i] = (l[i].room, l[i].id) := List.getElem_map pr
theorem Yms (l : List Y91) : (prs l).length = l.length := List.length_map pr

theorem eqSp (a b c d : Int) : ((a == b) && ((c == d) && true)) = decide ((b, d) = (a, c)) := by
 rw [Bool.eq_iff_iff]; simp only [Bool.and_eq_true, beq_iff_eq, and_true, decide_eq_true_eq, Prod.mk.injEq]; exact ⟨fun x => ⟨x.1.symm, x.2.symm⟩, fun x => ⟨x.1.symm, x.2.symm⟩⟩

theorem Ymt {h : Y93} (hl : h.stream.length ≤ 120) {i : Nat} (hi : i < h.stream.length) :
  iter (Z6t h (i : Int)) big 0 = some (cond (!decide ((h.stream[i].room, h.stream[i].id) ∈ (prs h.stream).take i)) (.inr ()) (.inl (zW, false))) := by
 have hlt : ((prs h.stream).take i).length = i := by rw [List.length_take, Yms]; omega
 have hgt : ∀ (k : Nat) (hk : k < ((prs h.stream).take i).length), ((prs h.stream).take i)[k] = (h.stream[k].room, h.stream[k].id) := fun k hk => by
  rw [List.getElem_take]; exact Ymr _ _
 rw [Yes (l := (prs h.stream).take i) (step := Z6t h (i : Int)) (fun y => !decide (y = (h.stream[i].room, h.stream[i].id))) (.inl (zW, false)) (.inr ()) (by omega) (fun k hk => by
  have hki : k < i := by omega
  simp only [Z6t]; rw [dlt hki, Wu, Yec hi, Wb, Yec (by omega : k < h.stream.length), Wb, hgt k hk, Yed hki (by omega)]; rw [eqSp]
  cases decide ((h.stream[k].room, h.stream[k].id) = (h.stream[i].room, h.stream[i].id)) <;> rfl) (by
  simp only [Z6t]
  rw [hlt, dnlt, Wv])]
 congr 2; rw [Bool.eq_iff_iff, List.all_eq_true]; simp only [Bool.not_eq_true', decide_eq_false_iff_not]; constructor
 ·
  exact fun k hm => k _ hm rfl
 ·
  exact fun k y hy e => k (e ▸ hy)

theorem Ymu {h : Y93} (hf : Ymm h) : ∃ b : Bool, (b = true ↔ OkS h) ∧ Z6z h = some (cond b (wOf h, true) (zW, false)) := by
 have hrl := hf.rl; have hsl := hf.sl; unfold Z6z
 by_cases h3 : (h.rooms.length : Int) = 3
 rotate_left
 ·
  refine ⟨false, ⟨fun x => (by cases x), fun x => absurd x.1 (by omega)⟩, ?_⟩; rw [bned, Wf h3]; rfl
 by_cases hl : (h.stream.length : Int) > 120
 ·
  refine ⟨false, ⟨fun x => (by cases x), fun x => absurd x.2.1 (by omega)⟩, ?_⟩; rw [bned, Wt h3, Wt hl]; rfl
 rw [bned, Wt h3, Wf hl]; simp only [Bool.not_true, Wv, Z6y]; have hl' : h.stream.length ≤ 120 := by omega
 have h3' : h.rooms.length = 3 := by omega
 have := Ylv (l := h.rooms) (step := fun z : Int => Z6x h z) (fun (_ : Unit) j => j) (fun _ => Sum.inr ()) (Sum.inl (zW, false)) (rB h.rooms) (fun q _ => q) (fun _ _ => True) (by omega) (fun k q hk _ _ => by
  refine ⟨?_, fun _ => trivial⟩; obtain ⟨b1, _, _⟩ := Ymn (hf.fine _ (Wm hk)); have hw := Yed hk (by omega : h.rooms.length < 9223372036854775807); simp only [Z6x]; rw [dlt hk, Wu, Yec hk, Wb, b1, Wb, Ymo hk, hw, bned]
  cases gB h.rooms[k] with
  | false => rfl
  | true =>
   simp only [Wu, Bool.true_and, Z6w, hw]
   by_cases hc : h.rooms[k].room = (k : Int) + 1
   ·
    rw [Wt hc, Wt (by omega)]; rfl
   ·
    rw [Wf hc, Wf (by omega)]; rfl)
  (fun q _ => by simp only [Z6x]; rw [dnlt, Wv]) (s := ()) trivial
 rcases this with ⟨a1, a2, _⟩ | ⟨⟨i, hi, a1⟩, a2⟩
 rotate_left
 ·
  refine ⟨false, ⟨fun x => (by cases x), fun x => ?_⟩, ?_⟩
  ·
   have := (Ymq hf).2 x.2.2.1 i hi; rw [a1] at this; cases this
  ·
   have a2' : iter (Z6x h) big 0 = some (Sum.inl (zW, false)) := a2; rw [a2']; rfl
 have hro := (Ymq hf).1 a1; have a2' : iter (Z6x h) big 0 = some (Sum.inr ()) := a2; rw [a2', Wb]; simp only [Z6v]
 -- no repetition
 have := Ylv (l := prs h.stream) (step := fun z : Int => Z6u h z) (fun (_ : Unit) j => j) (fun _ => Sum.inr ()) (Sum.inl (zW, false)) (fun i => if hi : i < (prs h.stream).length then !decide ((prs h.stream)[i] ∈ (prs h.stream).take i) else true) (fun q _ => q) (fun _ _ => True) (by rw [Yms]; omega) (fun k q hk _ _ => by
  refine ⟨?_, fun _ => trivial⟩; have hk' : k < h.stream.length := by rw [Yms] at hk; exact hk
  have hw := Yed hk' (by omega : h.stream.length < 9223372036854775807); have hd := Ymt hl' hk'; simp only [Z6u]; rw [dlt hk', Wu, hd, Wb, dif_pos hk, Ymr hk']
  cases decide ((h.stream[k].room, h.stream[k].id) ∈ (prs h.stream).take k) with
  | false => simp only [Bool.not_false, Wu, Z6s]; rw [hw]
  | true => rfl)
  (fun q _ => by simp only [Z6u]; rw [Yms, dnlt, Wv]) (s := ()) trivial
 rcases this with ⟨n1, n2, _⟩ | ⟨⟨i, hi, n1⟩, n2⟩
 rotate_left
 ·
  refine ⟨false, ⟨fun x => (by cases x), fun x => ?_⟩, ?_⟩
  ·
   rw [dif_pos hi] at n1; have := Ym2.1 x.2.2.2.1 i hi; simp [this] at n1
  ·
   have n2' : iter (Z6u h) big 0 = some (Sum.inl (zW, false)) := n2; rw [n2']; rfl
 have hnd : (prs h.stream).Nodup := Ym2.2 fun i hi => by
  have := n1 i hi; rw [dif_pos hi] at this; simpa using this
 have n2' : iter (Z6u h) big 0 = some (Sum.inr ()) := n2; rw [n2', Wb]; simp only [Z6r]; rw [Ym9 hro.right hnd hl' h3', Wb, Yml hro.right h3' hl', Wb]; refine ⟨(h.rooms.all fun g => g.events.all (strE (prs h.stream) g)) && decide (Ymb (prs h.stream) h.rooms = h.stream.length), ?_, ?_⟩
 ·
  rw [Bool.and_eq_true, List.all_eq_true, decide_eq_true_eq]; constructor
  ·
   rintro ⟨k1, k2⟩; exact ⟨h3', hl', hro, hnd, fun g hg e he => List.all_eq_true.1 (k1 g hg) e he, k2⟩
  ·
   rintro ⟨_, _, _, _, k1, k2⟩; exact ⟨fun g hg => List.all_eq_true.2 fun e he => k1 g hg e he, k2⟩
 ·
  cases (h.rooms.all fun g => g.events.all (strE (prs h.stream) g)) && decide (Ymb (prs h.stream) h.rooms = h.stream.length) <;> rfl
end Go.Proofs.YtbgichfjcnibpaaGreat
namespace Go.Proofs.YtbgichfjcnibpaaGreat
open Go Go.Abs

def zS : Y9a := ⟨⟨[], []⟩, []⟩
def sOf (h : Y93) : Y9a := ⟨h, h.rooms.map hiG⟩
def zG : Y92 := ⟨0, [], []⟩
def rmG (h : Y93) (r : Int) : Y92 := h.rooms.getD (r - 1).toNat zG
def stX (h : Y93) (i : Nat) (x : Y91) : Bool :=
 decide (1 ≤ x.room ∧ x.room ≤ 3) && !decide ((x.room, x.id) ∈ (prs h.stream).take i) && hasE (rmG h x.room).events x.id && okB (rmG h x.room) x.id &&
  (evD (rmG h x.room).events x.id).prev.all fun p => !okB (rmG h x.room) p || decide ((x.room, p) ∈ (prs h.stream).take i)
def stB (h : Y93) (i : Nat) : Bool := if hi : i < h.stream.length then stX h i h.stream[i] else true
def Ymv (g : Y92) : Nat := (accT g.events (okB g)).length
def Ymw (l : List Y92) : Nat := (l.map Ymv).sum
theorem Ymx : ∀ (l : List Y92) (q : List Y99 × Int), l.foldl (fun q g => (q.1 ++ [hiG g], q.2 + (Ymv g : Int))) q = (q.1 ++ l.map hiG, q.2 + (Ymw l : Nat))
 | [], q => by simp [Ymw]
 | g :: l, q => by
  rw [List.foldl_cons, Ymx l]; unfold Ymw; rw [List.map_cons, List.map_cons, List.sum_cons, List.append_assoc]; congr 1; omega

theorem Ymy {g : Y92} (hr : Ykh g) : Ymv g ≤ 60 := Ylh hr.fits _

def OkI (h : Y93) : Prop := h.rooms.length = 3 ∧ h.stream.length ≤ 120 ∧ Ymp h ∧ (∀ i, i < h.stream.length → stB h i = true) ∧ Ymw h.rooms = h.stream.length

theorem Ymz {h : Y93} (h3 : h.rooms.length = 3) {r : Int} (hr : 1 ≤ r ∧ r ≤ 3) : ∃ (k : Nat) (hk : k < h.rooms.length), r = (k : Int) + 1 ∧ IntKind.i64.wrap (r - 1) = (k : Int) ∧ rmG h r = h.rooms[k] := by
 refine ⟨(r - 1).toNat, by omega, by omega, ?_, ?_⟩
 ·
  rw [Y4i (by omega) (by omega)]; omega
 ·
  unfold rmG; rw [List.getD_eq_getElem?_getD, We (by omega)]; rfl

theorem Yn0 {g : Y92} (hg : Ykh g) {m : List (Pr × Bool)} {s : List Pr} {x : Y91} (hm : ∀ y, Option.getD (pget m y) false = decide (y ∈ s)) (p : Int) :
  Zfh p (hiG g) m x = some (!(!okB g p || decide ((x.room, p) ∈ s))) := by
 unfold Zfh; rw [beqd]; show cond (okB g p) _ _ = _
 cases okB g p with
 | false => rfl
 | true => simp only [Wu, Zfg, hm]; simp

theorem Yn1 {g : Y92} (hg : Ykh g) {m : List (Pr × Bool)} {s : List Pr} {x : Y91} (hm : ∀ y, Option.getD (pget m y) false = decide (y ∈ s)) (l : List Int) (hl : l.length < 9223372036854775807) :
  Zfn l (hiG g) m x = some (!l.all fun p => !okB g p || decide ((x.room, p) ∈ s)) := by
 unfold Zfn Zfl
 rw [Yev (Yeq (l := l) (step := Zfk l (hiG g) m x) (fun p => !(!okB g p || decide ((x.room, p) ∈ s))) hl (fun i hi => by
  simp only [Zfk]; rw [dlt hi, Wu, Yec hi, Wb, Yn0 hg hm, Wb, Yed hi hl]
  cases (!okB g l[i] || decide ((x.room, l[i]) ∈ s)) <;> rfl) (by simp only [Zfk]; rw [dnlt, Wv])) (fun _ => rfl) rfl, Wb, Yeu, Yjg]

theorem Yn2 {h : Y93} (hro : Ymp h) (h3 : h.rooms.length = 3) (hl : h.stream.length ≤ 120) :
  ((∀ i, i < h.stream.length → stB h i = true) ∧ iter (fun z : List (Pr × Bool) × Int => Zft h (h.rooms.map hiG) z.1 z.2) big ([], 0) = some (.inr ())) ∨
  ((∃ i, i < h.stream.length ∧ stB h i = false) ∧ iter (fun z : List (Pr × Bool) × Int => Zft h (h.rooms.map hiG) z.1 z.2) big ([], 0) = some (.inl (zS, false))) := by
 have := Ylv (l := h.stream) (step := fun z : List (Pr × Bool) × Int => Zft h (h.rooms.map hiG) z.1 z.2) (fun q j => (q, j)) (fun _ => Sum.inr ()) (Sum.inl (zS, false)) (stB h) (fun m x => pset m (x.room, x.id) true) (fun i m => ∀ y, Option.getD (pget m y) false = decide (y ∈ (prs h.stream).take i)) (by omega) (fun i m hi hm _ => by
  have hil : i < (prs h.stream).length := by rw [Yms]; exact hi
  have etk : (prs h.stream).take (i + 1) = (prs h.stream).take i ++ [(h.stream[i].room, h.stream[i].id)] := by rw [List.take_add_one, We hil, Ymr hi]; rfl
  refine ⟨?_, fun _ y => ?_⟩
  rotate_left
  ·
   rw [Y8b, etk]
   by_cases hy : y = (h.stream[i].room, h.stream[i].id)
   ·
    rw [if_pos hy, Option.getD_some]; simp [hy]
   ·
    rw [if_neg hy, hm]; simp [hy]
  have hw := Yed hi (by omega : h.stream.length < 9223372036854775807); have hb : stB h i = stX h i h.stream[i] := by unfold stB; rw [dif_pos hi]
  rw [hb]; simp only [Zft]; rw [dlt hi, Wu, Yec hi, Wb, Yek, Wb]; generalize h.stream[i] = x; unfold stX
  by_cases hx : 1 ≤ x.room ∧ x.room ≤ 3
  rotate_left
  ·
   rw [Wf hx]; rfl
  rw [Wt hx, Wu, hm, Bool.true_and]; simp only [Zfs]
  cases decide ((x.room, x.id) ∈ (prs h.stream).take i) with
  | true => rfl
  | false =>
   rw [Wv, Bool.not_false, Bool.true_and]; obtain ⟨k, hk, k1, k2, k3⟩ := Ymz h3 hx; have hg := hro.right _ (Wm hk); have hfl := hg.fits.len; have hgr : (hiG h.rooms[k]).graph = h.rooms[k] := (Ym6 hg).2.2.graph
   have e1 : Zfe (Y9a.mk h (h.rooms.map hiG)) x.room = some (hiG h.rooms[k]) := by
    unfold Zfe; rw [k2]; show (getI (h.rooms.map hiG) (k : Int)).bind _ = _; rw [Ylo hiG hk]; rfl
   rw [e1, Wb, hgr, c_at _ _ hg.fits.up (by omega), Wb, k3]; simp only [Zfr]
   cases hh : hasE h.rooms[k].events x.id with
   | false => rfl
   | true =>
    rw [Wu, Bool.true_and, bned]; show cond (!okB h.rooms[k] x.id) _ _ = _
    cases okB h.rooms[k] x.id with
    | false => rfl
    | true =>
     rw [Bool.not_true, Wv, Bool.true_and]; have hev : Option.getD (evAt h.rooms[k].events x.id) zEv = evD h.rooms[k].events x.id := rfl; have hpl := (hg.walk.prev (Yjt.1 hh)).1; rw [hev, Yn1 hg hm _ (by omega), Wb]; simp only [Zfq, hw]
     cases (evD h.rooms[k].events x.id).prev.all fun p => !okB h.rooms[k] p || decide ((x.room, p) ∈ (prs h.stream).take i) <;> rfl)
  (fun q _ => by simp only [Zft]; rw [dnlt, Wv]) (s := []) (fun y => by simp [pget])
 rcases this with ⟨a1, a2, _⟩ | ⟨a1, a2⟩
 ·
  exact .inl ⟨a1, a2⟩
 ·
  exact .inr ⟨a1, a2⟩

theorem Yn3 {h : Y93} (hf : Ymm h) : ∃ b : Bool, (b = true ↔ OkI h) ∧ Zfy h = some (cond b (sOf h, true) (zS, false)) := by
 have hrl := hf.rl; have hsl := hf.sl; unfold Zfy
 by_cases h3 : (h.rooms.length : Int) = 3
 rotate_left
 ·
  refine ⟨false, ⟨fun x => (by cases x), fun x => absurd x.1 (by omega)⟩, ?_⟩; rw [bned, Wf h3]; rfl
 by_cases hl : (h.stream.length : Int) > 120
 ·
  refine ⟨false, ⟨fun x => (by cases x), fun x => absurd x.2.1 (by omega)⟩, ?_⟩; rw [bned, Wt h3, Wt hl]; rfl
 rw [bned, Wt h3, Wf hl]; simp only [Bool.not_true, Wv, Zfx]; have hl' : h.stream.length ≤ 120 := by omega
 have h3' : h.rooms.length = 3 := by omega
 have := Ylv (l := h.rooms) (step := fun z : List Y99 × Int × Int => Zfw h z.1 z.2.1 z.2.2) (fun (q : List Y99 × Int) j => (q.1, q.2, j)) (fun q => Sum.inr q) (Sum.inl (zS, false)) (rB h.rooms) (fun q g => (q.1 ++ [hiG g], q.2 + (Ymv g : Int))) (fun i q => q.1.length = i ∧ 0 ≤ q.2 ∧ q.2 ≤ 60 * i) (by omega) (fun k q hk ⟨q1, q2, q3⟩ hp => by
  obtain ⟨_, b2, b3⟩ := Ymn (hf.fine _ (Wm hk)); have hw := Yed hk (by omega : h.rooms.length < 9223372036854775807); have hb := Ymo hk; refine ⟨?_, fun ht => ?_⟩
  rotate_left
  ·
   rw [hb, Bool.and_eq_true] at ht; have := Ymy (b3.1 ht.1).right; simp only [List.length_append, List.length_singleton]; omega
  simp only [Zfw]; rw [dlt hk, Wu, Yec hk, Wb, b2, Wb, hb, hw, bned]
  cases hgB : gB h.rooms[k] with
  | false => rfl
  | true =>
   have hg := (b3.1 hgB).right; obtain ⟨n1, _, n3⟩ := Ym6 hg; have hle := Ymy hg
   have hac : Zfc (hiG h.rooms[k]) = some (accT h.rooms[k].events (okB h.rooms[k])) := by
    have := Ylc (h := hiG h.rooms[k]) (by rw [n3.graph]; exact hg); rw [n3.graph] at this; exact this
   have hgt : getI (q.1 ++ [hiG h.rooms[k]]) (k : Int) = some (hiG h.rooms[k]) := Yg8 (X := q.1) (Y := []) rfl q1.symm; simp only [Wu, Bool.true_and, Zfv]
   by_cases hc : h.rooms[k].room = (k : Int) + 1
   ·
    rw [Wt hc, Wt (by omega), Bool.not_true, Wv, n1, Wb, Y4j (Wt (by simp; omega)), Wb, hgt, Wb, hac, Wb, hw, Y4i (n := q.2 + ((accT h.rooms[k].events (okB h.rooms[k])).length : Int)) (by unfold Ymv at hle; omega) (by unfold Ymv at hle; omega)]; rfl
   ·
    rw [Wf hc, Wf (by omega)]; rfl)
  (fun q _ => by simp only [Zfw]; rw [dnlt, Wv]) (s := ([], 0)) ⟨rfl, by omega, by omega⟩
 rcases this with ⟨a1, a2, _⟩ | ⟨⟨i, hi, a1⟩, a2⟩
 rotate_left
 ·
  refine ⟨false, ⟨fun x => (by cases x), fun x => ?_⟩, ?_⟩
  ·
   have := (Ymq hf).2 x.2.2.1 i hi; rw [a1] at this; cases this
  ·
   have a2' : iter (fun z : List Y99 × Int × Int => Zfw h z.1 z.2.1 z.2.2) big ([], 0, 0) = some (Sum.inl (zS, false)) := a2; rw [a2']; rfl
 have hro := (Ymq hf).1 a1; rw [Ymx] at a2; have a2' : iter (fun z : List Y99 × Int × Int => Zfw h z.1 z.2.1 z.2.2) big ([], 0, 0) = some (Sum.inr (h.rooms.map hiG, 0 + (Ymw h.rooms : Int))) := a2; rw [a2', Wb]; simp only [Zfu]; rcases Yn2 hro h3' hl' with ⟨s1, s2⟩ | ⟨⟨i, hi, s1⟩, s2⟩
 ·
  rw [s2, Wb]; simp only [Zfp]; rw [beqd]; refine ⟨decide (0 + (Ymw h.rooms : Int) = (h.stream.length : Int)), ?_, ?_⟩
  ·
   rw [decide_eq_true_eq]; exact ⟨fun k => ⟨h3', hl', hro, s1, by omega⟩, fun k => by have := k.2.2.2.2; omega⟩
  ·
   cases decide (0 + (Ymw h.rooms : Int) = (h.stream.length : Int)) <;> rfl
 ·
  rw [s2, Wb]; exact ⟨false, ⟨fun x => (by cases x), fun x => by have := x.2.2.2.1 i hi; rw [s1] at this; cases this⟩, rfl⟩
end Go.Proofs.YtbgichfjcnibpaaGreat
namespace Go.Proofs.YtbgichfjcnibpaaGreat
open Go Go.Abs

def accG (g : Y92) : List Pr := (accT g.events (okB g)).map fun id => (g.room, id)
def accA (l : List Y92) : List Pr := l.flatMap accG
theorem Yn4 : ∀ l : List Y92, (accA l).length = Ymw l
 | [] => rfl
 | g :: l => by
  unfold accA Ymw; rw [List.flatMap_cons, List.length_append, List.map_cons, List.sum_cons]; show (accG g).length + (accA l).length = _; rw [Yn4 l]; unfold accG Ymv; rw [List.length_map]; rfl
theorem Yn5 {g : Y92} {y : Pr} : y ∈ accG g ↔ y.1 = g.room ∧ hasE g.events y.2 = true ∧ okB g y.2 = true := by
 unfold accG accT; rw [List.mem_map]; constructor
 ·
  rintro ⟨id, h, rfl⟩; obtain ⟨h1, h2⟩ := List.mem_filter.1 h; exact ⟨rfl, Yjt.2 h1, h2⟩
 ·
  rintro ⟨h1, h2, h3⟩; exact ⟨y.2, List.mem_filter.2 ⟨Yjt.1 h2, h3⟩, Prod.ext h1.symm rfl⟩
theorem Ymp.inj {h : Y93} (k : Ymp h) {g g' : Y92} (hg : g ∈ h.rooms) (hg' : g' ∈ h.rooms) (e : g.room = g'.room) : g = g' := by
 obtain ⟨i, hi, rfl⟩ := List.mem_iff_getElem.1 hg; obtain ⟨j, hj, rfl⟩ := List.mem_iff_getElem.1 hg'; rw [(k i hi).2, (k j hj).2] at e; obtain rfl : i = j := by omega
 rfl
theorem Yn6 {h : Y93} (k : Ymp h) : (accA h.rooms).Nodup := by
 unfold accA; rw [List.nodup_iff_pairwise_ne, List.pairwise_flatMap]; constructor
 ·
  intro g hg; unfold accG; rw [List.pairwise_map]; exact (Ylg (k.right g hg).fits _).imp fun {a b} h e => by have := (Prod.mk.inj e).2; omega
 ·
  rw [List.pairwise_iff_getElem]; intro i j hi hj hij x hx y hy e; have h1 := (Yn5.1 hx).1; have h2 := (Yn5.1 hy).1; rw [(k i hi).2] at h1; rw [(k j hj).2] at h2; rw [e] at h1; omega
theorem Yn7 {h : Y93} (k : Ymp h) {g : Y92} (hg : g ∈ h.rooms) {id : Int} : (g.room, id) ∈ accA h.rooms ↔ hasE g.events id = true ∧ okB g id = true := by
 unfold accA; rw [List.mem_flatMap]; constructor
 ·
  rintro ⟨g', h1, h2⟩; obtain ⟨h3, h4⟩ := Yn5.1 h2; obtain rfl := k.inj hg h1 h3; exact h4
 ·
  exact fun h' => ⟨g, hg, Yn5.2 ⟨rfl, h'⟩⟩

theorem Yn8 {s : List Pr} {g : Y92} (h : ∀ e ∈ g.events, okB g e.id = inS s g e) : Yma s g = Ymv g := by
 unfold Yma Ymv accT; rw [List.filter_map, List.length_map]; exact congrArg List.length (List.filter_congr fun e he => (h e he).symm)
theorem Yn9 {s : List Pr} : ∀ {l : List Y92}, (∀ g ∈ l, ∀ e ∈ g.events, okB g e.id = inS s g e) → Ymb s l = Ymw l
 | [], _ => rfl
 | g :: l, h => by
  unfold Ymb Ymw; rw [List.map_cons, List.map_cons, List.sum_cons, List.sum_cons, Yn8 (h g (by simp))]; have := Yn9 (s := s) (l := l) fun g' hg' => h g' (by simp [hg']); unfold Ymb Ymw at this; rw [this]

structure Yna (h : Y93) : Prop where
 three : h.rooms.length = 3
 slen : h.stream.length ≤ 120
 rooms : Ymp h
 nodup : (prs h.stream).Nodup
 all : ∀ y, y ∈ prs h.stream ↔ y ∈ accA h.rooms

theorem OkI.hub {h : Y93} (k : OkI h) : Yna h := by
 obtain ⟨h3, hl, hro, hst, hle⟩ := k
 have hX : ∀ (i : Nat) (hi : i < h.stream.length), stX h i h.stream[i] = true := fun i hi => by
  have := hst i hi; unfold stB at this; rwa [dif_pos hi] at this
 have hnd : (prs h.stream).Nodup := Ym2.2 fun i hi => by
  have hi' : i < h.stream.length := by rw [Yms] at hi; exact hi
  have := hX i hi'; unfold stX at this; simp only [Bool.and_eq_true] at this; rw [Ymr hi']; simpa using this.1.1.1.2
 have hsub : ∀ y ∈ prs h.stream, y ∈ accA h.rooms := fun y hy => by
  obtain ⟨i, hi, rfl⟩ := List.mem_iff_getElem.1 hy; have hi' : i < h.stream.length := by rw [Yms] at hi; exact hi
  have := hX i hi'; unfold stX at this; simp only [Bool.and_eq_true, decide_eq_true_eq] at this; obtain ⟨k, hk, k1, _, k3⟩ := Ymz h3 this.1.1.1.1; rw [Ymr hi']; rw [k3] at this; have hr : h.stream[i].room = h.rooms[k].room := by rw [(hro k hk).2]; exact k1
  rw [hr]; exact (Yn7 hro (Wm hk)).2 ⟨this.1.1.2, this.1.2⟩
 refine ⟨h3, hl, hro, hnd, fun y => ⟨hsub y, Ym4 hnd hsub (by rw [Yn4, Yms]; omega) y⟩⟩

theorem Yna.inS {h : Y93} (k : Yna h) {g : Y92} (hg : g ∈ h.rooms) {e : Y8z} (he : e ∈ g.events) : okB g e.id = inS (prs h.stream) g e := by
 unfold Go.Proofs.YtbgichfjcnibpaaGreat.inS; rw [Bool.eq_iff_iff, decide_eq_true_eq, Ylx, k.all, Yn7 k.rooms hg]; exact ⟨fun h' => ⟨Yff.2 ⟨e, he, rfl⟩, h'⟩, fun h' => h'.2⟩

theorem Ynb {h : Y93} : OkI h ↔ OkS h := by
 constructor
 ·
  intro k; have hu := k.hub; obtain ⟨h3, hl, hro, hst, hle⟩ := k; refine ⟨h3, hl, hro, hu.nodup, fun g hg e he => ?_, by rw [Yn9 fun g hg e he => hu.inS hg he]; exact hle⟩; unfold strE; rw [hu.inS hg he]
  cases hin : inS (prs h.stream) g e with
  | false => rfl
  | true =>
   simp only [beq_self_eq_true, Bool.not_true, Bool.false_or, Bool.true_and, List.all_eq_true, decide_eq_true_eq]; intro p hp; have hin' : 0 < posP (prs h.stream) (g.room, e.id) := by simpa [inS] using hin
   have hy := Ylx.1 hin'; obtain ⟨i, hi, hiy⟩ := List.mem_iff_getElem.1 hy; have hi' : i < h.stream.length := by rw [Yms] at hi; exact hi
   have hpi : posP (prs h.stream) (g.room, e.id) = (i : Int) + 1 := by
    unfold posP; rw [if_pos hy, ← hiy, Ym1 hu.nodup hi]
   have hx := hst i hi'; unfold stB at hx; rw [dif_pos hi'] at hx; unfold stX at hx; simp only [Bool.and_eq_true, decide_eq_true_eq] at hx; rw [Ymr hi'] at hiy; obtain ⟨e1, e2⟩ := Prod.mk.inj hiy; obtain ⟨k, hk, k1, _, k3⟩ := Ymz h3 hx.1.1.1.1; have hgk : h.rooms[k] = g := hro.inj (Wm hk) hg (by rw [(hro k hk).2, ← k1, e1]); rw [k3, hgk, e1, e2] at hx; have hev : evD g.events e.id = e := by unfold evD; rw [(hro.right g hg).fits.up.evAt_mem he]; rfl
   rw [hev] at hx; have hpp := List.all_eq_true.1 hx.2 p hp; simp only [Bool.or_eq_true, Bool.not_eq_true', decide_eq_true_eq] at hpp; rcases hpp with hpp | hpp
   ·
    have : (g.room, p) ∉ prs h.stream := fun hm => by
     have := ((Yn7 hro hg).1 ((hu.all _).1 hm)).2; rw [hpp] at this; cases this
    have h0 : posP (prs h.stream) (g.room, p) = 0 := by unfold posP; rw [if_neg this]
    omega
   ·
    have := ((Ylz (by omega)).1 hpp).2; omega
 ·
  rintro ⟨h3, hl, hro, hnd, hst, hma⟩
  have hok : ∀ g ∈ h.rooms, ∀ e ∈ g.events, okB g e.id = inS (prs h.stream) g e := fun g hg e he => by
   have := hst g hg e he; unfold strE at this; rw [Bool.and_eq_true] at this; simpa using this.1
  have hle : Ymw h.rooms = h.stream.length := by rw [← Yn9 hok]; exact hma
  have hsub : ∀ y ∈ accA h.rooms, y ∈ prs h.stream := fun y hy => by
   unfold accA at hy; obtain ⟨g, hg, hy⟩ := List.mem_flatMap.1 hy; obtain ⟨h1, h2, h4⟩ := Yn5.1 hy; obtain ⟨e, he, h5⟩ := Yff.1 h2; have := hok g hg e he; rw [h5, h4] at this; have h6 : 0 < posP (prs h.stream) (g.room, e.id) := by simpa [inS] using this.symm
   have := Ylx.1 h6; rw [h5, ← h1] at this; exact this
  have hall := Ym4 (Yn6 hro) hsub (by rw [Yn4, Yms]; omega); refine ⟨h3, hl, hro, fun i hi => ?_, hle⟩; have hil : i < (prs h.stream).length := by rw [Yms]; exact hi
  have hmem : (h.stream[i].room, h.stream[i].id) ∈ prs h.stream := by rw [← Ymr hi hil]; exact Wm _
  have hacc := hall _ hmem; unfold accA at hacc; obtain ⟨g, hg, hy⟩ := List.mem_flatMap.1 hacc; obtain ⟨h1, h2, h4⟩ := Yn5.1 hy; simp only at h1 h2 h4; obtain ⟨k, hk, hkg⟩ := List.mem_iff_getElem.1 hg; have hroom : g.room = (k : Int) + 1 := by rw [← hkg]; exact (hro k hk).2
  have hx : 1 ≤ h.stream[i].room ∧ h.stream[i].room ≤ 3 := by omega
  obtain ⟨k', hk', k1, _, k3⟩ := Ymz h3 hx; obtain rfl : k' = k := by omega
  rw [hkg] at k3; have hnt := Ym2.1 hnd i hil; rw [Ymr hi] at hnt; unfold stB; rw [dif_pos hi]; unfold stX; rw [k3, h2, h4, Wt hx, Wf hnt]; simp only [Bool.not_false, Bool.true_and, List.all_eq_true, Bool.or_eq_true, Bool.not_eq_true', decide_eq_true_eq]; intro p hp
  cases hop : okB g p with
  | false => exact .inl rfl
  | true =>
   right; have hr := hro.right g hg; obtain ⟨_, e2, e3⟩ := Yjj (Yjt.1 h2) hr.fits.up; have hse := hst g hg _ e2; unfold strE at hse; rw [Bool.and_eq_true] at hse; have hine : inS (prs h.stream) g (evD g.events h.stream[i].id) = true := by rw [← hok g hg _ e2, e3]; exact h4
   rw [hine] at hse; simp only [Bool.not_true, Bool.false_or, List.all_eq_true, decide_eq_true_eq] at hse; have hlt := hse.2 p hp; rw [e3, ← h1] at hlt
   have hpi : posP (prs h.stream) (h.stream[i].room, h.stream[i].id) = (i : Int) + 1 := by
    unfold posP; rw [if_pos hmem]; have := Ym1 hnd hil; rw [Ymr hi] at this; rw [this]
   obtain ⟨ep, hep, hepi⟩ := Yff.1 (hr.fits.whole _ e2 p hp); have hinp := hok g hg ep hep; rw [hepi, hop] at hinp; have h7 : 0 < posP (prs h.stream) (g.room, ep.id) := by simpa [inS] using hinp.symm
   rw [hepi, ← h1] at h7; exact (Ylz (by omega)).2 ⟨h7, by omega⟩

theorem Ync {h : Y93} (hf : Ymm h) : ∃ b : Bool, (b = true → Yna h) ∧ Z6z h = some (cond b (wOf h, true) (zW, false)) ∧ Zfy h = some (cond b (sOf h, true) (zS, false)) := by
 obtain ⟨b, b1, b2⟩ := Ymu hf; obtain ⟨c, c1, c2⟩ := Yn3 hf; have : b = c := by rw [Bool.eq_iff_iff, b1, c1]; exact Ynb.symm
 subst this; exact ⟨b, fun x => (c1.1 x).hub, b2, c2⟩
end Go.Proofs.YtbgichfjcnibpaaGreat
namespace Go.Proofs.YtbgichfjcnibpaaGreat
open Go Go.Abs


def wtG {α : Type} (n : α → Nat) (l : List α) : Nat := (l.map n).sum
theorem Ynd {α : Type} (n : α → Nat) {l : List α} {i : Nat} (hi : i < l.length) : wtG n (l.take (i + 1)) = wtG n (l.take i) + n l[i] := by
 rw [List.take_add_one, We hi]; show ((List.take i l ++ [l[i]]).map n).sum = ((List.take i l).map n).sum + n l[i]; rw [List.map_append, List.sum_append]; simp only [List.map_cons, List.map_nil, List.sum_cons, List.sum_nil, Nat.add_zero]
def nG (g : Y90) : Nat := g.events.length + g.parked.length
def nG' (g : Y92) : Nat := g.events.length + g.parked.length

structure HIn (h : THub) : Prop where
 rl : h.rooms.length ≤ maxLen
 rg : ∀ g ∈ h.rooms, GIn g
 sl : h.stream.length ≤ maxLen
structure Yne (h : THub) : Prop where
 rl : h.rooms.length ≤ 1048576
 rg : ∀ g ∈ h.rooms, Ykp g.events ∧ Ykp g.parked
 wt : wtG nG h.rooms ≤ 1048576
 sl : h.stream.length ≤ 1048576

theorem Ynf (p : List Y90) (n : Int) (hl : p.length ≤ maxLen) (hp : ∀ g ∈ p, GIn g) (h0 : 0 ≤ n) (hn : n ≤ 1048576) : ∃ r, Zd p n = some r ∧ ((0 ≤ r ∧ r + (p.length + wtG nG p : Nat) ≤ n ∧ ∀ g ∈ p, Ykp g.events ∧ Ykp g.parked) ∨ r = -1) := by
 simp only [maxLen] at hl; unfold Zd; rw [Y4i (by omega) (by omega)]
 by_cases h : n - (p.length : Int) < 0
 ·
  rw [Wt h]; exact ⟨_, rfl, .inr rfl⟩
 ·
  rw [Wf h, Wv]
  obtain ⟨o, h1, h2⟩ := Yeb (τ := Int × Int) (ω := Int ⊕ Int) (σ := Int) (step := fun z : Int × Int => Zc p z.1 z.2) (n := p.length) (fun s j => (s, j))
   (fun i s => 0 ≤ s ∧ s + (p.length + wtG nG (p.take i) : Nat) ≤ n ∧ ∀ (j : Nat) (hj : j < p.length), j < i → Ykp p[j].events ∧ Ykp p[j].parked) (fun o => o = .inl (-1) ∨ ∃ r, o = .inr r ∧ 0 ≤ r ∧ r + (p.length + wtG nG p : Nat) ≤ n ∧ ∀ g ∈ p, Ykp g.events ∧ Ykp g.parked) (by omega) (by
   rintro i s hi ⟨hs0, hsn, hI⟩; obtain ⟨r, e1, e2⟩ := Ykr p[i] s (hp _ (Wm hi)) hs0 (by omega); simp only [Zc]; rw [dlt hi, Wu, Yec hi, Wb, e1, Wb, Yed hi (by omega)]; rcases e2 with ⟨e2, e3, e4⟩ | rfl
   ·
    rw [Wf (by omega), Wv]; refine .inl ⟨r, rfl, e2, by have hng : nG p[i] = p[i].events.length + p[i].parked.length := rfl; rw [Ynd nG hi]; omega, fun j hj hji => ?_⟩; rcases Nat.lt_or_ge j i with h | h
    ·
     exact hI j hj h
    ·
     obtain rfl : j = i := by omega
     exact e4
   ·
    exact .inr ⟨_, rfl, .inl rfl⟩) (by
   rintro s ⟨hs0, hsn, hI⟩; simp only [Zc]; rw [dnlt, Wv]; rw [List.take_length] at hsn; refine ⟨_, rfl, .inr ⟨s, rfl, hs0, hsn, fun e he => ?_⟩⟩; obtain ⟨j, hj, rfl⟩ := List.mem_iff_getElem.1 he
   exact hI j hj hj) (s := n - (p.length : Int)) ⟨by omega, by simp [wtG], fun j hj h => by omega⟩
  rw [h1, Wb]; rcases h2 with rfl | ⟨r, rfl, h3⟩
  ·
   exact ⟨_, rfl, .inr rfl⟩
  ·
   exact ⟨_, rfl, .inl h3⟩

theorem Yng (h : THub) (n : Int) (hh : HIn h) (h0 : 0 ≤ n) (hn : n ≤ 1048576) : ∃ r, Zh h n = some r ∧ ((0 ≤ r ∧ r ≤ n ∧ Yne h) ∨ r = -1) := by
 have hsl := hh.sl; simp only [maxLen] at hsl; unfold Zh; obtain ⟨r, h1, h2⟩ := Ynf h.rooms n hh.rl hh.rg h0 hn; rw [h1, Wb]; rcases h2 with ⟨h2, h3, h4⟩ | rfl
 ·
  rw [Wf (by omega), Wv]; unfold Zf; rw [Y4i (by omega) (by omega)]
  by_cases h5 : r - (h.stream.length : Int) < 0
  ·
   rw [Wt h5]; exact ⟨_, rfl, .inr rfl⟩
  ·
   rw [Wf h5, Wv, Wb, Wf h5]; exact ⟨_, rfl, .inl ⟨by omega, by omega, by omega, h4, by omega, by omega⟩⟩
 ·
  exact ⟨_, rfl, .inr rfl⟩


def toH (h : THub) : Y93 := ⟨h.rooms.map toG, h.stream⟩
theorem Ynh (p : List Y90) (hl : p.length ≤ 1048576) (hp : ∀ g ∈ p, Ykp g.events ∧ Ykp g.parked) : Zx p = some (p.map toG) := by
 unfold Zx; rw [Y4j (Wt ⟨by omega, by omega⟩), Wb, Int.toNat_natCast]
 rw [Yks (xs := p) toG (by omega) (fun i s hi hs => by
  have := hp _ (Wm hi); simp only [Zw]
  rw [dlt hi, Wu, Yec hi, Wb, Ykw _ this.1 this.2, Wb, Yec (by omega : i < s.length), Wb, Yed hi (by omega), Int.toNat_natCast]) (fun s => by simp only [Zw]; rw [dnlt, Wv])]
 rfl
theorem Yni (p : List Y91) (hl : p.length ≤ 1048576) : Z13 p = some p := by
 unfold Z13; rw [Y4j (Wt ⟨by omega, by omega⟩), Wb, Int.toNat_natCast]
 rw [Yks (xs := p) (fun x => x) (by omega) (fun i s hi hs => by
  simp only [Z12]; rw [dlt hi, Wu, Yec hi, Wb]; unfold Zz
  rw [Wb, Yec (by omega : i < s.length), Wb, Yed hi (by omega), Int.toNat_natCast]) (fun s => by simp only [Z12]; rw [dnlt, Wv])]
 simp [Z11]
theorem Ynj (h : THub) (hs : Yne h) : Z15 h = some (toH h) := by
 unfold Z15; rw [Ynh _ hs.rl hs.rg, Wb, Yni _ hs.sl]; rfl


theorem Ynk (p : List Y92) (hl : p.length ≤ 1048576) (hp : ∀ g ∈ p, Ykp g.events ∧ Ykp g.parked) : Zjg p p = some true := by
 unfold Zjg; rw [bned, Wt rfl]; simp only [Bool.not_true, Wv]
 rw [Yes (l := p) (fun _ => true) (.inl false) (.inr ()) (by omega) (fun i hi => by
  have := hp _ (Wm hi); simp only [Zjf]
  rw [dlt hi, Wu, Yec hi, Wb, Wb, Yl1 _ this.1 this.2, Wb, Yed hi (by omega)]; rfl) (by simp only [Zjf]; rw [dnlt, Wv])]
 rw [show (p.all fun _ => true) = true by simp]; rfl
theorem Ynl (p : List Y91) (hl : p.length ≤ 1048576) : Zjm p p = some true := by
 unfold Zjm; rw [bned, Wt rfl]; simp only [Bool.not_true, Wv]
 rw [Yes (l := p) (fun _ => true) (.inl false) (.inr ()) (by omega) (fun i hi => by
  simp only [Zjl]
  rw [dlt hi, Wu, Yec hi, Wb, Wb, show Zji p[i] p[i] = some true by simp [Zji], Wb, Yed hi (by omega)]; rfl) (by simp only [Zjl]; rw [dnlt, Wv])]
 rw [show (p.all fun _ => true) = true by simp]; rfl
theorem Ynm {h : THub} (hs : Yne h) : ∀ g ∈ (toH h).rooms, Ykp g.events ∧ Ykp g.parked := fun g hg => by
 obtain ⟨g0, h1, rfl⟩ := List.mem_map.1 hg; exact hs.rg g0 h1
theorem Ynn {h : THub} (hs : Yne h) : Zjo (toH h) (toH h) = some true := by
 unfold Zjo; rw [Ynk _ (by show (h.rooms.map toG).length ≤ _; rw [List.length_map]; exact hs.rl) (Ynm hs), Wb, Wu]; show (Zjm h.stream h.stream).bind _ = _; rw [Ynl _ hs.sl]; rfl
theorem w1 (x : Int) (h0 : 0 ≤ x) (h1 : x ≤ 1000000000000000) : IntKind.i64.wrap (x + 1) = x + 1 := Y4i (by omega) (by omega)

theorem Yno (p : List Y92) (n : Int) (hl : p.length ≤ 1048576) (hp : ∀ g ∈ p, Ykp g.events ∧ Ykp g.parked) (hw : wtG nG' p ≤ 1048576) (h0 : 0 ≤ n) (hn : n ≤ 1000000) : ∃ r, Zk4 p n = some r ∧ 0 ≤ r.1 ∧ r.1 ≤ 10000000000000 := by
 unfold Zk4
 obtain ⟨o, e1, e2⟩ := Yea (τ := List Y92 × Int × Int) (ω := Int × List Y92) (σ := List Y92 × Int) (step := fun z : List Y92 × Int × Int => Zk3 z.1 z.2.1 z.2.2) (n := p.length) (fun s j => (s.1, s.2, j)) (fun i s => s.1.length = p.length ∧ s.1.drop i = p.drop i ∧ 0 ≤ s.2 ∧ s.2 ≤ n + i + (wtG nG' (p.take i) : Int) * 2000000) (fun o => 0 ≤ o.1 ∧ o.1 ≤ 10000000000000) (by omega) (by
  rintro i ⟨l, k⟩ hi ⟨hll, hd, hk0, hk⟩; simp only at hll hd hk0 hk; have hil : i < l.length := by omega
  have hli : l[i] = p[i] := by
   have := congrArg (fun x : List Y92 => x[0]?) hd; simpa [List.getElem?_drop, hil, hi] using this
  have hwt := Ynd nG' hi
  have hle : wtG nG' (p.take (i + 1)) ≤ wtG nG' p := by
   have e := List.take_append_drop (i + 1) p
   have : wtG nG' p = wtG nG' (p.take (i + 1)) + wtG nG' (p.drop (i + 1)) := by
    conv => lhs; rw [← e]
    unfold wtG; rw [List.map_append, List.sum_append]
   omega
  have hsm := hp _ (Wm hi); obtain ⟨r, a1, a2, a3⟩ := Yla p[i].events (k + 1) hsm.1 (by omega) (by omega); have hng : nG' p[i] = p[i].events.length + p[i].parked.length := rfl; obtain ⟨r', b1, b2, b3⟩ := Yla p[i].parked r.1 hsm.2 a2 (by omega); simp only [Zk3]; rw [Wt (by omega : (i : Int) < (l.length : Int)), Wu, Yec hil, Wb, w1 k hk0 (by omega)]; simp only [Int.toNat_natCast, Yl9, List.length_set, hil, Wb, hli, a1, b1, Yed hi (by omega : p.length < 9223372036854775807)]; refine ⟨(_, _), rfl, by simp [hll], ?_, b2, by show r'.1 ≤ n + ((i + 1 : Nat) : Int) + (wtG nG' (p.take (i + 1)) : Int) * 2000000; omega⟩; simp only; rw [List.drop_set_of_lt (by omega), List.drop_set_of_lt (by omega), List.drop_set_of_lt (by omega)]; have := congrArg (List.drop 1) hd
  rwa [List.drop_drop, List.drop_drop] at this) (by
  rintro ⟨l, k⟩ ⟨hll, _, hk0, hk⟩; simp only at hll hk0 hk; simp only [Zk3]; rw [hll, dnlt, Wv]; rw [List.take_length] at hk
  exact ⟨_, rfl, hk0, by simp only; omega⟩) (s := (p, n)) ⟨rfl, rfl, h0, by simp [wtG]⟩
 rw [e1, Wb]; exact ⟨_, rfl, e2⟩

theorem Ynp (p : List Y91) (n : Int) (hl : p.length ≤ 1048576) (h0 : 0 ≤ n) (hn : n ≤ 10000000000000) : ∃ r, Zk8 p n = some r ∧ 0 ≤ r.1 ∧ r.1 ≤ n + 2 * p.length := by
 unfold Zk8
 obtain ⟨o, e1, e2⟩ := Yea (τ := List Y91 × Int × Int) (ω := Int × List Y91) (σ := List Y91 × Int) (step := fun z : List Y91 × Int × Int => Zk7 z.1 z.2.1 z.2.2) (n := p.length) (fun s j => (s.1, s.2, j)) (fun i s => s.1.length = p.length ∧ 0 ≤ s.2 ∧ s.2 ≤ n + 2 * i) (fun o => 0 ≤ o.1 ∧ o.1 ≤ n + 2 * p.length) (by omega) (by
  rintro i ⟨l, k⟩ hi ⟨hll, hk0, hk⟩; simp only at hll hk0 hk; have hil : i < l.length := by omega
  simp only [Zk7]; rw [Wt (by omega : (i : Int) < (l.length : Int)), Wu, Yec hil, Wb, w1 k hk0 (by omega), w1 (k + 1) (by omega) (by omega)]; simp only [Int.toNat_natCast, Yl9, hil, Wb, Yed hi (by omega : p.length < 9223372036854775807)]
  exact ⟨(_, _), rfl, by simp [hll], by simp only; omega, by simp only; omega⟩) (by
  rintro ⟨l, k⟩ ⟨hll, hk0, hk⟩; simp only at hll hk0 hk; simp only [Zk7]; rw [hll, dnlt, Wv]
  exact ⟨_, rfl, hk0, hk⟩) (s := (p, n)) ⟨rfl, h0, by simp⟩
 rw [e1, Wb]; exact ⟨_, rfl, e2⟩

theorem Ynq {h : THub} (hs : Yne h) (n : Int) (h0 : 0 ≤ n) (hn : n ≤ 1000000) : ∃ r, Zka (toH h) n = some r ∧ 0 ≤ r.1 ∧ r.1 ≤ 10000002097152 := by
 have hwt : wtG nG' (toH h).rooms = wtG nG h.rooms := by
  show wtG nG' (h.rooms.map toG) = _; unfold wtG; rw [List.map_map]; rfl
 have hsl := hs.sl; obtain ⟨r, a1, a2, a3⟩ := Yno (toH h).rooms n (by show (h.rooms.map toG).length ≤ _; rw [List.length_map]; exact hs.rl) (Ynm hs) (by rw [hwt]; exact hs.wt) h0 hn; obtain ⟨r', b1, b2, b3⟩ := Ynp h.stream r.1 hs.sl a2 a3; unfold Zka; rw [a1, Wb]; show ∃ x, (Zk8 h.stream r.1).bind _ = some x ∧ _; rw [b1]; exact ⟨_, rfl, b2, by simp only; omega⟩

end Go.Proofs.YtbgichfjcnibpaaGreat
namespace Go.Proofs.YtbgichfjcnibpaaGreat
open Go Go.Abs

structure Ynr (h : Y93) (r : Int) (k : Nat) : Prop where
 lt : k < h.rooms.length
 wrap : IntKind.i64.wrap (r - 1) = (k : Int)
 rm : ∀ hk : k < h.rooms.length, rmG h r = h.rooms[k]
 mem : rmG h r ∈ h.rooms
 room : (rmG h r).room = r
 right : Ykh (rmG h r)
 hist : getI (sOf h).rooms (k : Int) = some (hiG (rmG h r))
 gr : getI (wOf h).h.rooms (k : Int) = some (rmG h r)
 kn : getI (wOf h).rooms (k : Int) = some (knG (rmG h r))
 pos : getI (wOf h).pos (k : Int) = some (posG (prs h.stream) (rmG h r))
 now : getI (wOf h).now (k : Int) = some (nowG (rmG h r))
 both : Both (rmG h r) (hiG (rmG h r)) (knG (rmG h r))
 graph : (hiG (rmG h r)).graph = rmG h r
theorem Yna.room {h : Y93} (u : Yna h) {r : Int} (hr : 1 ≤ r ∧ r ≤ 3) : ∃ k, Ynr h r k := by
 obtain ⟨k, hk, k1, k2, k3⟩ := Ymz u.three hr; have hg : Ykh (rmG h r) := by rw [k3]; exact u.rooms.right _ (Wm hk)
 have hb := (Ym6 hg).2.2; refine ⟨k, hk, k2, fun _ => k3, by rw [k3]; exact Wm hk, by rw [k3, (u.rooms k hk).2]; exact k1.symm, hg, ?_, ?_, ?_, ?_, ?_, hb, hb.graph⟩
 ·
  rw [k3]; exact Ylo hiG hk
 ·
  rw [k3]; exact Yec hk
 ·
  rw [k3]; exact Ylo knG hk
 ·
  rw [k3]; exact Ylo _ hk
 ·
  rw [k3]; exact Ylo nowG hk

end Go.Proofs.YtbgichfjcnibpaaGreat
namespace Go.Proofs.YtbgichfjcnibpaaGreat
open Go Go.Abs

theorem EvOk.sight {e : Y8z} (h : EvOk e) (hk : e.kind = 6) : 1 ≤ e.n ∧ e.n ≤ 3 := by
 have := h.body; unfold Yf0 Z1t Z1l Z1m Z1n Z1o Z1p Z1q Z1r Z1s at this; simp only [Yei, Yeg, Yeh, Wb, hk] at this
 by_cases h1 : 1 ≤ e.n ∧ e.n ≤ 3
 ·
  exact h1
 ·
  simp [h1] at this

def sgt (l : List Y8z) (s : List Y94) : Int := match cur l s 6 0 with
 | some e => e.n
 | none => 2

theorem Yns {g : Y92} (hr : Ykh g) {s : List Y94} (hs : StOk g.events s) : Z75 g s = some (sgt g.events s) ∧ Zg9 g s = some (sgt g.events s) := by
 have h := hr.sts hs; unfold Z75 Zg9 sgt; rw [Yia h.ids h.len h.ok h.sl, Yi8 h.up h.len h.ok.up h.sl, Wb, Wb]
 cases hc : cur g.events s 6 0 with
 | none => exact ⟨rfl, rfl⟩
 | some e =>
  have hk : e.kind = 6 ∧ e ∈ g.events := by
   unfold cur at hc; rcases Yi5 s 6 0 with ⟨h0, _⟩ | ⟨x, hx, h1, _, h2⟩
   ·
    rw [h0, no0 h.ids (Int.le_refl 0)] at hc; cases hc
   ·
    obtain ⟨e', k1, k2, _⟩ := hs.ev x hx; rw [h2, k1] at hc; cases hc; exact ⟨k2.trans h1, (Yfg k1).1⟩
  have := (hr.ev e hk.2).sight hk.1; simp only [Option.getD_some, Option.isSome_some, Wu]; rw [beqd, Wf (by omega)]; exact ⟨rfl, trivial⟩


theorem Ynt {h : Y93} (u : Yna h) (r id : Int) : Zhu (sOf h) r id = some (posP (prs h.stream) (r, id)) := by
 have hsl := u.slen; unfold Zhu Zg7; show ((iter (Zg6 h.stream (Y91.mk r id)) big 0).bind _).bind _ = _
 rw [Yev (Yeq (l := h.stream) (step := Zg6 h.stream (Y91.mk r id)) (fun x => decide ((x.room, x.id) = (r, id))) (by omega) (fun i hi => by
  simp only [Zg6]; rw [dlt hi, Wu, Yec hi, Wb, eqSp, Yed hi (by omega)]
  cases decide ((h.stream[i].room, h.stream[i].id) = (r, id)) <;> rfl) (by simp only [Zg6]; rw [dnlt, Wv])) (fun _ => rfl) rfl, Wb]
 unfold idxP
 cases hf : h.stream.findIdx? (fun x => decide ((x.room, x.id) = (r, id))) with
 | none =>
  rw [List.findIdx?_eq_none_iff] at hf
  have : (r, id) ∉ prs h.stream := fun hm => by
   obtain ⟨x, hx, e⟩ := List.mem_map.1 hm; have := hf x hx; rw [decide_eq_false_iff_not] at this; exact this e
  unfold posP
  rw [if_neg this]; rfl
 | some k =>
  obtain ⟨hk, hp, _⟩ := List.findIdx?_eq_some_iff_getElem.1 hf; rw [decide_eq_true_eq] at hp; have hkl : k < (prs h.stream).length := by rw [Yms]; exact hk
  have e : (prs h.stream)[k] = (r, id) := by rw [Ymr hk]; exact hp
  have hm : (r, id) ∈ prs h.stream := by rw [← e]; exact Wm _
  have hi := Ym1 u.nodup hkl; rw [e] at hi; unfold posP; rw [if_pos hm, hi]; simp only; rw [Y4i (by omega) (by omega)]


def seeE (g : Y92) (user : Int) (e : Y8z) : Bool :=
 decide (mbr g.events (behI (hiG g).after e.id) user = 1) || decide (sgt g.events (behI (hiG g).after e.id) = 1) || (decide (e.kind = 2) && decide (e.key = user)) || (decide (sgt g.events (behI (hiG g).after e.id) = 2) && decide (mbr g.events (nowG g) user = 1))
def seeB (h : Y93) (user r id : Int) : Bool := decide ((r, id) ∈ prs h.stream) && seeE (rmG h r) user (evD (rmG h r).events id)

theorem Yna.event {h : Y93} (u : Yna h) {r : Int} {k : Nat} (q : Ynr h r k) {id : Int} (hm : (r, id) ∈ prs h.stream) : evAt (rmG h r).events id = some (evD (rmG h r).events id) ∧ evD (rmG h r).events id ∈ (rmG h r).events ∧ (evD (rmG h r).events id).id = id := by
 have hm' := (u.all _).1 hm; rw [← q.room] at hm'; exact Yjj (Yjt.1 ((Yn7 u.rooms q.mem).1 hm').1) q.right.fits.up

theorem Ynu {g : Y92} (hr : Ykh g) : StOk g.events (nowG g) := (Yls (Ym6 hr).2.2 hr (okB g)).2

theorem Ynv {g : Y92} (hr : Ykh g) : Zhl (hiG g) = some (nowG g) := by
 have hb := (Ym6 hr).2.2; have hr' : Ykh (hiG g).graph := by rw [hb.graph]; exact hr
 have hac : Zfc (hiG g) = some (accT g.events (okB g)) := by
  have := Ylc (h := hiG g) hr'; rw [hb.graph] at this; exact this
 have hen : Zgx (hiG g) (accT g.events (okB g)) = some (endsT g.events (okB g)) := by
  have := Ylk (h := hiG g) (ids := accT g.events (okB g)) (T := okB g) hr' ((Ylg hr.fits _).imp fun {a b} h => by omega) (fun x => by rw [hb.graph]); rw [hb.graph] at this; exact this
 unfold Zhl Zgz; rw [hac, Wb, hen]; exact (Yls hb hr (okB g)).1

theorem Ynw {h : Y93} (u : Yna h) (user : Int) {r : Int} (hr : 1 ≤ r ∧ r ≤ 3) : Zhy (sOf h) user r = some (decide (mbr (rmG h r).events (nowG (rmG h r)) user = 1)) := by
 obtain ⟨k, q⟩ := u.room hr; have e1 : Zhw (sOf h) r = some (hiG (rmG h r)) := by unfold Zhw; rw [q.wrap, q.hist]; rfl
 unfold Zhy; rw [e1, Wb, Ynv q.right, Wb, q.graph, Yib (q.right.sts (Ynu q.right)), Wb, beqd]

theorem Ynx {h : Y93} (u : Yna h) (user : Int) {r : Int} (id : Int) (hr : 1 ≤ r ∧ r ≤ 3) : Zi2 (sOf h) user r id = some (seeB h user r id) := by
 obtain ⟨k, q⟩ := u.room hr; have hfl := q.right.fits.len; have e1 : Zhw (sOf h) r = some (hiG (rmG h r)) := by unfold Zhw; rw [q.wrap, q.hist]; rfl
 unfold Zi2 seeB; rw [Ynt u, Wb, beqd]
 by_cases hm : (r, id) ∈ prs h.stream
 rotate_left
 ·
  have h0 : posP (prs h.stream) (r, id) = 0 := by unfold posP; rw [if_neg hm]
  rw [Wt h0, Wf hm]; rfl
 have h0 : ¬ posP (prs h.stream) (r, id) = 0 := fun e => by have := Ylx.2 hm; omega
 rw [Wf h0, Wt hm, Wv, e1, Wb, q.graph, c_at _ _ q.right.fits.up (by omega), Wb]; obtain ⟨v1, v2, v3⟩ := u.event q hm; have hst := (q.both.behind q.right v2).2; rw [v3] at hst; have hmb := Yib (q.right.sts hst) user; have hsg := (Yns q.right hst).2; have hgd : Option.getD (mget (hiG (rmG h r)).after id) ([] : List Y94) = behI (hiG (rmG h r)).after id := rfl; rw [hgd, hmb, Wb, hsg, Wb]; simp only [Zi1, Zi0]; rw [q.graph, hgd, hsg, Wb, Ynw u user hr, Wb]; have hev : Option.getD (evAt (rmG h r).events id) zEv = evD (rmG h r).events id := rfl; rw [hev]; unfold seeE; rw [v3]; simp only [beqd, Bool.true_and]; cases decide (mbr (rmG h r).events (behI (hiG (rmG h r)).after id) user = 1) <;> cases decide (sgt (rmG h r).events (behI (hiG (rmG h r)).after id) = 1) <;> cases decide ((evD (rmG h r).events id).kind = 2) <;> cases decide ((evD (rmG h r).events id).key = user) <;> cases decide (sgt (rmG h r).events (behI (hiG (rmG h r)).after id) = 2) <;> rfl

theorem Yny {h : Y93} (u : Yna h) (user : Int) {r : Int} (hr : 1 ≤ r ∧ r ≤ 3) {k : Nat} (hk : k < (rmG h r).events.length) : Z7c (wOf h) user r (k : Int) = some (seeB h user r (rmG h r).events[k].id) := by
 obtain ⟨j, q⟩ := u.room hr; have hfl := q.right.fits.len; have hkp : k < (posG (prs h.stream) (rmG h r)).length := by unfold posG; rw [List.length_map]; exact hk
 have hem := Wm hk; unfold Z7c seeB; rw [q.wrap, q.pos, Wb, Yec hkp, Wb, Ym7 hk, q.room, beqd]
 by_cases hm : (r, (rmG h r).events[k].id) ∈ prs h.stream
 rotate_left
 ·
  have h0 : posP (prs h.stream) (r, (rmG h r).events[k].id) = 0 := by unfold posP; rw [if_neg hm]
  rw [Wt h0, Wf hm]; rfl
 have h0 : ¬ posP (prs h.stream) (r, (rmG h r).events[k].id) = 0 := fun e => by have := Ylx.2 hm; omega
 have hev : evD (rmG h r).events (rmG h r).events[k].id = (rmG h r).events[k] := by unfold evD; rw [(q.right.fits.up.plc hk).2]; rfl
 obtain ⟨b1, hst⟩ := q.both.behind q.right hem; rw [(q.right.fits.up.plc hk).1] at b1; have hmb := Yic (q.right.sts hst) user; have hsg := (Yns q.right hst).1; have hnm := Yic (q.right.sts (Ynu q.right)) user; rw [Wf h0, Wt hm, Wv, q.gr, Wb, q.kn, Wb, b1, Wb, Yec hk, Wb, hsg, Wb, hmb, Wb]; simp only [Z7b, Z7a]; rw [q.wrap, q.now, Wb, hnm, Wb, hev]; unfold seeE; simp only [beqd, Bool.true_and]; cases decide (mbr (rmG h r).events (behI (hiG (rmG h r)).after (rmG h r).events[k].id) user = 1) <;> cases decide (sgt (rmG h r).events (behI (hiG (rmG h r)).after (rmG h r).events[k].id) = 1) <;> cases decide ((rmG h r).events[k].kind = 2) <;> cases decide ((rmG h r).events[k].key = user) <;> cases decide (sgt (rmG h r).events (behI (hiG (rmG h r)).after (rmG h r).events[k].id) = 2) <;> rfl
end Go.Proofs.YtbgichfjcnibpaaGreat
namespace Go.Proofs.YtbgichfjcnibpaaGreat
open Go Go.Abs

def spA (h : Y93) (i : Nat) : Y91 := h.stream.getD i ⟨0, 0⟩
theorem Ynz {h : Y93} {i : Nat} (hi : i < h.stream.length) : spA h i = h.stream[i] := by
 unfold spA; rw [List.getD_eq_getElem?_getD, We hi]; rfl
def visB (h : Y93) (user r : Int) (i : Nat) : Bool := decide ((spA h i).room = r) && seeB h user r (spA h i).id
def visI (h : Y93) (user r : Int) : List Nat := (List.range h.stream.length).filter (visB h user r)
theorem Yo0 {h : Y93} {user r : Int} {i : Nat} (hi : i ∈ visI h user r) : i < h.stream.length ∧ (spA h i).room = r ∧ seeB h user r (spA h i).id = true := by
 obtain ⟨h1, h2⟩ := List.mem_filter.1 hi; unfold visB at h2; rw [Bool.and_eq_true, decide_eq_true_eq] at h2; exact ⟨by simpa using h1, h2.1, h2.2⟩
theorem Yo1 {h : Y93} (u : Yna h) (user r : Int) : (visI h user r).length ≤ 120 := by
 have := List.length_filter_le (visB h user r) (List.range h.stream.length); rw [List.length_range] at this; have := u.slen; unfold visI; omega

theorem Yo2 {α β : Type} (p : α → Bool) (f : α → β) : ∀ (l : List α) (q : List β), l.foldl (fun q x => if p x = true then q ++ [f x] else q) q = q ++ (l.filter p).map f
 | [], q => by simp
 | x :: l, q => by
  rw [List.foldl_cons, Yo2 p f l]
  cases h : p x with
  | true => rw [if_pos rfl, List.filter_cons_of_pos h]; simp
  | false => rw [if_neg (by simp), List.filter_cons_of_neg (by simp [h])]


theorem Yo3 {h : Y93} (u : Yna h) (user : Int) {r : Int} (lo hi' : Int) (hr : 1 ≤ r ∧ r ≤ 3) :
  Zi8 (sOf h) user r lo hi' = some (((visI h user r).filter fun i : Nat => decide (lo ≤ (i : Int) + 1 ∧ (i : Int) + 1 ≤ hi')).map fun i : Nat => (i : Int) + 1) := by
 have hsl := u.slen; unfold Zi8
 have := Yet (l := List.range h.stream.length) (step := fun z : List Int × Int => Zi7 (sOf h) user r lo hi' z.1 z.2) (fun q j => (q, j)) (fun q => q) (fun q i => if (decide (lo ≤ (i : Int) + 1 ∧ (i : Int) + 1 ≤ hi') && visB h user r i) = true then q ++ [(i : Int) + 1] else q) (fun i q => q.length ≤ i) (by rw [List.length_range]; omega) (fun i q hi hq => by
  rw [List.length_range] at hi; rw [List.getElem_range]; refine ⟨?_, by split <;> first | omega | (rw [List.length_append, List.length_singleton]; omega)⟩; have hw := Yed hi (by omega : h.stream.length < 9223372036854775807); have hw' : ((i + 1 : Nat) : Int) = (i : Int) + 1 := by omega
  have hd : decide ((i : Int) < ((sOf h).hub.stream.length : Int)) = true := dlt hi; have hg : getI (sOf h).hub.stream (i : Int) = some (spA h i) := by rw [Ynz hi]; exact Yec hi
  simp only [Zi7]; rw [hd, Wu, hg, Wb, hw, c_in, Wb, beqd, Ynx u user _ hr, Wb]; unfold visB; rw [hw']; simp only [Zi6, Zi5]; rw [hw, hw', chk8 (by simp; omega), Wb]
  cases decide (lo ≤ (i : Int) + 1 ∧ (i : Int) + 1 ≤ hi') <;> cases decide ((spA h i).room = r) <;> cases seeB h user r (spA h i).id <;> rfl)
  (fun q _ => by
   rw [List.length_range]; have hd : decide ((h.stream.length : Int) < ((sOf h).hub.stream.length : Int)) = false := dnlt _
   simp only [Zi7]; rw [hd, Wv]) (s := []) (by simp)
 rw [this.1, Wb, Yo2]; simp only [Zi4, List.nil_append]; unfold visI; rw [List.filter_filter]


theorem Yo4 {x : Nat} : ∀ {l : List Nat}, l.Nodup → x ∈ l → l.filter (fun y => decide (y = x)) = [x]
 | [], _, h => by cases h
 | a :: l, hn, h => by
  simp only [List.nodup_cons] at hn
  by_cases ha : a = x
  ·
   subst ha; rw [List.filter_cons_of_pos (by simp), List.filter_eq_nil_iff.2 fun y hy => by simp; intro e; exact hn.1 (e ▸ hy)]
  ·
   rw [List.filter_cons_of_neg (by simp [ha])]; exact Yo4 hn.2 ((List.mem_cons.1 h).resolve_left fun e => ha e.symm)

theorem Yo5 {h : Y93} (u : Yna h) {i : Nat} (hi : i < h.stream.length) (y : Pr) : posP (prs h.stream) y = (i : Int) + 1 ↔ y = ((spA h i).room, (spA h i).id) := by
 have hil : i < (prs h.stream).length := by rw [Yms]; exact hi
 have e : (prs h.stream)[i] = ((spA h i).room, (spA h i).id) := by rw [Ynz hi]; exact Ymr hi hil
 constructor
 ·
  intro hp; have hm : y ∈ prs h.stream := Ylx.1 (by omega); have h1 := List.idxOf_lt_length_of_mem hm; unfold posP at hp; rw [if_pos hm] at hp; have h2 : (prs h.stream)[(prs h.stream).idxOf y] = y := List.getElem_idxOf h1; have h3 : (prs h.stream).idxOf y = i := by omega
  rw [← e, ← h2]; congr 1
 ·
  rintro rfl; rw [← e]; unfold posP; rw [if_pos (Wm hil), Ym1 u.nodup hil]

theorem Yo6 {h : Y93} (u : Yna h) (user : Int) {r : Int} (hr : 1 ≤ r ∧ r ≤ 3) {i : Nat} (hi : i < h.stream.length) (l : List Int) (hl : l.length ≤ 10000) :
  iter (fun z : List Int × Int => Z7i (wOf h) user r ((i : Int) + 1) z.1 z.2) big (l, 0) = some (if visB h user r i = true then l ++ [plc (rmG h r).events (spA h i).id] else l) := by
 obtain ⟨k, q⟩ := u.room hr; have hfl := q.right.fits.len; have hpl : (posG (prs h.stream) (rmG h r)).length = (rmG h r).events.length := List.length_map _
 have := Yet (l := List.range (rmG h r).events.length) (step := fun z : List Int × Int => Z7i (wOf h) user r ((i : Int) + 1) z.1 z.2) (fun q j => (q, j)) (fun q => q) (fun q j => if (decide ((posG (prs h.stream) (rmG h r)).getD j 0 = (i : Int) + 1) && seeB h user r ((rmG h r).events.getD j zEv).id) = true then q ++ [(j : Int)] else q) (fun j q => q.length ≤ 10000 + j) (by rw [List.length_range]; omega) (fun j q' hj hq => by
  rw [List.length_range] at hj; rw [List.getElem_range]; refine ⟨?_, by split <;> first | omega | (rw [List.length_append, List.length_singleton]; omega)⟩; have hjp : j < (posG (prs h.stream) (rmG h r)).length := by omega
  have hw := Yed hj (by omega : (rmG h r).events.length < 9223372036854775807); simp only [Z7i]; rw [q.wrap, q.pos, Wb, dlt hjp, Wu, Yec hjp, Wb, beqd, Yny u user hr hj, Wb, List.getD_eq_getElem?_getD, We hjp, List.getD_eq_getElem?_getD, We hj]; simp only [Z7h, Z7g, Option.getD_some]; rw [hw, chk8 (by simp; omega), Wb]
  by_cases hc : (posG (prs h.stream) (rmG h r))[j] = (i : Int) + 1
  ·
   simp only [hc, decide_true]; cases seeB h user r (rmG h r).events[j].id <;> rfl
  ·
   simp only [hc, decide_false]; cases seeB h user r (rmG h r).events[j].id <;> rfl)
  (fun q' _ => by
   rw [List.length_range]; simp only [Z7i]
   rw [q.wrap, q.pos, Wb, hpl, dnlt, Wv]) (s := l) (by omega)
 rw [this.1, Yo2]; congr 1
 by_cases hroom : (spA h i).room = r
 rotate_left
 ·
  have hv : visB h user r i = false := by unfold visB; rw [Wf hroom]; rfl
  rw [hv, List.filter_eq_nil_iff.2 fun j hj => ?_]
  ·
   simp
  ·
   have hj' : j < (rmG h r).events.length := by simpa using hj
   have hjp : j < (posG (prs h.stream) (rmG h r)).length := by omega
   rw [List.getD_eq_getElem?_getD, We hjp, Option.getD_some, Ym7 hj', q.room]; have : ¬ posP (prs h.stream) (r, (rmG h r).events[j].id) = (i : Int) + 1 := fun e => hroom (Prod.mk.inj ((Yo5 u hi _).1 e)).1.symm; rw [Wf this]; simp
 ·
  have hm : (r, (spA h i).id) ∈ prs h.stream := by
   have hil : i < (prs h.stream).length := by rw [Yms]; exact hi
   have e : (prs h.stream)[i] = ((spA h i).room, (spA h i).id) := by rw [Ynz hi]; exact Ymr hi hil
   rw [hroom] at e; rw [← e]; exact Wm _
  obtain ⟨v1, v2, v3⟩ := u.event q hm; obtain ⟨k0, hk0, p1, p2, _⟩ := Yfc (l := (rmG h r).events) (id := (spA h i).id) (Yff.2 ⟨_, v2, v3⟩)
  have hcong : ∀ j ∈ List.range (rmG h r).events.length, (decide ((posG (prs h.stream) (rmG h r)).getD j 0 = (i : Int) + 1) && seeB h user r ((rmG h r).events.getD j zEv).id) = (decide (j = k0) && visB h user r i) := fun j hj => by
   have hj' : j < (rmG h r).events.length := by simpa using hj
   have hjp : j < (posG (prs h.stream) (rmG h r)).length := by omega
   rw [List.getD_eq_getElem?_getD, We hjp, Option.getD_some, Ym7 hj', q.room, List.getD_eq_getElem?_getD, We hj', Option.getD_some]
   have hiff : posP (prs h.stream) (r, (rmG h r).events[j].id) = (i : Int) + 1 ↔ j = k0 := by
    rw [Yo5 u hi, hroom]; constructor
    ·
     intro e; exact q.right.fits.up.inj hj' hk0 (by rw [p2]; exact (Prod.mk.inj e).2)
    ·
     rintro rfl; rw [p2]
   by_cases hjk : j = k0
   ·
    subst hjk; rw [Wt (hiff.2 rfl), Wt rfl, p2]; unfold visB; rw [Wt hroom]; rfl
   ·
    rw [Wf (fun e => hjk (hiff.1 e)), Wf hjk]; rfl
  rw [List.filter_congr hcong, p1]
  cases hv : visB h user r i with
  | false =>
   rw [List.filter_eq_nil_iff.2 fun j _ => by simp]
   simp
  | true =>
   rw [show (fun j => decide (j = k0) && true) = fun j => decide (j = k0) from funext fun j => Bool.and_true _, Yo4 List.nodup_range (by simpa using hk0)]; rfl

def visP (h : Y93) (user r : Int) : List Int := (visI h user r).map fun i => plc (rmG h r).events (spA h i).id

theorem Yo7 {h : Y93} (u : Yna h) (user : Int) {r : Int} (hr : 1 ≤ r ∧ r ≤ 3) : Z7k (wOf h) user r = some (visP h user r) := by
 have hsl := u.slen; unfold Z7k
 obtain ⟨o, e1, rfl⟩ := Yea (τ := List Int × Int) (ω := List Int) (σ := List Int) (step := fun z : List Int × Int => Z7j (wOf h) user r z.1 z.2) (n := h.stream.length) (fun s j => (s, j + 1)) (fun i s => s = ((List.range i).filter (visB h user r)).map fun i => plc (rmG h r).events (spA h i).id) (fun o => o = visP h user r) (by omega) (by
  rintro i s hi rfl; have hle := List.length_filter_le (visB h user r) (List.range i); rw [List.length_range] at hle; have hd : decide ((i : Int) + 1 ≤ ((wOf h).h.stream.length : Int)) = true := Wt (by show (i : Int) + 1 ≤ (h.stream.length : Int); omega); have hrow := Yo6 u user hr hi (((List.range i).filter (visB h user r)).map fun i => plc (rmG h r).events (spA h i).id) (by rw [List.length_map]; omega); simp only [Z7j]; rw [hd, Wu, hrow, Wb]; simp only [Z7f]; rw [Y4i (n := (i : Int) + 1 + 1) (by omega) (by omega)]; refine ⟨_, rfl, ?_⟩; rw [List.range_succ, List.filter_append]
  cases hv : visB h user r i with
  | true => rw [if_pos rfl, List.filter_cons_of_pos hv]; simp
  | false => rw [if_neg (by simp), List.filter_cons_of_neg (by simp [hv])]; simp) (by
  rintro s rfl; have hd : decide ((h.stream.length : Int) + 1 ≤ ((wOf h).h.stream.length : Int)) = false := Wf (by show ¬ (h.stream.length : Int) + 1 ≤ (h.stream.length : Int); omega); simp only [Z7j]; rw [hd, Wv]
  exact ⟨_, rfl, rfl⟩) (s := []) (by simp)
 have e1' : iter (fun z : List Int × Int => Z7j (wOf h) user r z.1 z.2) big ([], 1) = some (visP h user r) := e1; rw [e1']; rfl


end Go.Proofs.YtbgichfjcnibpaaGreat
namespace Go.Proofs.YtbgichfjcnibpaaGreat
open Go Go.Abs


def evA (h : Y93) (r : Int) (i : Nat) : Y8z := evD (rmG h r).events (spA h i).id
def hidP (h : Y93) (r id : Int) (i : Nat) : Bool := decide ((spA h i).room = r) && (decide ((evA h r i).kind = 8) && decide ((evA h r i).key = id))
def hidB (h : Y93) (r id : Int) : Int := match (List.range h.stream.length).find? (hidP h r id) with
 | some i => (spA h i).id
 | none => 0

theorem Yo8 {h : Y93} (u : Yna h) {r : Int} (id : Int) (hr : 1 ≤ r ∧ r ≤ 3) : Zif (sOf h) r id = some (hidB h r id) := by
 obtain ⟨k, q⟩ := u.room hr; have hsl := u.slen; have hfl := q.right.fits.len; have e1 : Zhw (sOf h) r = some (hiG (rmG h r)) := by unfold Zhw; rw [q.wrap, q.hist]; rfl
 unfold Zif hidB
 rcases Ye8 (step := Zie (sOf h) r id) (n := h.stream.length) (fun i => if hidP h r id i = true then some (Sum.inl (spA h i).id) else none) (Sum.inr ()) (by omega) (fun i hi => by
  have hd : decide ((i : Int) < ((sOf h).hub.stream.length : Int)) = true := dlt hi; have hg : getI (sOf h).hub.stream (i : Int) = some (spA h i) := by rw [Ynz hi]; exact Yec hi
  have hw := Yed hi (by omega : h.stream.length < 9223372036854775807); simp only [Zie]; rw [hd, Wu, hg, Wb, bned]; unfold hidP
  by_cases hroom : (spA h i).room = r
  rotate_left
  ·
   rw [Wf hroom]; simp only [Bool.not_false, Wu, Zib, hw]; rfl
  rw [Wt hroom, Bool.not_true, Wv, e1, Wb, q.graph, c_at _ _ q.right.fits.up (by omega), Wb]; have hev : Option.getD (evAt (rmG h r).events (spA h i).id) zEv = evA h r i := rfl; rw [hev]; simp only [Zid, Zic, Zib, hw, beqd, Bool.true_and]
  cases decide ((evA h r i).kind = 8) <;> cases decide ((evA h r i).key = id) <;> rfl) (by
  have hd : decide ((h.stream.length : Int) < ((sOf h).hub.stream.length : Int)) = false := dnlt _
  simp only [Zie]; rw [hd, Wv]) with ⟨i, o, hi, ho, hb, hx⟩ | ⟨hb, hx⟩
 ·
  rw [hx]
  have hp : hidP h r id i = true := by
   by_cases hp : hidP h r id i = true
   ·
    exact hp
   ·
    rw [if_neg hp] at ho; cases ho
  rw [if_pos hp] at ho; cases ho
  have hf : (List.range h.stream.length).find? (hidP h r id) = some i := List.find?_range_eq_some.2 ⟨hp, by simpa using hi, fun j hj => by
   have := hb j hj
   by_cases hq : hidP h r id j = true
   ·
    rw [if_pos hq] at this; cases this
   ·
    simpa using hq⟩
  rw [hf]; rfl
 ·
  rw [hx]
  have hf : (List.range h.stream.length).find? (hidP h r id) = none := List.find?_eq_none.2 fun j hj => by
   have := hb j (by simpa using hj); intro hq; rw [if_pos hq] at this; cases this
  rw [hf]; rfl

def shE (h : Y93) (r : Int) (e : Y8z) : Y97 := if (e.kind = 7 ∨ e.kind = 4) ∧ hidB h r e.id ≠ 0 then ⟨⟨e.id, e.room, e.author, e.kind, e.key, e.n, ByteArray.empty, e.prev, e.time⟩, true⟩ else ⟨e, false⟩

theorem Yo9 {h : Y93} (u : Yna h) {r : Int} {id : Int} (hr : 1 ≤ r ∧ r ≤ 3) (hm : (r, id) ∈ prs h.stream) : Zij (sOf h) r id = some (shE h r (evD (rmG h r).events id)) := by
 obtain ⟨k, q⟩ := u.room hr; have hfl := q.right.fits.len; have e1 : Zhw (sOf h) r = some (hiG (rmG h r)) := by unfold Zhw; rw [q.wrap, q.hist]; rfl
 obtain ⟨v1, v2, v3⟩ := u.event q hm; have h0 : ¬ posP (prs h.stream) (r, id) = 0 := fun e => by have := Ylx.2 hm; omega
 have hpl := (q.right.walk.prev (id := id) (by rw [← v3]; exact List.mem_map.2 ⟨_, v2, rfl⟩)).1
 have hcp : Zhs (evD (rmG h r).events id) = some (evD (rmG h r).events id) := by
  unfold Zhs Zer; rw [chk8 (by omega)]; rfl
 unfold Zij; rw [Ynt u, Wb, beqd, Wf h0, Wv, e1, Wb, q.graph, c_at _ _ q.right.fits.up (by omega), Wb]; have hev : Option.getD (evAt (rmG h r).events id) zEv = evD (rmG h r).events id := rfl; rw [hev, hcp, Wb, Yo8 u id hr, Wb]; simp only [Zii, Zih, beqd, bned]; have hh' : hidB h r (evD (rmG h r).events id).id = hidB h r id := by rw [v3]
 unfold shE; rw [hh']
 by_cases k7 : (evD (rmG h r).events id).kind = 7
 ·
  rw [Wt k7]
  by_cases hh : hidB h r id = 0
  ·
   rw [Wt hh, if_neg fun x => x.2 hh]; rfl
  ·
   rw [Wf hh, if_pos ⟨.inl k7, hh⟩]; rfl
 ·
  rw [Wf k7]
  by_cases k4 : (evD (rmG h r).events id).kind = 4
  ·
   rw [Wt k4]
   by_cases hh : hidB h r id = 0
   ·
    rw [Wt hh, if_neg fun x => x.2 hh]; rfl
   ·
    rw [Wf hh, if_pos ⟨.inr k4, hh⟩]; rfl
  ·
   rw [Wf k4, if_neg fun x => x.1.elim k7 k4]; rfl

def Yoa (h : Y93) (r : Int) (l : List Nat) : Prop := l.length ≤ 1000 ∧ ∀ i ∈ l, i < h.stream.length ∧ (spA h i).room = r
theorem Yob {h : Y93} {r : Int} {i : Nat} (hi : i < h.stream.length) (hr : (spA h i).room = r) : (r, (spA h i).id) ∈ prs h.stream := by
 have hil : i < (prs h.stream).length := by rw [Yms]; exact hi
 have e : (prs h.stream)[i] = ((spA h i).room, (spA h i).id) := by rw [Ynz hi]; exact Ymr hi hil
 rw [← hr, ← e]; exact Wm _

theorem Yoc {h : Y93} (u : Yna h) {r : Int} (hr : 1 ≤ r ∧ r ≤ 3) {l : List Nat} (hl : Yoa h r l) : Zin (sOf h) (l.map fun i : Nat => (i : Int) + 1) = some (l.map fun i => shE h r (evA h r i)) := by
 have hll := hl.1; have hsl := u.slen; unfold Zin
 have := Yet (l := l.map fun i : Nat => (i : Int) + 1) (step := fun z : List Y97 × Int => Zim (sOf h) (l.map fun i : Nat => (i : Int) + 1) z.1 z.2) (fun q j => (q, j)) (fun q => q) (fun q j => q ++ [shE h r (evA h r (j - 1).toNat)]) (fun i q => q.length = i) (by rw [List.length_map]; omega) (fun i q' hi hq => by
  have hi' : i < l.length := by rwa [List.length_map] at hi
  have ev : (l.map fun i : Nat => (i : Int) + 1)[i] = (l[i] : Int) + 1 := List.getElem_map _; obtain ⟨m1, m2⟩ := hl.2 _ (Wm hi'); refine ⟨?_, by simp [hq]⟩; have hgs : getI (sOf h).hub.stream ((l[i] : Nat) : Int) = some (spA h l[i]) := by rw [Ynz m1]; exact Yec m1
  simp only [Zim]; rw [dlt hi, Wu, Yec hi, Wb, ev, Y4i (n := (l[i] : Int) + 1 - 1) (by omega) (by omega), show (l[i] : Int) + 1 - 1 = (l[i] : Int) by omega, hgs, Wb, m2, Yo9 u hr (Yob m1 m2), Wb, Y4j (Wt (by simp; omega)), Wb, Yed hi (by rw [List.length_map]; omega), Int.toNat_natCast]
  rfl)
  (fun q' _ => by simp only [Zim]; rw [dnlt, Wv]) (s := []) rfl
 rw [this.1, Wb, Ykk (fun j : Int => shE h r (evA h r (j - 1).toNat))]; simp only [Zil, List.nil_append]; congr 1; rw [List.map_map]; refine List.map_congr_left fun i _ => ?_; simp only [Function.comp]; rw [show (i : Int) + 1 - 1 = (i : Int) by omega, Int.toNat_natCast]

end Go.Proofs.YtbgichfjcnibpaaGreat
namespace Go.Proofs.YtbgichfjcnibpaaGreat
open Go Go.Abs

theorem Yod {h : Y93} (u : Yna h) {r : Int} {k : Nat} (q : Ynr h r k) {i : Nat} (hi : i < h.stream.length) (hr : (spA h i).room = r) : ∃ (k0 : Nat) (hk0 : k0 < (rmG h r).events.length), plc (rmG h r).events (spA h i).id = k0 ∧ (rmG h r).events[k0] = evA h r i ∧ (evA h r i).id = (spA h i).id ∧ posP (prs h.stream) (r, (spA h i).id) = (i : Int) + 1 := by
 obtain ⟨v1, v2, v3⟩ := u.event q (Yob hi hr); obtain ⟨k0, hk0, p1, p2, p3⟩ := Yfc (l := (rmG h r).events) (Yff.2 ⟨_, v2, v3⟩); refine ⟨k0, hk0, p1, ?_, v3, (Yo5 u hi _).2 (by rw [hr])⟩; rw [v1] at p3; exact (Wj p3).symm

theorem Yoe {h : Y93} (u : Yna h) {r : Int} {k : Nat} (q : Ynr h r k) {j : Nat} (hj : j < (rmG h r).events.length) (hp : 0 < posP (prs h.stream) (r, (rmG h r).events[j].id)) : ∃ i, i < h.stream.length ∧ (spA h i).room = r ∧ (spA h i).id = (rmG h r).events[j].id ∧ evA h r i = (rmG h r).events[j] ∧ posP (prs h.stream) (r, (rmG h r).events[j].id) = (i : Int) + 1 := by
 have hm := Ylx.1 hp; obtain ⟨i, hi, e⟩ := List.mem_iff_getElem.1 hm; have hi' : i < h.stream.length := by rw [Yms] at hi; exact hi
 rw [Ymr hi', ← Ynz hi'] at e; obtain ⟨e1, e2⟩ := Prod.mk.inj e; refine ⟨i, hi', e1, e2, ?_, (Yo5 u hi' _).2 (by rw [e1, e2])⟩; unfold evA; rw [e2]; unfold evD; rw [(q.right.fits.up.plc hj).2]; rfl

theorem Yof {h : Y93} (u : Yna h) {r : Int} (id : Int) (hr : 1 ≤ r ∧ r ≤ 3) : Z7q (wOf h) r id = some (hidB h r id) := by
 obtain ⟨k, q⟩ := u.room hr; have hfl := q.right.fits.len; have hpl : (posG (prs h.stream) (rmG h r)).length = (rmG h r).events.length := List.length_map _
 let cand : Nat → Prop := fun j => ∃ hj : j < (rmG h r).events.length, (rmG h r).events[j].kind = 8 ∧ (rmG h r).events[j].key = id ∧ 0 < posP (prs h.stream) (r, (rmG h r).events[j].id)
 let pj : Nat → Int := fun j => posP (prs h.stream) (r, ((rmG h r).events.getD j zEv).id)
 have hpj : ∀ j (hj : j < (rmG h r).events.length), pj j = posP (prs h.stream) (r, (rmG h r).events[j].id) := fun j hj => by
  show posP _ (r, ((rmG h r).events.getD j zEv).id) = _; rw [List.getD_eq_getElem?_getD, We hj]; rfl
 unfold Z7q
 obtain ⟨o, e1, e2⟩ := Yea (τ := Int × Int × Int) (ω := Int) (σ := Int × Int) (step := fun z : Int × Int × Int => Z7p (wOf h) r id z.1 z.2.1 z.2.2) (n := (rmG h r).events.length) (fun s j => (s.1, s.2, j))
  (fun i s => (s = (0, 0) ∧ ∀ j, j < i → ¬ cand j) ∨ ∃ (j : Nat) (hj : j < (rmG h r).events.length), j < i ∧ cand j ∧ s = ((rmG h r).events[j].id, pj j) ∧ ∀ j', j' < i → cand j' → pj j ≤ pj j')
  (fun o => (o = 0 ∧ ∀ j, j < (rmG h r).events.length → ¬ cand j) ∨ ∃ (j : Nat) (hj : j < (rmG h r).events.length), cand j ∧ o = (rmG h r).events[j].id ∧ ∀ j', j' < (rmG h r).events.length → cand j' → pj j ≤ pj j') (by omega) (by
  rintro i ⟨x, y⟩ hi hI; have hip : i < (posG (prs h.stream) (rmG h r)).length := by omega
  have hw := Yed hi (by omega : (rmG h r).events.length < 9223372036854775807); simp only [Z7p]; rw [q.wrap, q.gr, Wb, dlt hi, Wu, Yec hi, Wb, q.pos, Wb, Yec hip, Wb, Ym7 hi, q.room, ← hpj i hi]; simp only [Z7o, Z7n, hw, beqd]
  have keep : ¬ cand i → ((((x, y) : Int × Int) = (0, 0) ∧ ∀ j, j < i + 1 → ¬ cand j) ∨ ∃ (j : Nat) (hj : j < (rmG h r).events.length), j < i + 1 ∧ cand j ∧ (x, y) = ((rmG h r).events[j].id, pj j) ∧ ∀ j', j' < i + 1 → cand j' → pj j ≤ pj j') := fun hn => by
   rcases hI with ⟨a1, a2⟩ | ⟨j, hj, a1, a2, a3, a4⟩
   ·
    refine .inl ⟨a1, fun j hj => ?_⟩; rcases Nat.lt_or_ge j i with g | g
    ·
     exact a2 j g
    ·
     obtain rfl : j = i := by omega
     exact hn
   ·
    refine .inr ⟨j, hj, by omega, a2, a3, fun j' hj' hc => ?_⟩; rcases Nat.lt_or_ge j' i with g | g
    ·
     exact a4 j' g hc
    ·
     obtain rfl : j' = i := by omega
     exact absurd hc hn
  by_cases k8 : (rmG h r).events[i].kind = 8
  rotate_left
  ·
   rw [Wf k8]; exact ⟨(x, y), rfl, keep fun ⟨_, c, _⟩ => k8 c⟩
  by_cases kk : (rmG h r).events[i].key = id
  rotate_left
  ·
   rw [Wt k8, Wf kk]; exact ⟨(x, y), rfl, keep fun ⟨_, _, c, _⟩ => kk c⟩
  by_cases kp : pj i > 0
  rotate_left
  ·
   rw [Wt k8, Wt kk, Wf kp]; exact ⟨(x, y), rfl, keep fun ⟨c0, _, _, c⟩ => kp (by rw [hpj i c0]; exact c)⟩
  have hc : cand i := ⟨hi, k8, kk, by rw [← hpj i hi]; exact kp⟩; rw [Wt k8, Wt kk, Wt kp]; rcases hI with ⟨a1, a2⟩ | ⟨j, hj, a1, a2, a3, a4⟩
  ·
   obtain ⟨rfl, rfl⟩ := Prod.mk.inj a1; refine ⟨((rmG h r).events[i].id, pj i), rfl, .inr ⟨i, hi, by omega, hc, rfl, fun j' hj' hc' => ?_⟩⟩; rcases Nat.lt_or_ge j' i with g | g
   ·
    exact absurd hc' (a2 j' g)
   ·
    obtain rfl : j' = i := by omega
    exact Int.le_refl _
  ·
   obtain ⟨e1, e2⟩ := Prod.mk.inj a3; have hid := ((q.right.ev _ (Wm hj)).id).1; rw [Wf (by omega : ¬ x = 0)]
   by_cases hlt : pj i < y
   ·
    rw [Wt hlt]; refine ⟨((rmG h r).events[i].id, pj i), rfl, .inr ⟨i, hi, by omega, hc, rfl, fun j' hj' hc' => ?_⟩⟩; rcases Nat.lt_or_ge j' i with g | g
    ·
     have := a4 j' g hc'; omega
    ·
     obtain rfl : j' = i := by omega
     exact Int.le_refl _
   ·
    rw [Wf hlt]; refine ⟨(x, y), rfl, .inr ⟨j, hj, by omega, a2, a3, fun j' hj' hc' => ?_⟩⟩; rcases Nat.lt_or_ge j' i with g | g
    ·
     exact a4 j' g hc'
    ·
     obtain rfl : j' = i := by omega
     omega) (by
  rintro ⟨x, y⟩ hI; simp only [Z7p]; rw [q.wrap, q.gr, Wb, dnlt, Wv]; refine ⟨x, rfl, ?_⟩; rcases hI with ⟨a1, a2⟩ | ⟨j, hj, a1, a2, a3, a4⟩
  ·
   exact .inl ⟨(Prod.mk.inj a1).1, a2⟩
  ·
   exact .inr ⟨j, hj, a2, (Prod.mk.inj a3).1, a4⟩) (s := (0, 0)) (.inl ⟨rfl, fun j hj => by omega⟩)
 rw [e1, Wb]; simp only [Z7m]; congr 1
 -- the first one in the stream
 have key : ∀ i, i < h.stream.length → hidP h r id i = true → ∃ j, j < (rmG h r).events.length ∧ cand j ∧ pj j = (i : Int) + 1 := fun i hi hp => by
  unfold hidP at hp; simp only [Bool.and_eq_true, decide_eq_true_eq] at hp; obtain ⟨k0, hk0, _, p2, p3, p4⟩ := Yod u q hi hp.1; have hpk : posP (prs h.stream) (r, (rmG h r).events[k0].id) = (i : Int) + 1 := by rw [p2, p3]; exact p4
  exact ⟨k0, hk0, ⟨hk0, by rw [p2]; exact hp.2.1, by rw [p2]; exact hp.2.2, by omega⟩, by rw [hpj k0 hk0]; exact hpk⟩
 unfold hidB; rcases e2 with ⟨rfl, a2⟩ | ⟨j, hj, ⟨_, c1, c2, c3⟩, rfl, a4⟩
 ·
  have hf : (List.range h.stream.length).find? (hidP h r id) = none := List.find?_eq_none.2 fun i hi hp => by
   obtain ⟨j, hj, hc, _⟩ := key i (by simpa using hi) hp; exact a2 j hj hc
  rw [hf]
 ·
  obtain ⟨i, i1, i2, i3, i4, i5⟩ := Yoe u q hj c3
  have hp : hidP h r id i = true := by
   unfold hidP; rw [i4, Wt i2, Wt c1, Wt c2]; rfl
  have hf : (List.range h.stream.length).find? (hidP h r id) = some i := List.find?_range_eq_some.2 ⟨hp, by simpa using i1, fun i' hi' => by
   by_cases hq : hidP h r id i' = true
   ·
    obtain ⟨j', hj', hc', hpj'⟩ := key i' (by omega) hq; have := a4 j' hj' hc'; rw [hpj', hpj j hj, i5] at this; omega
   ·
    simpa using hq⟩
  rw [hf]; exact i3.symm

theorem Yog {h : Y93} (u : Yna h) {r : Int} (id : Int) (hr : 1 ≤ r ∧ r ≤ 3) : decide (hidB h r id > 0) = decide (hidB h r id ≠ 0) := by
 obtain ⟨k, q⟩ := u.room hr
 have : 0 ≤ hidB h r id := by
  unfold hidB
  cases hf : (List.range h.stream.length).find? (hidP h r id) with
  | none => exact Int.le_refl 0
  | some i =>
   have h1 := List.mem_of_find?_eq_some hf; have h2 := List.find?_some hf; unfold hidP at h2; simp only [Bool.and_eq_true, decide_eq_true_eq] at h2; obtain ⟨v1, v2, v3⟩ := u.event q (Yob (by simpa using h1) h2.1); have := ((q.right.ev _ v2).id).1; simp only; omega
 rw [Bool.eq_iff_iff]; simp; omega

theorem Yoh {h : Y93} (u : Yna h) {r : Int} (hr : 1 ≤ r ∧ r ≤ 3) {k : Nat} (hk : k < (rmG h r).events.length) : Z7t (wOf h) r (k : Int) = some (shE h r (rmG h r).events[k]) := by
 obtain ⟨j, q⟩ := u.room hr; have hpl := (q.right.walk.prev (id := (rmG h r).events[k].id) (List.mem_map.2 ⟨_, Wm hk, rfl⟩)).1; have hev : evD (rmG h r).events (rmG h r).events[k].id = (rmG h r).events[k] := by unfold evD; rw [(q.right.fits.up.plc hk).2]; rfl
 rw [hev] at hpl; have hh := Yof u (rmG h r).events[k].id hr; have hn := Yog u (rmG h r).events[k].id hr; unfold Z7t; rw [q.wrap, q.gr, Wb, Yec hk, Wb, Yju _ (by omega), Wb, hh, Wb, hn]; simp only [Z7s, beqd]; unfold shE
 by_cases k7 : (rmG h r).events[k].kind = 7
 ·
  rw [Wt k7]
  by_cases hz : hidB h r (rmG h r).events[k].id = 0
  ·
   rw [Wf (fun x => x hz), if_neg fun x => x.2 hz]; rfl
  ·
   rw [Wt hz, if_pos ⟨.inl k7, hz⟩]; rfl
 ·
  rw [Wf k7]
  by_cases k4 : (rmG h r).events[k].kind = 4
  ·
   rw [Wt k4]
   by_cases hz : hidB h r (rmG h r).events[k].id = 0
   ·
    rw [Wf (fun x => x hz), if_neg fun x => x.2 hz]; rfl
   ·
    rw [Wt hz, if_pos ⟨.inr k4, hz⟩]; rfl
  ·
   rw [Wf k4, if_neg fun x => x.1.elim k7 k4]; rfl
end Go.Proofs.YtbgichfjcnibpaaGreat
namespace Go.Proofs.YtbgichfjcnibpaaGreat
open Go Go.Abs


def pagB (h : Y93) (user r at_ lim : Int) : Bool := decide (1 ≤ user ∧ user ≤ 6) && (decide (1 ≤ r ∧ r ≤ 3) && (decide (1 ≤ lim ∧ lim ≤ 20) && decide (0 ≤ at_ ∧ at_ ≤ h.stream.length)))
structure Pag (h : Y93) (user r at_ lim : Int) : Prop where
 hub : Yna h
 room : 1 ≤ r ∧ r ≤ 3
 lim : 1 ≤ lim ∧ lim ≤ 20
 at_ : 0 ≤ at_ ∧ at_ ≤ h.stream.length

theorem Yoi {h : Y93} (hf : Ymm h) (user r at_ lim : Int) : ∃ b : Bool, (b = true → Pag h user r at_ lim) ∧ (∃ w, Z6z h = some w ∧ Z78 w.1 w.2 user r at_ lim = some (cond b 0 1) ∧ (b = true → w = (wOf h, true))) ∧ Zg3 h user r at_ lim = some (cond b (sOf h, true) (zS, false)) := by
 obtain ⟨b, b1, b2, b3⟩ := Ync hf; unfold Zg3; rw [b3, Wb]
 cases b with
 | false => exact ⟨false, fun x => (by cases x), ⟨_, b2, rfl, fun x => (by cases x)⟩, rfl⟩
 | true =>
  have u := b1 rfl; refine ⟨pagB h user r at_ lim, fun hb => ?_, ⟨_, b2, ?_, fun _ => rfl⟩, ?_⟩
  ·
   unfold pagB at hb; simp only [Bool.and_eq_true, decide_eq_true_eq] at hb; exact ⟨u, hb.2.1, hb.2.2.1, hb.2.2.2⟩
  ·
   simp only [Wu]; unfold Z78 Z71 pagB; simp only [Yei, Yeg, Wb, Wu, Z77]; have : ((wOf h).h.stream.length : Int) = h.stream.length := rfl; rw [this]; cases decide (1 ≤ user ∧ user ≤ 6) <;> cases decide (1 ≤ r ∧ r ≤ 3) <;> cases decide (1 ≤ lim ∧ lim ≤ 20) <;> cases decide (0 ≤ at_ ∧ at_ ≤ (h.stream.length : Int)) <;> rfl
  ·
   simp only [Wu]; unfold Zg0 pagB; simp only [Yem, Yek, c_in, Wb, Zg2]; have : ((sOf h).hub.stream.length : Int) = h.stream.length := rfl; rw [this]; cases decide (1 ≤ user ∧ user ≤ 6) <;> cases decide (1 ≤ r ∧ r ≤ 3) <;> cases decide (1 ≤ lim ∧ lim ≤ 20) <;> cases decide (0 ≤ at_ ∧ at_ ≤ (h.stream.length : Int)) <;> rfl


def Yoj (av : Nat → Int) (x0 : Int) (l : List Nat) : Int := match l.getLast? with
 | some i => av i
 | none => x0
theorem Yok (av : Nat → Int) (x0 : Int) (l : List Nat) (a : Nat) : Yoj av x0 (l ++ [a]) = av a := by simp [Yoj]

theorem Yol {τ ω : Type} {W : List Nat} (p : Nat → Bool) (sh : Nat → Y97) (av : Nat → Int) (x0 : Int) (m : Nat) {step : τ → Option (τ ⊕ ω)} (emb : List Y97 → Int → Nat → τ) (fin : List Y97 → Int → Bool → ω) (hW : W.length < 9223372036854775807)
  (h1 : ∀ (j : Nat) (hj : j < W.length) (q : List Y97) (x : Int), q.length ≤ m → step (emb q x j) = some (cond (p W[j]) (cond (decide (m ≤ q.length)) (.inr (fin q x false)) (.inl (emb (q ++ [sh W[j]]) (av W[j]) (j + 1)))) (.inl (emb q x (j + 1)))))
  (h2 : ∀ q x, step (emb q x W.length) = some (.inr (fin q x true))) :
  iter step big (emb [] x0 0) = some (fin (((W.filter p).take m).map sh) (Yoj av x0 ((W.filter p).take m)) (decide ((W.filter p).length ≤ m))) := by
 have key : ∀ n j k : Nat, j + n = W.length → n < k → ((W.take j).filter p).length ≤ m → iter step k (emb (((W.take j).filter p).map sh) (Yoj av x0 ((W.take j).filter p)) j) = some (fin (((W.filter p).take m).map sh) (Yoj av x0 ((W.filter p).take m)) (decide ((W.filter p).length ≤ m))) := by
  intro n
  induction n with
  | zero =>
   intro j k hn hk hl; obtain ⟨k, rfl⟩ : ∃ k', k = k' + 1 := ⟨k - 1, by omega⟩; obtain rfl : j = W.length := by omega
   rw [List.take_length] at hl ⊢
   rw [iter, h2, List.take_of_length_le hl, Wt hl]; rfl
  | succ n ih =>
   intro j k hn hk hl; obtain ⟨k, rfl⟩ : ∃ k', k = k' + 1 := ⟨k - 1, by omega⟩; have hj : j < W.length := by omega
   have etk : (W.take (j + 1)).filter p = (W.take j).filter p ++ if p W[j] = true then [W[j]] else [] := by
    rw [List.take_add_one, We hj, List.filter_append]; congr 1
    cases hp : p W[j] with
    | true => show [W[j]].filter p = _; rw [List.filter_cons_of_pos hp]; rfl
    | false => show [W[j]].filter p = _; rw [List.filter_cons_of_neg (by simp [hp])]; rfl
   rw [iter, h1 j hj _ _ (by rw [List.length_map]; exact hl)]
   cases hp : p W[j] with
   | false =>
    rw [hp, if_neg (by simp), List.append_nil] at etk; have := ih (j + 1) k (by omega) (by omega) (by rw [etk]; exact hl); rw [etk] at this
    exact this
   | true =>
    rw [hp, if_pos rfl] at etk; rw [Wu, List.length_map]
    by_cases hm : m ≤ ((W.take j).filter p).length
    ·
     rw [Wt hm]
     have hall : W.filter p = (W.take j).filter p ++ (W[j] :: (W.drop (j + 1)).filter p) := by
      conv => lhs; rw [← List.take_append_drop j W, List.filter_append, List.drop_eq_getElem_cons hj, List.filter_cons_of_pos hp]
     have hlen : ((W.take j).filter p).length = m := by omega
     have htk : (W.filter p).take m = (W.take j).filter p := by rw [hall, List.take_append_of_le_length (by omega), List.take_of_length_le (by omega)]
     have hgt : ¬ (W.filter p).length ≤ m := by rw [hall, List.length_append, List.length_cons]; omega
     rw [htk, Wf hgt]; rfl
    ·
     rw [Wf hm]; have := ih (j + 1) k (by omega) (by omega) (by rw [etk, List.length_append, List.length_singleton]; omega); rw [etk, List.map_append, Yok] at this; exact this
 have := key W.length 0 big (by omega) (Ye7 (by omega)) (by simp); simpa [Yoj] using this

def Yom (h : Y93) (r : Int) (l : List Nat) (av : Nat → Int) (x0 : Int) (m : Nat) : Y98 := ⟨(l.take m).map fun i => shE h r (evA h r i), Yoj av x0 (l.take m), decide (l.length ≤ m), 0⟩


def upto (h : Y93) (user r at_ : Int) : List Nat := (visI h user r).filter fun i : Nat => decide ((i : Int) + 1 ≤ at_)

theorem Yon {h : Y93} (u : Yna h) (user : Int) {r : Int} (at_ : Int) {lim : Int} (hr : 1 ≤ r ∧ r ≤ 3) (hl : 1 ≤ lim ∧ lim ≤ 20) :
  Z7y (wOf h) user r at_ lim = some (Yom h r (upto h user r at_).reverse (fun i => (i : Int)) 0 lim.toNat) := by
 obtain ⟨k, q⟩ := u.room hr; have hsl := u.slen; have hvl := Yo1 u user r; have hPl : (visP h user r).length = (visI h user r).length := List.length_map _; have hRl : (visI h user r).reverse.length = (visI h user r).length := List.length_reverse; unfold Z7y; rw [Yo7 u user hr, Wb, hPl, Y4i (n := ((visI h user r).length : Int) - 1) (by omega) (by omega)]
 have := Yol (W := (visI h user r).reverse) (fun i : Nat => decide ((i : Int) + 1 ≤ at_)) (fun i => shE h r (evA h r i)) (fun i : Nat => (i : Int)) 0 lim.toNat (step := fun z : List Y97 × List Y97 × Int × Int => Z7x (wOf h) r at_ lim (visP h user r) z.1 z.2.1 z.2.2.1 z.2.2.2) (fun o x j => ([], o, x, ((visI h user r).length : Int) - 1 - j)) (fun o x b => ([], o, x, b)) (by omega) (fun j hj o x ho => by
  rw [hRl] at hj; have hjn : (visI h user r).length - 1 - j < (visI h user r).length := by omega
  have eW : (visI h user r).reverse[j]'(by rw [hRl]; exact hj) = (visI h user r)[(visI h user r).length - 1 - j] := List.getElem_reverse _; have ex : ((visI h user r).length : Int) - 1 - j = (((visI h user r).length - 1 - j : Nat) : Int) := by omega
  have hiP : (visI h user r).length - 1 - j < (visP h user r).length := by omega
  have ev : (visP h user r)[(visI h user r).length - 1 - j] = plc (rmG h r).events (spA h (visI h user r)[(visI h user r).length - 1 - j]).id := List.getElem_map _; rw [eW]; obtain ⟨m1, m2, m3⟩ := Yo0 (Wm hjn); generalize (visI h user r)[(visI h user r).length - 1 - j] = i at ev m1 m2 m3; obtain ⟨k0, hk0, p1, p2, p3, p4⟩ := Yod u q m1 m2; have hkp : k0 < (posG (prs h.stream) (rmG h r)).length := by unfold posG; rw [List.length_map]; exact hk0
  have hpk : posP (prs h.stream) (r, (rmG h r).events[k0].id) = (i : Int) + 1 := by rw [p2, p3]; exact p4
  have hsh := Yoh u hr hk0; rw [p2] at hsh; simp only [Z7x]; rw [ex, Wt (by omega : (((visI h user r).length - 1 - j : Nat) : Int) ≥ 0), Wu, q.wrap, q.pos, Wb, Yec hiP, Wb, ev, p1, Yec hkp, Wb, Ym7 hk0, q.room, hpk, hsh, Wb, Y4j (Wt (by simp; omega)), Wb]; simp only [Z7w]; rw [Y4i (n := (((visI h user r).length - 1 - j : Nat) : Int) - 1) (by omega) (by omega), Y4i (n := (i : Int) + 1 - 1) (by omega) (by omega), show (((visI h user r).length - 1 - j : Nat) : Int) - 1 = ((visI h user r).length : Int) - 1 - ((j + 1 : Nat) : Int) by omega, show (i : Int) + 1 - 1 = (i : Int) by omega]; have hd : decide ((i : Int) + 1 > at_) = !decide ((i : Int) + 1 ≤ at_) := by rw [Bool.eq_iff_iff]; simp <;> omega
  have hd2 : decide ((o.length : Int) ≥ lim) = decide (lim.toNat ≤ o.length) := by rw [Bool.eq_iff_iff]; simp <;> omega
  rw [hd, hd2]
  cases decide ((i : Int) + 1 ≤ at_) <;> cases decide (lim.toNat ≤ o.length) <;> rfl)
  (fun o x => by
   simp only [Z7x]
   rw [hRl, Wf (by omega)]; rfl)
 have e0 : ((visI h user r).length : Int) - 1 - ((0 : Nat) : Int) = ((visI h user r).length : Int) - 1 := by omega
 rw [e0] at this; rw [this, Wb, List.filter_reverse]; rfl

theorem Yoo (l : List Int) (hl : l.length < 1000000) : Zhq l = some l.reverse := by
 unfold Zhq; rw [Y4i (n := (l.length : Int) - 1) (by omega) (by omega)]
 obtain ⟨o, e1, rfl⟩ := Y4l (step := fun z : List Int × Int × Int => Zhp z.1 z.2.1 z.2.2) (p := fun o : List Int => o = l.reverse)
  (fun m (z : List Int × Int × Int) => ∃ t : Nat, z.2.1 = (t : Int) ∧ z.2.2 = (l.length : Int) - 1 - t ∧ t ≤ l.length ∧ z.1.length = l.length ∧ m = l.length - t ∧ ∀ (j : Nat) (h1 : j < l.length) (h2 : j < z.1.length), z.1[j] = if j < t ∨ l.length - 1 - t < j then l[l.length - 1 - j] else l[j]) (by
  rintro m ⟨q, x, y⟩ ⟨t, hx, hy, ht, hq, rfl, hI⟩; simp only at hx hy hq hI; subst hx hy; simp only [Zhp]
  by_cases hlt : (t : Int) < (l.length : Int) - 1 - t
  ·
   right; have ey : (l.length : Int) - 1 - t = ((l.length - 1 - t : Nat) : Int) := by omega
   have h1 : t < q.length := by omega
   have h2 : l.length - 1 - t < q.length := by omega
   have h2' : l.length - 1 - t < (q.set t q[l.length - 1 - t]).length := by rw [List.length_set]; exact h2
   rw [Wt hlt, Wu, ey, Yec h2, Wb, Yec h1, Wb, Int.toNat_natCast, Yec h2', Wb, Int.toNat_natCast, Y4i (n := (t : Int) + 1) (by omega) (by omega), Y4i (n := ((l.length - 1 - t : Nat) : Int) - 1) (by omega) (by omega)]; refine ⟨_, l.length - (t + 1), rfl, by omega, t + 1, by simp, by simp; omega, by omega, by simp [hq], rfl, fun j hj hj2 => ?_⟩; simp only [List.getElem_set]
   by_cases e1 : l.length - 1 - t = j
   ·
    rw [if_pos e1, if_pos (by omega), hI t (by omega) h1, if_neg (by omega)]; congr 1; omega
   ·
    rw [if_neg e1]
    by_cases e2 : t = j
    ·
     rw [if_pos e2, if_pos (by omega), hI _ (by omega) h2, if_neg (by omega)]; congr 1; omega
    ·
     have hjq : j < q.length := by omega
     rw [if_neg e2, hI j hj hjq]
     by_cases c1 : j < t ∨ l.length - 1 - t < j
     ·
      rw [if_pos c1, if_pos (by omega)]
     ·
      rw [if_neg c1, if_neg (by omega)]
  ·
   left; rw [Wf hlt, Wv]; refine ⟨_, rfl, List.ext_getElem (by simp [hq]) fun j h1 h2 => ?_⟩; have hj : j < l.length := by simpa using h2
   rw [hI j hj h1, List.getElem_reverse]
   by_cases c1 : j < t ∨ l.length - 1 - t < j
   ·
    rw [if_pos c1]
   ·
    rw [if_neg c1]
    congr 1; omega) big l.length (l, 0, (l.length : Int) - 1) ⟨0, rfl, by simp, by omega, rfl, by omega, fun j h1 h2 => by rw [if_neg (by omega)]⟩ (Ye7 (by omega))
 have e1' : iter (fun z26 : List Int × Int × Int => Zhp z26.1 z26.2.1 z26.2.2) big (l, 0, (l.length : Int) - 1) = some l.reverse := e1; rw [e1']; rfl

theorem Yop {h : Y93} (u : Yna h) {user r at_ : Int} : (upto h user r at_).length ≤ 120 ∧ ∀ i ∈ upto h user r at_, i < h.stream.length ∧ (spA h i).room = r := by
 refine ⟨Nat.le_trans (List.length_filter_le _ _) (Yo1 u user r), fun i hi => ?_⟩; have := Yo0 (List.mem_filter.1 hi).1; exact ⟨this.1, this.2.1⟩

theorem Yoq {h : Y93} (u : Yna h) (user : Int) {r : Int} (at_ : Int) (hr : 1 ≤ r ∧ r ≤ 3) : Zi8 (sOf h) user r 1 at_ = some ((upto h user r at_).map fun i : Nat => (i : Int) + 1) := by
 rw [Yo3 u user _ _ hr]; congr 2; unfold upto; refine List.filter_congr fun i _ => ?_; rw [Bool.eq_iff_iff]; simp; omega

theorem Yor {h : Y93} (u : Yna h) (user : Int) {r : Int} (at_ : Int) {lim : Int} (hr : 1 ≤ r ∧ r ≤ 3) (hl : 1 ≤ lim ∧ lim ≤ 20) :
  Ziq (sOf h) user r at_ lim = some (Yom h r (upto h user r at_).reverse (fun i => (i : Int)) 0 lim.toNat) := by
 obtain ⟨hul, hin⟩ := Yop (user := user) (r := r) (at_ := at_) u; have hsl := u.slen; unfold Ziq; rw [Yoq u user at_ hr, Wb]; generalize upto h user r at_ = L at hul hin
 have hPl : (L.map fun i : Nat => (i : Int) + 1).length = L.length := List.length_map _
 have hlast : Zhn (L.map fun i : Nat => (i : Int) + 1) lim = some ((L.drop (L.length - lim.toNat)).map fun i : Nat => (i : Int) + 1) := by
  unfold Zhn; rw [hPl, Y4i (n := (L.length : Int) - lim) (by omega) (by omega)]; have e1 : (if (0 : Int) > (L.length : Int) - lim then 0 else (L.length : Int) - lim) = ((L.length - lim.toNat : Nat) : Int) := by split <;> omega
  rw [e1, show (L.length : Int) = (((L.map fun i : Nat => (i : Int) + 1).length : Nat) : Int) by rw [hPl], Y5n (by rw [hPl]; omega) (Nat.le_refl _), Wb, List.take_of_length_le (by rw [List.length_drop]; exact Nat.le_refl _), ← List.map_drop]; unfold Zer; rw [chk8 (by rw [List.length_map, List.length_drop]; omega)]; rfl
 rw [hlast, Wb]; generalize hD : L.drop (L.length - lim.toNat) = D; have hDl : D.length = L.length - (L.length - lim.toNat) := by rw [← hD, List.length_drop]
 have hDin : Yoa h r D.reverse := ⟨by rw [List.length_reverse]; omega, fun i hi => hin i (by
  rw [List.mem_reverse, ← hD] at hi
  exact List.mem_of_mem_drop hi)⟩
 have hrev : Zhq (D.map fun i : Nat => (i : Int) + 1) = some (D.reverse.map fun i : Nat => (i : Int) + 1) := by
  rw [Yoo _ (by rw [List.length_map]; omega), List.map_reverse]
 have htk : L.reverse.take lim.toNat = D.reverse := by rw [List.take_reverse, hD]
 have hend : ((L.length : Int) == (D.length : Int)) = decide (L.reverse.length ≤ lim.toNat) := by
  rw [beqd, Bool.eq_iff_iff, List.length_reverse]; simp <;> omega
 unfold Yom; rw [htk]; simp only [Zip]; simp only [hrev, Wb, Yoc u hr hDin, hend, List.length_map]
 cases hDD : D with
 | nil => rfl
 | cons d D' =>
  have hdm : d < h.stream.length := (hDin.2 d (by rw [List.mem_reverse, hDD]; simp)).1; rw [Wt (by simp : (((d :: D').length : Nat) : Int) > 0), Wu]; have hg0 : getI ((d :: D').map fun i : Nat => (i : Int) + 1) 0 = some ((d : Int) + 1) := rfl; rw [hg0, Wb, Y4i (n := (d : Int) + 1 - 1) (by omega) (by omega), show (d : Int) + 1 - 1 = (d : Int) by omega]; congr 2; unfold Yoj; rw [List.getLast?_reverse]; rfl

theorem Yos {h : Y93} (hf : Ymm h) (user r at_ lim : Int) : ∃ o, Z80 h user r at_ lim = some o ∧ Zis h user r at_ lim = some o ∧ (o.events.length ≤ 120 ∧ ∀ x ∈ o.events, x.event.prev.length ≤ 4) := by
 obtain ⟨b, b1, ⟨w, w1, w2, w3⟩, b3⟩ := Yoi hf user r at_ lim
 unfold Z80 Zis; rw [w1, b3, Wb, Wb, w2, Wb]
 cases b with
 | false => exact ⟨_, rfl, rfl, by simp, by simp⟩
 | true =>
  obtain ⟨u, hr, hl, _⟩ := b1 rfl; obtain rfl := w3 rfl; obtain ⟨hul, hin⟩ := Yop (user := user) (r := r) (at_ := at_) u; simp only [Wu]; rw [Yor u user at_ hr hl]; show ∃ o, (Z7y (wOf h) user r at_ lim).bind _ = some o ∧ _; rw [Yon u user at_ hr hl]; refine ⟨_, rfl, rfl, ?_, ?_⟩
  ·
   unfold Yom; simp only [List.length_map, List.length_take, List.length_reverse]; omega
  ·
   unfold Yom; intro x hx; obtain ⟨i, hi, rfl⟩ := List.mem_map.1 hx; have hi' := hin i (List.mem_reverse.1 (List.mem_of_mem_take hi)); obtain ⟨k, q⟩ := u.room hr; obtain ⟨v1, v2, v3⟩ := u.event q (Yob hi'.1 hi'.2); have hpl := (q.right.walk.prev (id := (spA h i).id) (by rw [← v3]; exact List.mem_map.2 ⟨_, v2, rfl⟩)).1; unfold shE
   split <;> exact hpl
end Go.Proofs.YtbgichfjcnibpaaGreat
namespace Go.Proofs.YtbgichfjcnibpaaGreat
open Go Go.Abs

def Few (l : List Y97) : Prop := l.length ≤ 1000 ∧ ∀ x ∈ l, x.event.prev.length ≤ 4

theorem Yot (x : Y97) (hx : x.event.prev.length ≤ 4) : Zj0 x x = some true := by
 unfold Zj0; rw [Ykz _ (by omega)]; simp
theorem You (p : List Y97) (hp : Few p) : Zj4 p p = some true := by
 have hl := hp.1; unfold Zj4; rw [bned, Wt rfl]; simp only [Bool.not_true, Wv]
 rw [Yes (l := p) (fun _ => true) (.inl false) (.inr ()) (by omega) (fun i hi => by
  simp only [Zj3]
  rw [dlt hi, Wu, Yec hi, Wb, Wb, Yot _ (hp.2 _ (Wm hi)), Wb, Yed hi (by omega)]; rfl) (by simp only [Zj3]; rw [dnlt, Wv])]
 rw [show (p.all fun _ => true) = true by simp]; rfl

def txtM (n : Int) : ByteArray := (Zjs n).getD ByteArray.empty
theorem Yov (n : Int) (h0 : 0 ≤ n) (hn : n ≤ 1000000000000000) : Zjs n = some (txtM n) := by
 obtain ⟨t, ht⟩ := Yl8 n h0 hn; unfold txtM; rw [ht]; rfl
def mkE (n : Int) (s : Y97) : Y97 := ⟨⟨n, n + 1, n + 2, n + 3, n + 4, n + 5, txtM (n + 6), Yl2 (n + 7) s.event.prev.length, n + 7 + s.event.prev.length⟩, Int.tmod (n + 7 + s.event.prev.length + 1) 3 == 0⟩
def nx (n : Int) (s : Y97) : Int := n + 9 + s.event.prev.length
def mkL : Int → List Y97 → List Y97
 | _, [] => []
 | n, s :: l => mkE n s :: mkL (nx n s) l
def finL : Int → List Y97 → Int
 | n, [] => n
 | n, s :: l => finL (nx n s) l
theorem Yow : ∀ (l : List Y97) (n : Int), (mkL n l).length = l.length
 | [], _ => rfl
 | s :: l, n => by simp [mkL, Yow l]
theorem Yox : ∀ (l : List Y97) (n : Int) (s : Y97), mkL n (l ++ [s]) = mkL n l ++ [mkE (finL n l) s] ∧ finL n (l ++ [s]) = nx (finL n l) s
 | [], n, s => ⟨rfl, rfl⟩
 | a :: l, n, s => by
  have := Yox l (nx n a) s; exact ⟨by simp only [List.cons_append, mkL, finL]; rw [this.1], by simp only [List.cons_append, finL]; rw [this.2]⟩
theorem Yoy : ∀ (l : List Y97) (n : Int) (i : Nat) (h1 : i < (mkL n l).length) (h2 : i < l.length), (mkL n l)[i] = mkE (finL n (l.take i)) l[i]
 | [], _, i, _, h2 => by simp at h2
 | s :: l, n, 0, _, _ => rfl
 | s :: l, n, i + 1, h1, h2 => by
  simp only [mkL, List.getElem_cons_succ, List.take_succ_cons, finL]; exact Yoy l (nx n s) i _ _
theorem Yoz : ∀ (l : List Y97) (n : Int), (∀ x ∈ l, x.event.prev.length ≤ 4) → n ≤ finL n l ∧ finL n l ≤ n + 13 * l.length
 | [], n, _ => by simp [finL]
 | s :: l, n, h => by
  have h1 := Yoz l (nx n s) fun x hx => h x (by simp [hx]); have h2 := h s (by simp); unfold nx at h1; simp only [finL, nx, List.length_cons]; omega
theorem Yp0 {p : List Y97} (hp : Few p) {i : Nat} (n : Int) (hi : i ≤ p.length) : n ≤ finL n (p.take i) ∧ finL n (p.take i) ≤ n + 13 * 1000 := by
 have := Yoz (p.take i) n fun x hx => hp.2 x (List.mem_of_mem_take hx); have hl := hp.1; rw [List.length_take] at this; omega

theorem Yp1 (p : List Y97) (n : Int) (hp : Few p) (h0 : 0 ≤ n) (hn : n ≤ 100000000000000) : Zke p n = some (finL n p, mkL n p) := by
 have hpl := hp.1; unfold Zke
 obtain ⟨o, e1, rfl⟩ := Yea (τ := List Y97 × Int × Int) (ω := Int × List Y97) (σ := List Y97 × Int) (step := fun z : List Y97 × Int × Int => Zkd z.1 z.2.1 z.2.2) (n := p.length) (fun s j => (s.1, s.2, j)) (fun i s => s = (mkL n (p.take i) ++ p.drop i, finL n (p.take i))) (fun o => o = (finL n p, mkL n p)) (by omega) (by
  rintro i s hi rfl; have hb := Yp0 hp n (Nat.le_of_lt hi); have etk : p.take (i + 1) = p.take i ++ [p[i]] := by rw [List.take_add_one, We hi]; rfl
  obtain ⟨s1, s2⟩ := Yox (p.take i) n p[i]; have hpr := hp.2 _ (Wm hi); refine ⟨(mkL n (p.take (i + 1)) ++ p.drop (i + 1), finL n (p.take (i + 1))), ?_, rfl⟩; rw [etk, s1, s2, List.append_assoc]; have e0 : p.drop i = p[i] :: p.drop (i + 1) := List.drop_eq_getElem_cons hi; generalize hR : p.drop (i + 1) = R at e0; have hX : (mkL n (p.take i)).length = i := by rw [Yow, List.length_take]; omega
  generalize mkL n (p.take i) = M at hX; generalize finL n (p.take i) = k at hb; have hlen : (M ++ p.drop i).length = p.length := by rw [List.length_append, hX, List.length_drop]; omega
  have hm : ∀ v : Y97, getI (M ++ v :: R) (i : Int) = some v := fun v => Yg8 (X := M) (u := v) (Y := R) rfl hX.symm; have hsv : ∀ v v' : Y97, List.set (M ++ v :: R) i v' = M ++ v' :: R := fun v v' => Yg9 (X := M) (u := v) (Y := R) rfl hX.symm; have ht := Yov (k + 1 + 1 + 1 + 1 + 1 + 1) (by omega) (by omega); have hmk := Yl6 p[i].event.prev (k + 1 + 1 + 1 + 1 + 1 + 1 + 1) (by omega) (by omega) (by omega); simp only [Zkd]; rw [hlen, dlt hi, Wu, e0, Yed hi (by omega)]; generalize p[i] = u at ht hmk hpr; rw [w1 k (by omega) (by omega), w1 (k + 1) (by omega) (by omega), w1 (k + 1 + 1) (by omega) (by omega), w1 (k + 1 + 1 + 1) (by omega) (by omega), w1 (k + 1 + 1 + 1 + 1) (by omega) (by omega), w1 (k + 1 + 1 + 1 + 1 + 1) (by omega) (by omega), w1 (k + 1 + 1 + 1 + 1 + 1 + 1) (by omega) (by omega)]; simp only [Int.toNat_natCast, hm, hsv, Wb, ht, hmk]; rw [w1 (k + 1 + 1 + 1 + 1 + 1 + 1 + 1 + (u.event.prev.length : Int)) (by omega) (by omega), w1 (k + 1 + 1 + 1 + 1 + 1 + 1 + 1 + (u.event.prev.length : Int) + 1) (by omega) (by omega)]; unfold mkE nx; rw [show k + 1 + 1 = k + 2 by omega, show k + 2 + 1 = k + 3 by omega, show k + 3 + 1 = k + 4 by omega, show k + 4 + 1 = k + 5 by omega, show k + 5 + 1 = k + 6 by omega, show k + 6 + 1 = k + 7 by omega, show k + 7 + (u.event.prev.length : Int) + 1 + 1 = k + 9 + u.event.prev.length by omega]
  rfl) (by
  rintro s rfl; simp only [Zkd]; rw [show (mkL n (p.take p.length) ++ p.drop p.length).length = p.length by simp [Yow], dnlt, Wv]
  exact ⟨_, rfl, by simp⟩) (s := (p, n)) (by simp [mkL, finL])
 rw [e1, Wb]; rfl

theorem Yp2 (p : List Y97) (n : Int) (hp : Few p) (h0 : 0 ≤ n) (hn : n ≤ 100000000000000) : Zko (mkL n p) n = some (finL n p) := by
 have hpl := hp.1; unfold Zko
 obtain ⟨o, e1, rfl⟩ := Yea (τ := Int × Int) (ω := Int ⊕ Int) (σ := Int) (step := fun z : Int × Int => Zkn (mkL n p) z.1 z.2) (n := p.length) (fun s j => (s, j)) (fun i s => s = finL n (p.take i)) (fun o => o = .inr (finL n p)) (by omega) (by
  rintro i s hi rfl; have hb := Yp0 hp n (Nat.le_of_lt hi); have etk : p.take (i + 1) = p.take i ++ [p[i]] := by rw [List.take_add_one, We hi]; rfl
  obtain ⟨_, s2⟩ := Yox (p.take i) n p[i]; have hpr := hp.2 _ (Wm hi); have hi' : i < (mkL n p).length := by rw [Yow]; exact hi
  have hgt := Yoy p n i hi' hi; refine ⟨finL n (p.take (i + 1)), ?_, rfl⟩; rw [etk, s2]; simp only [Zkn]; rw [Yow, dlt hi, Wu, Yec hi', Wb, hgt, Yed hi (by omega)]; generalize finL n (p.take i) = k at hb; generalize p[i] = u at hpr; have ht := Yov (k + 6) (by omega) (by omega); have hh := Yl7 u.event.prev.length (k + 7) (by omega) (by omega) (by omega); rw [w1 k (by omega) (by omega), w1 (k + 1) (by omega) (by omega), w1 (k + 1 + 1) (by omega) (by omega), w1 (k + 1 + 1 + 1) (by omega) (by omega), w1 (k + 1 + 1 + 1 + 1) (by omega) (by omega), w1 (k + 1 + 1 + 1 + 1 + 1) (by omega) (by omega), w1 (k + 1 + 1 + 1 + 1 + 1 + 1) (by omega) (by omega)]; rw [show k + 1 + 1 = k + 2 by omega, show k + 2 + 1 = k + 3 by omega, show k + 3 + 1 = k + 4 by omega, show k + 4 + 1 = k + 5 by omega, show k + 5 + 1 = k + 6 by omega, show k + 6 + 1 = k + 7 by omega, ht, Wb]; unfold mkE; simp only; rw [hh, Wb, w1 (k + 7 + (u.event.prev.length : Int)) (by omega) (by omega), w1 (k + 7 + (u.event.prev.length : Int) + 1) (by omega) (by omega), Wf (by omega : ¬ k + 7 + (u.event.prev.length : Int) < 0)]; simp only [bne_self_eq_false, Wv, beq_self_eq_true, Wu]; unfold nx
  rw [show k + 7 + (u.event.prev.length : Int) + 1 + 1 = k + 9 + u.event.prev.length by omega]) (by
  rintro s rfl; simp only [Zkn]; rw [Yow, dnlt, Wv, List.take_length]
  exact ⟨_, rfl, rfl⟩) (s := n) (by simp [finL])
 rw [e1, Wb]; rfl

theorem Yp3 (o : Y98) (ho : Few o.events) : Zj6 o o = some true := by
 unfold Zj6; rw [You _ ho]; simp
theorem Yp4 (o : Y98) (ho : Few o.events) : Zkg o 1 = some (finL 1 o.events, mkL 1 o.events) := by
 unfold Zkg; rw [Yp1 _ _ ho (by omega) (by omega)]; rfl
theorem Yp5 (o : Y98) (ho : Few o.events) : Zkq (Y98.mk (mkL 1 o.events) o.at_ o.end_ o.code) 1 = some (finL 1 o.events) := by
 have := Yoz o.events 1 ho.2; unfold Zkq; rw [Yp2 _ _ ho (by omega) (by omega), Wb, Wf (by omega)]; rfl
end Go.Proofs.YtbgichfjcnibpaaGreat
