/- Plain laws for the graphs: who is ahead of whom; depths rise. -/
import Derived.Test.YtnoknphekhclcaaGreatDoorFGO
set_option autoImplicit false
set_option linter.unusedVariables false
set_option linter.unusedSimpArgs false
namespace Go.Proofs.YtnoknphekhclcaaGreatDoor
open Go Go.Abs

inductive Bf (l : List Y9z) (a : Int) : List Int → List Int → Bool → Prop
 | nil (seen : List Int) : Bf l a seen [] false
 | hit (seen r : List Int) : Bf l a seen (a :: r) true
 | skip (seen r : List Int) (id : Int) (b : Bool) : id ≠ a → id ∈ seen → Bf l a seen r b → Bf l a seen (id :: r) b
 | more (seen r : List Int) (id : Int) (b : Bool) : id ≠ a → id ∉ seen → Bf l a (id :: seen) (r ++ (evD l id).prev) b → Bf l a seen (id :: r) b

theorem Bf.det {l : List Y9z} {a : Int} {seen todo : List Int} {b1 b2 : Bool} (h1 : Bf l a seen todo b1) (h2 : Bf l a seen todo b2) : b1 = b2 := by
 induction h1 with
 | nil => cases h2; rfl
 | hit => cases h2 <;> first | rfl | contradiction
 | skip _ _ _ _ n1 m1 _ ih =>
  cases h2 with
  | hit => exact absurd rfl n1
  | skip _ _ _ _ _ _ h => exact ih h
  | more _ _ _ _ _ m2 _ => exact absurd m1 m2
 | more _ _ _ _ n1 m1 _ ih =>
  cases h2 with
  | hit => exact absurd rfl n1
  | skip _ _ _ _ _ m2 _ => exact absurd m2 m1
  | more _ _ _ _ _ _ h => exact ih h

def Ykt (l : List Y9z) (seen : List Int) : Nat := l.countP fun e => !decide (e.id ∈ seen)
theorem Yku {l : List Y9z} {seen : List Int} {id : Int} (hi : id ∈ l.map (·.id)) (hn : id ∉ seen) : Ykt l (id :: seen) < Ykt l seen := by
 have key : ∀ l : List Y9z, Ykt l (id :: seen) ≤ Ykt l seen ∧ (id ∈ l.map (·.id) → Ykt l (id :: seen) < Ykt l seen) := by
  intro l
  unfold Ykt
  induction l with
  | nil => simp
  | cons e l ih =>
   obtain ⟨i1, i2⟩ := ih
   by_cases he : e.id = id
   ·
    rw [List.countP_cons_of_neg (by simp [he]), List.countP_cons_of_pos (by simp [he, hn])]
    exact ⟨by omega, fun _ => by omega⟩
   ·
    by_cases hs : e.id ∈ seen
    ·
     rw [List.countP_cons_of_neg (by simp [hs]), List.countP_cons_of_neg (by simp [hs])]
     refine ⟨i1, fun h => i2 ?_⟩
     simp only [List.map_cons, List.mem_cons] at h
     exact h.resolve_left fun h => he h.symm
    ·
     rw [List.countP_cons_of_pos (by simp [hs, he]), List.countP_cons_of_pos (by simp [hs])]
     refine ⟨by omega, fun h => ?_⟩
     simp only [List.map_cons, List.mem_cons] at h
     have := i2 (h.resolve_left fun h => he h.symm)
     omega
 exact (key l).2 hi
theorem Ykv (l : List Y9z) (seen : List Int) : Ykt l seen ≤ l.length := List.countP_le_length

structure Walk (g : Ya3) : Prop where
 fits : Fits g.events
 ev : ∀ e ∈ g.events, EvOk e

theorem Walk.prev {g : Ya3} (h : Walk g) {id : Int} (hi : id ∈ g.events.map (·.id)) : (evD g.events id).prev.length ≤ 4 ∧ ∀ p ∈ (evD g.events id).prev, p ∈ g.events.map (·.id) := by
 obtain ⟨_, h2, _⟩ := Ykm hi h.fits.up
 refine ⟨(h.ev _ h2).prev.1, fun p hp => ?_⟩
 obtain ⟨e, he, hid⟩ := Ygj.1 (h.fits.whole _ h2 p hp)
 exact List.mem_map.2 ⟨e, he, hid⟩

theorem Ykw {l : List Y9z} {id : Int} : hasE l id = true ↔ id ∈ l.map (·.id) := by rw [Ygj, List.mem_map]

theorem Zm5 {g : Ya3} (h : Walk g) (a : Int) {e : Y9z} (he : e ∈ g.events) : ∃ b, Zfl g a e = some b ∧ Bf g.events a [] e.prev b := by
 have hfl := h.fits.len
 have hev : evD g.events e.id = e := by unfold evD; rw [h.fits.up.evAt_mem he]; rfl
 have hpe := h.prev (List.mem_map.2 ⟨e, he, rfl⟩)
 rw [hev] at hpe
 unfold Zfl
 have hcl : Zff e.prev = some e.prev := by unfold Zff; rw [chk8 (by omega)]; rfl
 rw [hcl, Wb]
 obtain ⟨o, h1, h2⟩ := Y4z (step := fun z : List (Int × Bool) × List Int × Int => Zfk g a z.1 z.2.1 z.2.2) (p := fun o : Bool ⊕ Unit => ∃ b, Bf g.events a [] e.prev b ∧ ((o = .inl true ∧ b = true) ∨ (o = .inr () ∧ b = false)))
  (fun k (z : List (Int × Bool) × List Int × Int) => ∃ (seen : List Int) (at_ : Nat), z.2.2 = (at_ : Int) ∧ at_ ≤ z.2.1.length ∧ (∀ id, Option.getD (mget z.1 id) false = true ↔ id ∈ seen) ∧ (∀ id ∈ z.2.1, id ∈ g.events.map (·.id)) ∧ z.2.1.length + 5 * Ykt g.events seen ≤ 400 ∧ (∀ b, Bf g.events a seen (z.2.1.drop at_) b → Bf g.events a [] e.prev b) ∧ k = (z.2.1.length - at_) + 5 * Ykt g.events seen) (by
  rintro k ⟨m, q, x⟩ ⟨seen, at_, hx, hat, hm, hq, hb, hB, hk⟩
  simp only at hx hat hm hq hb hB hk
  subst hx
  simp only [Zfk]
  by_cases hlt : at_ < q.length
  ·
   rw [dlt hlt, Wu, Yfg hlt, Wb, beqd]
   rw [List.drop_eq_getElem_cons hlt] at hB
   have hqi := hq _ (Wm hlt)
   generalize q[at_] = id at hB hqi
   by_cases ha : id = a
   ·
    left
    rw [Wt ha, Wu]
    subst ha
    exact ⟨_, rfl, true, hB _ (.hit _ _), .inl ⟨rfl, rfl⟩⟩
   ·
    right
    rw [Wf ha, Wv]
    simp only [Zfj, Yfh hlt (by omega : q.length < 9223372036854775807)]
    by_cases hs : Option.getD (mget m id) false = true
    ·
     rw [hs, Wu]
     exact ⟨_, k - 1, rfl, by omega, seen, at_ + 1, rfl, by simp only; omega, hm, hq, hb, fun b h => hB b (.skip _ _ _ _ ha ((hm id).1 hs) h), by simp only; omega⟩
    ·
     rw [Bool.eq_false_iff.2 hs, Wv, c_at _ _ h.fits.up (by omega), Wb]
     have hns : id ∉ seen := fun h => hs ((hm id).2 h)
     have hp := h.prev hqi
     have hu := Yku hqi hns
     have e1 : (evAt g.events id).getD zEv = evD g.events id := rfl
     rw [e1, chk8 (by show q.length + (evD g.events id).prev.length < 1000000000; omega), Wb]
     refine ⟨_, (q.length + (evD g.events id).prev.length - (at_ + 1)) + 5 * Ykt g.events (id :: seen), rfl, by omega, id :: seen, at_ + 1, rfl, by simp; omega, fun id' => ?_, fun id' hid => ?_, by simp; omega, fun b h => hB b ?_, by simp⟩
     ·
      rw [Y6m]
      by_cases h3 : id' = id
      ·
       rw [if_pos h3]; simp [h3]
      ·
       rw [if_neg h3, hm]; simp [h3]
     ·
      rcases List.mem_append.1 hid with hid | hid
      ·
       exact hq _ hid
      ·
       exact hp.2 _ hid
     ·
      refine .more _ _ _ _ ha hns ?_
      simp only at h
      rwa [List.drop_append_of_le_length (by omega)] at h
  ·
   left
   obtain rfl : at_ = q.length := by omega
   rw [dnlt, Wv]
   rw [List.drop_length] at hB
   exact ⟨_, rfl, false, hB _ (.nil _), .inr ⟨rfl, rfl⟩⟩) big (e.prev.length + 5 * Ykt g.events []) ([], e.prev, 0) ⟨[], 0, rfl, by simp, by simp [mget], hpe.2, by have := Ykv g.events []; simp only; omega, by simp, by simp⟩ (Yfb (by have := Ykv g.events []; omega))
 obtain ⟨b, hb, h2⟩ := h2
 rw [h1, Wb]
 rcases h2 with ⟨rfl, rfl⟩ | ⟨rfl, rfl⟩
 ·
  exact ⟨true, rfl, hb⟩
 ·
  exact ⟨false, rfl, hb⟩

theorem Ykx (e : Y9z) (h : e.prev.length < 1000000) : Z5c e = some e := by
 unfold Z5c
 rw [chk8 (by simp; omega), Wb]
 rfl

theorem Yky {g : Ya3} (hl : g.events.length < 1000000) {e : Y9z} {id : Int} (he : evAt g.events id = some e) (hp : e.prev.length < 1000000) : Z5e g id = some e := by
 unfold Z5e
 obtain ⟨h1, h2⟩ := Yjc he
 rw [Ygd _ _ (by omega), Wb, Wf (by omega), Wv, h1, Wb, Ykx _ hp]; rfl

theorem Zm6 {g : Ya3} (h : Walk g) (a : Int) (ha : a ∈ g.events.map (·.id)) {e : Y9z} (he : e ∈ g.events) : ∃ b, Z5j g a e.id = some b ∧ Bf g.events a [] e.prev b := by
 have hfl := h.fits.len
 have hee := h.fits.up.evAt_mem he
 have hev : evD g.events e.id = e := by unfold evD; rw [hee]; rfl
 have hpe := h.prev (List.mem_map.2 ⟨e, he, rfl⟩)
 rw [hev] at hpe
 unfold Z5j
 rw [Ygd _ _ (by omega), Wb, Ygf, Ykw.2 ha, Ygd _ _ (by omega), Wb, Ygf, Ygi he]
 simp only [Bool.not_true, Wv, Z5i]
 rw [Y4x (Wt ⟨by omega, by omega⟩), Wb, Yky (by omega) hee (by omega), Wb, chk8 (by simp; omega), Wb, Int.toNat_natCast, List.nil_append]
 obtain ⟨o, h1, h2⟩ := Y4z (step := fun z : List Bool × List Int => Z5h g a z.1 z.2) (p := fun o : Bool ⊕ Unit => ∃ b, Bf g.events a [] e.prev b ∧ ((o = .inl true ∧ b = true) ∨ (o = .inr () ∧ b = false)))
  (fun k (z : List Bool × List Int) => ∃ (seen : List Int), z.1.length = g.events.length ∧ (∀ id ∈ g.events.map (·.id), getI z.1 (plc g.events id) = some (decide (id ∈ seen))) ∧ (∀ id ∈ z.2, id ∈ g.events.map (·.id)) ∧ z.2.length + 5 * Ykt g.events seen ≤ 400 ∧ (∀ b, Bf g.events a seen z.2 b → Bf g.events a [] e.prev b) ∧ k = z.2.length + 5 * Ykt g.events seen) (by
  rintro k ⟨m, q⟩ ⟨seen, hml, hm, hq, hb, hB, hk⟩
  simp only at hml hm hq hb hB hk
  simp only [Z5h]
  cases q with
  | nil =>
   left
   exact ⟨_, rfl, false, hB _ (.nil _), .inr ⟨rfl, rfl⟩⟩
  | cons id r =>
   have hqi := hq id (by simp)
   obtain ⟨i1, i2, i3⟩ := Ykm hqi h.fits.up
   rw [Wt (by simp <;> omega), Wu, show (0 : Int) = ((0 : Nat) : Int) from rfl, Yfg (by simp), Wb, Y4x (Wt (by simp <;> omega)), Wb, Ygd _ _ (by omega), Wb]
   simp only [List.getElem_cons_zero, List.length_cons] at hk hb ⊢
   rw [beqd]
   by_cases ha : id = a
   ·
    left
    rw [Wt ha, Wu]
    subst ha
    exact ⟨_, rfl, true, hB _ (.hit _ _), .inl ⟨rfl, rfl⟩⟩
   ·
    right
    rw [Wf ha, Wv, hm id hqi, Wb]
    by_cases hs : id ∈ seen
    ·
     rw [Wt hs, Wu]
     exact ⟨_, k - 1, rfl, by omega, seen, hml, hm, fun id' h => hq id' (by simp at h; simp [h]), by simp; omega, fun b h => hB b (.skip _ _ _ _ ha hs (by simpa using h)), by simp; omega⟩
    ·
     have hp := h.prev hqi
     have hu := Yku hqi hs
     rw [Wf hs, Wv, (Yjc i1).1, Wb, chk8 (by simp; omega), Wb]
     refine ⟨_, r.length + (evD g.events id).prev.length + 5 * Ykt g.events (id :: seen), rfl, by omega, id :: seen, by simp [hml], fun id' hid => ?_, fun id' hid => ?_, by simp; omega, fun b h => hB b (.more _ _ _ _ ha hs (by simpa using h)), by simp⟩
     ·
      obtain ⟨p, hpl, p1, p2, p3⟩ := Ygg (Ykw.2 hid)
      obtain ⟨p', hpl', p1', p2', p3'⟩ := Ygg (Ykw.2 hqi)
      rw [p1, p1', Int.toNat_natCast]
      have hm' := hm id' hid
      rw [p1] at hm'
      by_cases h3 : id' = id
      ·
       subst h3
       obtain rfl : p = p' := by omega
       rw [Yfg (by simp; omega)]
       simp
      ·
       have hne : p' ≠ p := fun h => by subst h; exact h3 (p2.symm.trans p2')
       rw [Yfg (by omega)] at hm'
       rw [Yfg (by simp; omega), List.getElem_set_ne hne]
       rw [hm']
       simp [h3]
     ·
      simp at hid
      rcases hid with hid | hid
      ·
       exact hq _ (by simp [hid])
      ·
       exact hp.2 _ hid) big (e.prev.length + 5 * Ykt g.events []) (List.replicate g.events.length false, e.prev) ⟨[], by simp, fun id hid => by
   obtain ⟨p, hpl, p1, _, _⟩ := Ygg (Ykw.2 hid)
   rw [p1, Yfg (by simpa using hpl)]; simp, hpe.2, by have := Ykv g.events []; simp only; omega, by simp, by simp⟩ (Yfb (by have := Ykv g.events []; omega))
 obtain ⟨b, hb, h2⟩ := h2
 rw [h1, Wb]
 rcases h2 with ⟨rfl, rfl⟩ | ⟨rfl, rfl⟩
 ·
  exact ⟨true, rfl, hb⟩
 ·
  exact ⟨false, rfl, hb⟩

theorem Bf.none {g : Ya3} (h : Walk g) {a : Int} (ha : a ∉ g.events.map (·.id)) {seen todo : List Int} {b : Bool} (hb : Bf g.events a seen todo b) (ht : ∀ id ∈ todo, id ∈ g.events.map (·.id)) : b = false := by
 induction hb with
 | nil => rfl
 | hit => exact absurd (ht a (by simp)) ha
 | skip _ _ _ _ _ _ _ ih => exact ih fun id hid => ht id (by simp [hid])
 | more _ r id _ _ _ _ ih =>
  refine ih fun id' hid => ?_
  rcases List.mem_append.1 hid with hid | hid
  ·
   exact ht id' (by simp [hid])
  ·
   exact (h.prev (ht id (by simp))).2 _ hid

theorem Ykz {g : Ya3} (h : Walk g) (a : Int) {e : Y9z} (he : e ∈ g.events) : ∃ b, Z5j g a e.id = some b ∧ Zfl g a e = some b := by
 obtain ⟨b, h1, h2⟩ := Zm5 h a he
 by_cases ha : a ∈ g.events.map (·.id)
 ·
  obtain ⟨b', h3, h4⟩ := Zm6 h a ha he
  have := h2.det h4
  subst this
  exact ⟨b, h3, h1⟩
 ·
  have hpe := h.prev (List.mem_map.2 ⟨e, he, rfl⟩)
  have hev : evD g.events e.id = e := by unfold evD; rw [h.fits.up.evAt_mem he]; rfl
  rw [hev] at hpe
  have := h2.none h ha hpe.2
  subst this
  refine ⟨false, ?_, h1⟩
  have hfl := h.fits.len
  unfold Z5j
  rw [Ygd _ _ (by omega), Wb, Ygf, Bool.eq_false_iff.2 (fun hh => ha (Ykw.1 hh))]
  rfl


def Cons (l : List Y9z) (d : List Int) : Prop := ∀ (i : Nat) (hi : i < l.length), d.getD i 0 > 0 → own l d l[i] = d.getD i 0

theorem Yl0 {l : List Y9z} {d : List Int} {e : Y9z} (h : own l d e > 0) : e.prev.all (fun p => decide (dOf l d p > 0)) = true := by
 unfold own at h
 split at h
 ·
  assumption
 ·
  omega

theorem Yl1 {f g : Int → Int → Int} : ∀ {l : List Int} {m : Int}, (∀ m, ∀ p ∈ l, f m p = g m p) → l.foldl f m = l.foldl g m
 | [], _, _ => rfl
 | p :: l, m, h => by rw [List.foldl_cons, List.foldl_cons, h m p (by simp)]; exact Yl1 fun m q hq => h m q (by simp [hq])

theorem Yl2 {l : List Y9z} {d : List Int} (hd : d.length = l.length) (hw : Whole l) {i : Nat} {v : Int} (h0 : d.getD i 0 = 0) {e : Y9z} (he : e ∈ l) (h : own l d e > 0) : own l (d.set i v) e = own l d e := by
 have hp := Yl0 h
 have hsame : ∀ p ∈ e.prev, dOf l (d.set i v) p = dOf l d p := fun p hp' => by
  have h1 := Wo (List.all_eq_true.1 hp p hp')
  obtain ⟨k, hk, k1, _, _⟩ := Ygg (hw e he p hp')
  unfold dOf at h1 ⊢
  rw [k1] at h1 ⊢
  have hkd : k < d.length := by omega
  rw [Yfg hkd] at h1
  rw [Yfg (by simpa using hkd), Yfg hkd]
  by_cases hik : i = k
  ·
   subst hik
   simp only [List.getD_eq_getElem?_getD, We hkd, Option.getD_some] at h0
   simp only [Option.getD_some] at h1
   omega
  ·
   rw [List.getElem_set_ne hik]
 unfold own
 have e1 : e.prev.all (fun p => decide (dOf l (d.set i v) p > 0)) = e.prev.all (fun p => decide (dOf l d p > 0)) := by
  rw [Bool.eq_iff_iff, List.all_eq_true, List.all_eq_true]
  constructor
  ·
   intro h2 p hp'; have := h2 p hp'; rwa [hsame p hp'] at this
  ·
   intro h2 p hp'; rw [hsame p hp']; exact h2 p hp'
 rw [e1, Yl1 fun m p hp' => by rw [hsame p hp']]

theorem Cons.upd {l : List Y9z} {d : List Int} {c i : Nat} (hw : Whole l) (hb : Bd l c d) (hi : i < l.length) (h : Cons l d) : Cons l (updD l d i) := by
 rcases Yh5 hb hi with h1 | ⟨h1, h2, h3, _⟩
 ·
  rw [h1]; exact h
 ·
  rw [h3]
  have e2 : l.getD i zEv = l[i] := by simp [hi]
  rw [e2] at h2 ⊢
  intro j hj hpos
  have hjd : j < d.length := by rw [hb.len]; exact hj
  have hid : i < d.length := by rw [hb.len]; exact hi
  by_cases hij : i = j
  ·
   subst hij
   rw [Yl2 hb.len hw h1 (Wm hi) h2]
   simp [hid]
  ·
   have e3 : (d.set i (own l d l[i])).getD j 0 = d.getD j 0 := by
    simp only [List.getD_eq_getElem?_getD, List.getElem?_set_ne hij]
   rw [e3] at hpos ⊢
   have h4 := h j hj hpos
   rw [Yl2 hb.len hw h1 (Wm hj) (by omega)]
   exact h4

theorem Cons.sweep {l : List Y9z} {d : List Int} {c : Nat} (hw : Whole l) (hb : Bd l c d) (h : Cons l d) : Cons l (sweep l d) := by
 unfold Go.Proofs.YtnoknphekhclcaaGreatDoor.sweep
 suffices key : ∀ (r : List Nat) (c : Nat) (d : List Int), (∀ i ∈ r, i < l.length) → Bd l c d → Cons l d → Cons l (r.foldl (updD l) d) from key _ c d (fun i hi => by simpa using hi) hb h
 intro r
 induction r with
 | nil => intro c d _ _ h; exact h
 | cons i r ih =>
  intro c d hr hb h
  rw [List.foldl_cons]
  exact ih (c + 1) _ (fun j hj => hr j (by simp [hj])) (Yh1 hw hb (hr i (by simp))) (h.upd hw hb (hr i (by simp)))

theorem Yl3 {l : List Y9z} (hf : Fits l) : Cons l (Ygx l) := by
 unfold Ygx
 have hz : Bd l 0 (List.replicate l.length 0) := ⟨by simp, fun x hx => by rw [List.eq_of_mem_replicate hx]; simp⟩
 have key : ∀ k, k ≤ l.length → Cons l (Ygw l k (List.replicate l.length 0)) := by
  intro k
  induction k with
  | zero =>
   intro _ i hi h
   simp [Ygw, hi] at h
  | succ k ih =>
   intro hk
   exact (ih (by omega)).sweep hf.whole (Yh9 hf hz k (by omega))
 exact key _ (Nat.le_refl _)

theorem Yl4 (a b : Int) : a ≤ mx2 a b ∧ b ≤ mx2 a b := by unfold mx2; split <;> omega
theorem Yl5 {l : List Y9z} (hf : Fits l) (hd : Deep l) {e : Y9z} (he : e ∈ l) {p : Int} (hp : p ∈ e.prev) : dOf l (Ygx l) p < dOf l (Ygx l) e.id := by
 obtain ⟨i, hi, rfl⟩ := List.mem_iff_getElem.1 he
 have hb := (Yh3 hf).2
 have hid : i < (Ygx l).length := by rw [hb.len]; exact hi
 have e1 : dOf l (Ygx l) l[i].id = (Ygx l)[i] := by
  unfold dOf
  rw [(hf.up.plc hi).1, Yfg hid]; rfl
 have e2 : (Ygx l).getD i 0 = (Ygx l)[i] := by simp [hid]
 have hpos := hd _ (Wm hid)
 have hc := Yl3 hf i hi (by rw [e2]; exact hpos)
 rw [e2] at hc
 rw [e1]
 have ha := Yl0 (l := l) (d := Ygx l) (e := l[i]) (by omega)
 unfold own at hc
 rw [if_pos ha] at hc
 have hmx : ∀ (ps : List Int) (m : Int), p ∈ ps → dOf l (Ygx l) p ≤ ps.foldl (fun m p => mx2 m (dOf l (Ygx l) p)) m := by
  intro ps
  have hmono : ∀ (ps : List Int) (m : Int), m ≤ ps.foldl (fun m p => mx2 m (dOf l (Ygx l) p)) m := by
   intro ps
   induction ps with
   | nil => intro m; exact Int.le_refl _
   | cons q ps ih => intro m; rw [List.foldl_cons]; have := ih (mx2 m (dOf l (Ygx l) q)); have := (Yl4 m (dOf l (Ygx l) q)).1; omega
  induction ps with
  | nil => intro m h; cases h
  | cons q ps ih =>
   intro m h
   rw [List.foldl_cons]
   rcases List.mem_cons.1 h with rfl | h
   ·
    have := hmono ps (mx2 m (dOf l (Ygx l) p)); have := (Yl4 m (dOf l (Ygx l) p)).2; omega
   ·
    exact ih _ h
 have := hmx _ 0 hp
 omega
end Go.Proofs.YtnoknphekhclcaaGreatDoor
namespace Go.Proofs.YtnoknphekhclcaaGreatDoor
open Go Go.Abs

theorem Yl6 {τ1 τ2 ω1 ω2 σ1 σ2 : Type} {step1 : τ1 → Option (τ1 ⊕ ω1)} {step2 : τ2 → Option (τ2 ⊕ ω2)} {n : Nat} (emb1 : σ1 → Int → τ1) (emb2 : σ2 → Int → τ2) (I : Nat → σ1 → σ2 → Prop) (Q : ω1 → ω2 → Prop) (hn : n < 9223372036854775807)
  (h1 : ∀ (i : Nat) (s : σ1) (t : σ2), i < n → I i s t → ∃ s' t', step1 (emb1 s i) = some (.inl (emb1 s' ((i + 1 : Nat) : Int))) ∧ step2 (emb2 t i) = some (.inl (emb2 t' ((i + 1 : Nat) : Int))) ∧ I (i + 1) s' t')
  (h2 : ∀ s t, I n s t → ∃ o o', step1 (emb1 s n) = some (.inr o) ∧ step2 (emb2 t n) = some (.inr o') ∧ Q o o') {s : σ1} {t : σ2} (h0 : I 0 s t) :
  ∃ o o', iter step1 big (emb1 s 0) = some o ∧ iter step2 big (emb2 t 0) = some o' ∧ Q o o' := by
 have key : ∀ m i k : Nat, ∀ s t, i + m = n → m < k → I i s t → ∃ o o', iter step1 k (emb1 s i) = some o ∧ iter step2 k (emb2 t i) = some o' ∧ Q o o' := by
  intro m
  induction m with
  | zero =>
   intro i k s t hm hk hi
   obtain ⟨k, rfl⟩ : ∃ k', k = k' + 1 := ⟨k - 1, by omega⟩
   obtain rfl : i = n := by omega
   obtain ⟨o, o', e1, e2, hq⟩ := h2 s t hi
   exact ⟨o, o', by rw [iter, e1]; rfl, by rw [iter, e2]; rfl, hq⟩
  | succ m ih =>
   intro i k s t hm hk hi
   obtain ⟨k, rfl⟩ : ∃ k', k = k' + 1 := ⟨k - 1, by omega⟩
   obtain ⟨s', t', e1, e2, hi'⟩ := h1 i s t (by omega) hi
   obtain ⟨o, o', f1, f2, hq⟩ := ih (i + 1) k s' t' (by omega) (by omega) hi'
   exact ⟨o, o', by rw [iter, e1]; exact f1, by rw [iter, e2]; exact f2, hq⟩
 exact key n 0 big s t (by omega) (Yfb (by omega)) h0


theorem Yl7 {l : List Y9z} {k : Nat} (hk : k < l.length) : idPl l (k : Int) = l[k].id := by unfold idPl; simp [hk]
theorem Yl8 {l : List Y9z} (hf : Fits l) {k : Nat} (hk : k < l.length) : dd (Ygx l) (k : Int) = dOf l (Ygx l) l[k].id := by
 have hb := (Yh3 hf).2
 have hkd : k < (Ygx l).length := by rw [hb.len]; exact hk
 unfold dd dOf
 rw [(hf.up.plc hk).1, Yfg hkd]
 simp [hkd]

theorem Yl9 {l : List Y9z} (hf : Fits l) {k : Nat} (hk : k < l.length) : (k : Int) ∈ Yi5 l := by
 refine (Yi7 hf).2.1.mem_iff.2 ?_
 unfold idt
 exact List.mem_map.2 ⟨k, List.mem_range'_1.2 ⟨by omega, by omega⟩, rfl⟩

theorem Yla {l : List Y9z} (hf : Fits l) : (Yi6 l).length = l.length := by unfold Yi6; rw [List.length_map, Yi9 hf]
theorem Ylb {l : List Y9z} (hf : Fits l) {id : Int} : id ∈ Yi6 l ↔ id ∈ l.map (·.id) := by
 unfold Yi6
 rw [List.mem_map, List.mem_map]
 constructor
 ·
  rintro ⟨x, hx, rfl⟩
  obtain ⟨k, rfl, hk⟩ := Yi8 hf hx
  exact ⟨l[k], Wm hk, (Yl7 hk).symm⟩
 ·
  rintro ⟨e, he, rfl⟩
  obtain ⟨k, hk, rfl⟩ := List.mem_iff_getElem.1 he
  exact ⟨(k : Int), Yl9 hf hk, Yl7 hk⟩
theorem Ylc {l : List Y9z} (hf : Fits l) : (Yi6 l).Nodup := by
 unfold Yi6
 rw [List.nodup_iff_pairwise_ne, List.pairwise_map]
 refine List.Pairwise.imp_of_mem (fun {a b} ha hb hab he => ?_) (Yi7 hf).2.2
 obtain ⟨i, rfl, hi⟩ := Yi8 hf ha
 obtain ⟨j, rfl, hj⟩ := Yi8 hf hb
 rw [Yl7 hi, Yl7 hj] at he
 obtain rfl := hf.up.inj hi hj he
 unfold Lt2 at hab; omega

theorem Yld {l : List Y9z} {i : Nat} (h1 : i < (Yi5 l).length) (h2 : i < (Yi6 l).length) : (Yi6 l)[i] = idPl l (Yi5 l)[i] := List.getElem_map _
theorem Yle {l : List Y9z} (hf : Fits l) (hd : Deep l) {i : Nat} (hi : i < (Yi6 l).length) {e : Y9z} (he : evAt l (Yi6 l)[i] = some e) {p : Int} (hp : p ∈ e.prev) : p ∈ (Yi6 l).take i := by
 obtain ⟨hel, hid⟩ := Ygk he
 obtain ⟨f, hfl, hfid⟩ := Ygj.1 (hf.whole e hel p hp)
 obtain ⟨k, hk, rfl⟩ := List.mem_iff_getElem.1 hfl
 obtain ⟨u, hu, huk⟩ := List.mem_iff_getElem.1 (Yl9 hf hk)
 have hlt := Yl5 hf hd hel hp
 have hil : i < (Yi5 l).length := by rw [Yi9 hf]; rw [Yla hf] at hi; exact hi
 obtain ⟨x, hx, hxl⟩ := Yi8 hf (Wm hil)
 have e1 : (Yi6 l)[i] = l[x].id := by
  rw [Yld hil hi, hx, Yl7 hxl]
 have d1 := Yl8 hf hxl
 have d2 := Yl8 hf hk
 rw [← e1, ← hid] at d1
 rw [hfid] at d2
 have hui : u < i := by
  rcases Nat.lt_trichotomy u i with h | h | h
  ·
   exact h
  ·
   subst h
   rw [hx] at huk
   have : x = k := by omega
   subst this
   omega
  ·
   have := List.pairwise_iff_getElem.1 (Yi7 hf).2.2 i u hil hu h
   rw [hx, huk] at this
   unfold Lt2 at this; omega
 have hul : u < (Yi6 l).length := by omega
 have e2 : (Yi6 l)[u] = p := by
  rw [Yld hu hul, huk, Yl7 hk, hfid]
 have : ((Yi6 l).take i)[u]'(by simp; omega) = p := by simp [e2]
 rw [← this]
 exact Wm _


def Ylf (g : Ya3) (a : Int) (e : Y9z) : Bool := (Zfl g a e).getD false
def Ylg (g : Ya3) (s : List Ya5) (e : Y9z) : Int := if alw g s e = 0 ∧ e.kind = 8 ∧ Ylf g e.key e = false then 6 else alw g s e
def Ylh (g : Ya3) (s : List Ya5) (e : Y9z) : List Ya5 := if Ylg g s e = 0 ∧ e.kind ≤ 6 then putE s e else s

theorem Yli {g : Ya3} (hu : Up2 g.events) {s : List Ya5} (hs : StOk g.events s) {e : Y9z} (he : e ∈ g.events) : StOk g.events (Ylh g s e) := by
 unfold Ylh
 split
 ·
  exact hs.put (hu.evAt_mem he)
 ·
  exact hs

structure Ylj (g : Ya3) (ls : Int → List Ya5) (B A : List (Int × List Ya5)) (R : List (Int × Int)) (ah bh : List (List Ya5)) (cd : List Int) (e : Y9z) : Prop where
 ok : StOk g.events (Ykq g (e.prev.map ls))
 mB : mget B e.id = some (Ykq g (e.prev.map ls))
 mR : mget R e.id = some (Ylg g (Ykq g (e.prev.map ls)) e)
 mA : mget A e.id = some (Ylh g (Ykq g (e.prev.map ls)) e)
 ga : getI ah (plc g.events e.id) = some (Ykq g (e.prev.map ls))
 gc : getI cd (plc g.events e.id) = some (Ylg g (Ykq g (e.prev.map ls)) e)
 gb : getI bh (plc g.events e.id) = some (Ylh g (Ykq g (e.prev.map ls)) e)

def behI (A : List (Int × List Ya5)) (id : Int) : List Ya5 := Option.getD (mget A id) []

structure Ylk (g : Ya3) : Prop where
 fits : Fits g.events
 ev : ∀ e ∈ g.events, EvOk e
 deep : Deep g.events
theorem GOk.right {g : Ya3} (h : GOk g) : Ylk g := ⟨h.fits, fun e he => (h.ev e he).1, h.deep⟩
theorem Ylk.walk {g : Ya3} (h : Ylk g) : Walk g := ⟨h.fits, h.ev⟩

theorem Yll {g : Ya3} (h : Ylk g) (a : Int) {e : Y9z} (he : e ∈ g.events) : Z5j g a e.id = some (Ylf g a e) ∧ Zfl g a e = some (Ylf g a e) := by
 obtain ⟨b, h1, h2⟩ := Ykz h.walk a he
 unfold Ylf
 rw [h1, h2]
 exact ⟨rfl, rfl⟩

theorem Ylm {α : Type} {l : List α} {k j : Nat} {v : α} (hk : k < l.length) : getI (l.set k v) (j : Int) = if j = k then some v else getI l (j : Int) := by
 have h0 : (0 : Int) ≤ (j : Int) := by omega
 simp only [getI, h0, if_true, Int.toNat_natCast]
 by_cases h : j = k
 ·
  subst h; rw [if_pos rfl, List.getElem?_set_self hk]
 ·
  rw [if_neg h, List.getElem?_set_ne (by omega)]

theorem Zm7 {h : Ya9} (hr : Ylk h.graph) (hk : Ykr h) {e : Y9z} (he : e ∈ h.graph.events) (hpl : ∀ p ∈ e.prev, StOk h.graph.events (behI h.after p)) :
  Zfq h e = some (mset h.before e.id (Ykq h.graph (e.prev.map (behI h.after))), mset h.after e.id (Ylh h.graph (Ykq h.graph (e.prev.map (behI h.after))) e), mset h.refused e.id (Ylg h.graph (Ykq h.graph (e.prev.map (behI h.after))) e)) := by
 have hp4 := (hr.ev e he).prev.1
 have hst : Zcx h e.prev = some (e.prev.map (behI h.after)) := by
  unfold Zcx
  have := Yfx (l := e.prev) (step := fun z : List (List Ya5) × Int => Zcw h e.prev z.1 z.2) (fun q j => (q, j)) (fun q => q) (fun q p => q ++ [behI h.after p]) (fun i q => q.length = i) (by omega) (fun i q hi hq => by
   refine ⟨?_, by simp [hq]⟩
   simp only [Zcw]
   rw [dlt hi, Wu, Yfg hi, Wb, Yit (by simp; omega), Wb, Yfh hi (by omega)]; rfl)
   (fun q _ => by simp only [Zcw]; rw [dnlt, Wv]) (s := []) rfl
  have e1 : ∀ (r : List Int) (q : List (List Ya5)), r.foldl (fun q p => q ++ [behI h.after p]) q = q ++ r.map (behI h.after) := by
   intro r
   induction r with
   | nil => intro q; simp
   | cons p r ih => intro q; rw [List.foldl_cons, ih]; simp
  rw [this.1, e1]; rfl
 have hm : Mrg h.graph (e.prev.map (behI h.after)) := ⟨hr.fits, hr.ev, hr.deep, fun s hs => by obtain ⟨p, hp, rfl⟩ := List.mem_map.1 hs; exact hpl p hp, by simp; omega⟩
 obtain ⟨_, c2, c3⟩ := Yks hm hk
 unfold Zfq
 rw [hst, Wb, c2, Wb, (Yjn (hm.sts c3) (hr.ev e he).ask).2, Wb, (Yll hr _ he).2, beqd, beqd]
 have hsl := hm.slen c3
 generalize Ykq h.graph (e.prev.map (behI h.after)) = s at c3 hsl
 have hid := (hr.ev e he).id.1
 have hput := Yj7 c3.up (Ya5.mk e.kind e.key e.id) (by simp only; omega) (by omega)
 simp only [Zfp, Zfo, Zfn, Wb, hput, Y6n, beqd]
 unfold Ylh Ylg putE
 by_cases h1 : alw h.graph s e = 0
 ·
  by_cases h2 : e.kind = 8
  ·
   cases h3 : Ylf h.graph e.key e with
   | false => simp [h1, h2]
   | true => simp [h1, h2]
  ·
   by_cases h4 : e.kind ≤ 6
   ·
    simp [h1, h2, h4]
   ·
    simp [h1, h2, h4]
 ·
  simp [h1]
end Go.Proofs.YtnoknphekhclcaaGreatDoor
namespace Go.Proofs.YtnoknphekhclcaaGreatDoor
open Go Go.Abs

theorem Yln {α β : Type} (f : α → β) : ∀ (r : List α) (q : List β), r.foldl (fun q p => q ++ [f p]) q = q ++ r.map f
 | [], q => by simp
 | p :: r, q => by rw [List.foldl_cons, Yln f r]; simp

theorem Zm8 {g : Ya3} (hr : Ylk g) {od : List Int} {ah bh : List (List Ya5)} {cd : List Int} (ls : Int → List Ya5) {i : Nat} (hi : i < od.length) (hil : i < g.events.length) {k : Nat} (hk : k < g.events.length) (hid : od[i] = g.events[k].id)
  (la : ah.length = g.events.length) (lb : bh.length = g.events.length) (lc : cd.length = g.events.length) (hpl : ∀ p ∈ g.events[k].prev, StOk g.events (ls p) ∧ getI bh (plc g.events p) = some (ls p)) :
  Z5s g (Ygx g.events) od ah bh cd (i : Int) = some (.inl (ah.set k (Ykq g (g.events[k].prev.map ls)), bh.set k (Ylh g (Ykq g (g.events[k].prev.map ls)) g.events[k]), cd.set k (Ylg g (Ykq g (g.events[k].prev.map ls)) g.events[k]), ((i + 1 : Nat) : Int))) := by
 have hfl := hr.fits.len
 have he : g.events[k] ∈ g.events := Wm hk
 have hev := hr.ev _ he
 have hp4 := hev.prev.1
 have hplc := (hr.fits.up.plc hk).1
 simp only [Z5s]
 rw [dlt hil, Wu, Yfg hi, Wb, hid, Ygd _ _ (by omega), Wb, hplc, Yfg hk, Wb]
 generalize g.events[k] = e at *
 have h7 := Yfx (l := e.prev) (step := fun z : List (List Ya5) × Int => Z5r g bh e z.1 z.2) (fun q j => (q, j)) (fun q => q) (fun q p => q ++ [ls p]) (fun i q => q.length = i) (by omega) (fun i q hi hq => by
  refine ⟨?_, by simp [hq]⟩
  simp only [Z5r]
  rw [dlt hi, Wu, Yfg hi, Wb, Ygd _ _ (by omega), Wb, (hpl _ (Wm hi)).2, Wb, Yit (by simp; omega), Wb, Yfh hi (by omega)])
  (fun q _ => by simp only [Z5r]; rw [dnlt, Wv]) (s := []) rfl
 rw [h7.1, Yln, Wb, List.nil_append]
 have hm : Mrg g (e.prev.map ls) := ⟨hr.fits, hr.ev, hr.deep, fun s hs => by obtain ⟨p, hp, rfl⟩ := List.mem_map.1 hs; exact (hpl p hp).1, by simp; omega⟩
 -- any history that knows the depths
 have hkn : Ykr (Ya9.mk g (g.events.map fun e => (e.id, dmR g.events e)) [] [] []) := by
  intro e' he'
  have key : ∀ l : List Y9z, e' ∈ l → mget (l.map fun e => (e.id, dmR g.events e)) e'.id = some (dmR g.events e') := by
   intro l
   induction l with
   | nil => intro h; cases h
   | cons f l ih =>
    intro h
    simp only [List.map_cons, mget]
    by_cases hf : e'.id = f.id
    ·
     rw [if_pos hf]
     unfold dmR
     rw [hf]
    ·
     rw [if_neg hf]
     rcases List.mem_cons.1 h with rfl | h
     ·
      exact absurd rfl hf
     ·
      exact ih h
  exact key _ he'
 obtain ⟨c1, _, c3⟩ := Yks (h := Ya9.mk g (g.events.map fun e => (e.id, dmR g.events e)) [] [] []) hm hkn
 simp only at c1 c3
 simp only [Z5q]
 rw [c1, Wb, Yfg (by omega : k < ah.length), Wb, Int.toNat_natCast, Ylm (by omega), if_pos rfl, Wb, (Yjn (hm.sts c3) hev.ask).1, Wb, Yfg (by omega : k < cd.length), Wb, Ylm (by omega), if_pos rfl, Wb, (Yll hr _ he).1, beqd, beqd]
 have hsl := hm.slen c3
 generalize Ykq g (e.prev.map ls) = s at c3 hsl
 have hput := Yiw c3.up (Ya5.mk e.kind e.key e.id) (by omega)
 have w1 : IntKind.i64.wrap ((i : Int) + 1) = ((i + 1 : Nat) : Int) := Yfh hil (by omega)
 simp only [Z5p, Z5o, Z5n, Z5m, Int.toNat_natCast, hput, List.nil_append]
 rw [Yit (by simp; omega)]
 have hgb : ∀ v : List Ya5, getI (bh.set k v) (k : Int) = some v := fun v => by rw [Ylm (by omega), if_pos rfl]
 have hgc : ∀ v : Int, getI (cd.set k v) (k : Int) = some v := fun v => by rw [Ylm (by omega), if_pos rfl]
 have hgb0 := Yfg (by omega : k < bh.length)
 simp only [Wb, hgb, hgc, hgb0, w1, List.set_set, beqd]
 unfold Ylh Ylg putE
 by_cases h1 : alw g s e = 0
 ·
  by_cases h2 : e.kind = 8
  ·
   cases h3 : Ylf g e.key e with
   | false => simp [h1, h2, hgc]
   | true => simp [h1, h2, hgc]
  ·
   by_cases h4 : e.kind ≤ 6
   ·
    simp [h1, h2, h4, hgc]
   ·
    simp [h1, h2, h4, hgc]
 ·
  simp [h1, hgc]

structure Both (g : Ya3) (h : Ya9) (w : Ya6) : Prop where
 graph : h.graph = g
 depth : Ykr h
 depths : w.depths = Ygx g.events
 la : w.ahead.length = g.events.length
 lb : w.behind.length = g.events.length
 lc : w.code.length = g.events.length
 all : ∀ e ∈ g.events, Ylj g (behI h.after) h.before h.after h.refused w.ahead w.behind w.code e

theorem Ylo {A : List (Int × List Ya5)} {id p : Int} {t : List Ya5} (h : p ≠ id) : behI (mset A id t) p = behI A p := by
 unfold behI; rw [Y6m, if_neg h]

theorem Ylp {g : Ya3} (hr : Ylk g) : ∃ h w, Zfw g = some h ∧ Z5u g = some w ∧ Both g h w := by
 have hfl := hr.fits.len
 obtain ⟨e0, hb⟩ := Yh3 hr.fits
 have hol := Yla hr.fits
 -- the depths
 obtain ⟨m, hm1, hm2⟩ : ∃ m, iter (fun z : List (Int × Int) × Int => Zfv g (Ygx g.events, decide (Yh4 (Ygx g.events) = 0)) z.1 z.2) big ([], 0) = some m ∧ ∀ e ∈ g.events, mget m e.id = some (dmR g.events e) := by
  obtain ⟨o, h1, h2⟩ := Yfe (τ := List (Int × Int) × Int) (ω := List (Int × Int)) (σ := List (Int × Int)) (step := fun z : List (Int × Int) × Int => Zfv g (Ygx g.events, decide (Yh4 (Ygx g.events) = 0)) z.1 z.2) (n := g.events.length) (fun s j => (s, j))
   (fun i s => ∀ (j : Nat) (hj : j < g.events.length), j < i → mget s g.events[j].id = some (dmR g.events g.events[j])) (fun o => ∀ (j : Nat) (hj : j < g.events.length), mget o g.events[j].id = some (dmR g.events g.events[j])) (by omega) (by
   intro i s hi hI
   have hid : i < (Ygx g.events).length := by rw [hb.len]; exact hi
   refine ⟨mset s g.events[i].id (Ygx g.events)[i], ?_, fun j hj hji => ?_⟩
   ·
    simp only [Zfv]
    rw [dlt hi, Wu, Yfg hi, Wb, Yfg hid, Wb, Yfh hi (by omega)]
   ·
    rw [Y6m]
    by_cases he : g.events[j].id = g.events[i].id
    ·
     rw [if_pos he]
     obtain rfl := hr.fits.up.inj hj hi he
     unfold dmR dOf
     rw [(hr.fits.up.plc hj).1, Yfg hid]; rfl
    ·
     rw [if_neg he]
     exact hI j hj (by
      rcases Nat.lt_or_ge j i with h | h
      ·
       exact h
      ·
       obtain rfl : j = i := by omega
       exact absurd rfl he)) (by
   intro s hI
   simp only [Zfv]
   rw [dnlt, Wv]
   exact ⟨s, rfl, fun j hj => hI j hj hj⟩) (s := []) (fun j hj h => by omega)
  refine ⟨o, h1, fun e he => ?_⟩
  obtain ⟨j, hj, rfl⟩ := List.mem_iff_getElem.1 he
  exact h2 j hj
 -- the states
 have hpos : ∀ i, (hi : i < (Yi6 g.events).length) → ∃ k, ∃ hk : k < g.events.length, (Yi6 g.events)[i] = g.events[k].id := fun i hi => by
  obtain ⟨e, he, h1⟩ := List.mem_map.1 ((Ylb hr.fits).1 (Wm hi))
  obtain ⟨k, hk, rfl⟩ := List.mem_iff_getElem.1 he
  exact ⟨k, hk, h1.symm⟩
 obtain ⟨⟨B, A, R⟩, ⟨ah, bh, cd⟩, q1, q2, la, lb, lc, hall⟩ := Yl6 (step1 := fun z : List (Int × List Ya5) × List (Int × List Ya5) × List (Int × Int) × Int => Zft g m (Yi6 g.events) z.1 z.2.1 z.2.2.1 z.2.2.2) (step2 := fun z : List (List Ya5) × List (List Ya5) × List Int × Int => Z5s g (Ygx g.events) (Yi6 g.events) z.1 z.2.1 z.2.2.1 z.2.2.2) (n := g.events.length)
  (fun (s : List (Int × List Ya5) × List (Int × List Ya5) × List (Int × Int)) j => (s.1, s.2.1, s.2.2, j)) (fun (s : List (List Ya5) × List (List Ya5) × List Int) j => (s.1, s.2.1, s.2.2, j))
  (fun i s t => t.1.length = g.events.length ∧ t.2.1.length = g.events.length ∧ t.2.2.length = g.events.length ∧ ∀ e ∈ g.events, e.id ∈ (Yi6 g.events).take i → Ylj g (behI s.2.1) s.1 s.2.1 s.2.2 t.1 t.2.1 t.2.2 e)
  (fun (s : List (Int × List Ya5) × List (Int × List Ya5) × List (Int × Int)) (t : List (List Ya5) × List (List Ya5) × List Int) => t.1.length = g.events.length ∧ t.2.1.length = g.events.length ∧ t.2.2.length = g.events.length ∧ ∀ e ∈ g.events, Ylj g (behI s.2.1) s.1 s.2.1 s.2.2 t.1 t.2.1 t.2.2 e) (by omega) (by
  rintro i ⟨B, A, R⟩ ⟨ah, bh, cd⟩ hi ⟨la, lb, lc, hI⟩
  simp only at la lb lc hI ⊢
  have hio : i < (Yi6 g.events).length := by omega
  obtain ⟨k, hk, hid⟩ := hpos i hio
  have he : g.events[k] ∈ g.events := Wm hk
  have hevat : evAt g.events (Yi6 g.events)[i] = some g.events[k] := by rw [hid]; exact (hr.fits.up.plc hk).2
  have hprev : ∀ p ∈ g.events[k].prev, ∃ f ∈ g.events, f.id = p ∧ p ∈ (Yi6 g.events).take i := fun p hp => by
   obtain ⟨f, hf, hfid⟩ := Ygj.1 (hr.fits.whole _ he p hp)
   exact ⟨f, hf, hfid, Yle hr.fits hr.deep hio hevat hp⟩
  have hknow : ∀ p ∈ g.events[k].prev, StOk g.events (behI A p) ∧ getI bh (plc g.events p) = some (behI A p) := fun p hp => by
   obtain ⟨f, hf, hfid, ht⟩ := hprev p hp
   subst hfid
   have hk := hI f hf ht
   have e1 : behI A f.id = Ylh g (Ykq g (f.prev.map (behI A))) f := by
    show Option.getD (mget A f.id) [] = _
    rw [hk.mA]; rfl
   rw [e1]
   exact ⟨Yli hr.fits.up hk.ok hf, hk.gb⟩
  have hks : Ykr (Ya9.mk g m B A R) := hm2
  have s1 := Zm7 (h := Ya9.mk g m B A R) hr hks he (fun p hp => (hknow p hp).1)
  have s2 := Zm8 hr (od := Yi6 g.events) (ah := ah) (bh := bh) (cd := cd) (behI A) hio hi hk hid la lb lc hknow
  have hm : Mrg g (g.events[k].prev.map (behI A)) := ⟨hr.fits, hr.ev, hr.deep, fun s hs => by obtain ⟨p, hp, rfl⟩ := List.mem_map.1 hs; exact (hknow p hp).1, by have := (hr.ev _ he).prev.1; simp; omega⟩
  have hsok := (Yks (h := Ya9.mk g m B A R) hm hks).2.2
  simp only at s1 hsok
  refine ⟨(mset B g.events[k].id (Ykq g (g.events[k].prev.map (behI A))), mset A g.events[k].id (Ylh g (Ykq g (g.events[k].prev.map (behI A))) g.events[k]), mset R g.events[k].id (Ylg g (Ykq g (g.events[k].prev.map (behI A))) g.events[k])), (ah.set k (Ykq g (g.events[k].prev.map (behI A))), bh.set k (Ylh g (Ykq g (g.events[k].prev.map (behI A))) g.events[k]), cd.set k (Ylg g (Ykq g (g.events[k].prev.map (behI A))) g.events[k])), ?_, s2, by simp [la], by simp [lb], by simp [lc], ?_⟩
  ·
   simp only [Zft]
   rw [dlt hio, Wu, Yfg hio, Wb, c_at _ _ hr.fits.up (by omega), hevat, Wb]
   simp only [Option.getD_some]
   rw [s1, Wb, Yfh hio (by omega)]
  ·
   intro e hem het
   have hself : ∀ p ∈ g.events[k].prev, p ≠ g.events[k].id := fun p hp => ((hr.ev _ he).prev.2.1 p hp).2.2
   have hpk := (hr.fits.up.plc hk).1
   by_cases hek : e = g.events[k]
   ·
    subst hek
    have e1 : g.events[k].prev.map (behI (mset A g.events[k].id (Ylh g (Ykq g (g.events[k].prev.map (behI A))) g.events[k]))) = g.events[k].prev.map (behI A) := List.map_congr_left fun p hp => Ylo (hself p hp)
    refine ⟨?_, ?_, ?_, ?_, ?_, ?_, ?_⟩
    ·
     simp only [e1]; exact hsok
    ·
     simp only [e1]; rw [Y6m, if_pos rfl]
    ·
     simp only [e1]; rw [Y6m, if_pos rfl]
    ·
     simp only [e1]; rw [Y6m, if_pos rfl]
    ·
     simp only [e1]; rw [hpk, Ylm (by omega), if_pos rfl]
    ·
     simp only [e1]; rw [hpk, Ylm (by omega), if_pos rfl]
    ·
     simp only [e1]; rw [hpk, Ylm (by omega), if_pos rfl]
   ·
    have hne : e.id ≠ g.events[k].id := fun h => hek (by
     obtain ⟨j, hj, rfl⟩ := List.mem_iff_getElem.1 hem
     obtain rfl := hr.fits.up.inj hj hk h
     rfl)
    have het' : e.id ∈ (Yi6 g.events).take i := by
     rw [List.take_add_one, We hio, hid] at het
     rcases List.mem_append.1 het with h | h
     ·
      exact h
     ·
      simp at h; exact absurd h hne
    obtain ⟨j, hj, hji, hje⟩ := Yhl het'
    have hpn : ∀ p ∈ e.prev, p ≠ g.events[k].id := fun p hp hpe => by
     have h1 := Yle hr.fits hr.deep hj (e := e) (by rw [hje]; exact hr.fits.up.evAt_mem hem) hp
     obtain ⟨u, hu, huj, hue⟩ := Yhl h1
     have : u = i := by
      have hnd := Ylc hr.fits
      exact (List.getElem_inj (h₀ := hu) (h₁ := hio) hnd).1 (by rw [hue, hpe, hid])
     omega
    have e1 : e.prev.map (behI (mset A g.events[k].id (Ylh g (Ykq g (g.events[k].prev.map (behI A))) g.events[k]))) = e.prev.map (behI A) := List.map_congr_left fun p hp => Ylo (hpn p hp)
    have hK := hI e hem het'
    obtain ⟨ke, hke, hkp, _, _⟩ := Ygg (Ygi hem)
    have hkk : ke ≠ k := fun h => by
     subst h
     have := hr.fits.up.plc hke
     obtain ⟨j2, hj2, hje2⟩ := List.mem_iff_getElem.1 hem
     have h3 := (hr.fits.up.plc hj2).1
     rw [hje2, hkp] at h3
     have : j2 = ke := by omega
     subst this
     exact hek hje2.symm
    refine ⟨?_, ?_, ?_, ?_, ?_, ?_, ?_⟩
    ·
     simp only [e1]; exact hK.ok
    ·
     simp only [e1]; rw [Y6m, if_neg hne]; exact hK.mB
    ·
     simp only [e1]; rw [Y6m, if_neg hne]; exact hK.mR
    ·
     simp only [e1]; rw [Y6m, if_neg hne]; exact hK.mA
    ·
     simp only [e1]; rw [hkp, Ylm (by omega), if_neg hkk, ← hkp]; exact hK.ga
    ·
     simp only [e1]; rw [hkp, Ylm (by omega), if_neg hkk, ← hkp]; exact hK.gc
    ·
     simp only [e1]; rw [hkp, Ylm (by omega), if_neg hkk, ← hkp]; exact hK.gb) (by
  rintro ⟨B, A, R⟩ ⟨ah, bh, cd⟩ ⟨la, lb, lc, hI⟩
  simp only at la lb lc hI
  refine ⟨(B, A, R), (ah, bh, cd), ?_, ?_, la, lb, lc, fun e he => hI e he ?_⟩
  ·
   simp only [Zft]
   rw [hol, dnlt, Wv]
  ·
   simp only [Z5s]
   rw [dnlt, Wv]
  ·
   rw [List.take_of_length_le (by omega)]
   exact (Ylb hr.fits).2 (List.mem_map.2 ⟨e, he, rfl⟩)) (s := ([], [], [])) (t := (List.replicate g.events.length [], List.replicate g.events.length [], List.replicate g.events.length 0)) ⟨by simp, by simp, by simp, fun e _ h => by simp at h⟩
 simp only at q1 q2 la lb lc hall
 refine ⟨Ya9.mk g m B A R, Ya6.mk (Ygx g.events) ah bh cd, ?_, ?_, rfl, hm2, rfl, la, lb, lc, hall⟩
 ·
  unfold Zfw
  rw [Yha hr.fits, Wb, hm1, Wb]
  simp only [Zfu, Zfs]
  rw [Yia hr.fits, Wb, q1]; rfl
 ·
  unfold Z5u
  rw [e0, Wb, Y4x (Wt ⟨by omega, by omega⟩), Wb, Wb, Y4x (Wt ⟨by omega, by omega⟩), Wb]
  simp only [Z5t, Z5l, Int.toNat_natCast]
  rw [Yii hr.fits hr.deep, Wb, q2]; rfl
end Go.Proofs.YtnoknphekhclcaaGreatDoor
namespace Go.Proofs.YtnoknphekhclcaaGreatDoor
open Go Go.Abs

def refB (h : Ya9) (id : Int) : Bool := decide (Option.getD (mget h.refused id) 0 = 0)

theorem Both.code {g : Ya3} {h : Ya9} {w : Ya6} (hb : Both g h w) {e : Y9z} (he : e ∈ g.events) : ∃ c, getI w.code (plc g.events e.id) = some c ∧ Option.getD (mget h.refused e.id) 0 = c := by
 have hk := hb.all e he
 exact ⟨_, hk.gc, by rw [hk.mR]; rfl⟩
theorem Both.behind {g : Ya3} {h : Ya9} {w : Ya6} (hb : Both g h w) (hr : Ylk g) {e : Y9z} (he : e ∈ g.events) : getI w.behind (plc g.events e.id) = some (behI h.after e.id) ∧ StOk g.events (behI h.after e.id) := by
 have hk := hb.all e he
 have e1 : behI h.after e.id = Ylh g (Ykq g (e.prev.map (behI h.after))) e := by
  show Option.getD (mget h.after e.id) [] = _
  rw [hk.mA]; rfl
 rw [e1]
 exact ⟨hk.gb, Yli hr.fits.up hk.ok he⟩
theorem Both.ahead {g : Ya3} {h : Ya9} {w : Ya6} (hb : Both g h w) {e : Y9z} (he : e ∈ g.events) : getI w.ahead (plc g.events e.id) = some (behI h.before e.id) ∧ StOk g.events (behI h.before e.id) := by
 have hk := hb.all e he
 have e1 : behI h.before e.id = Ykq g (e.prev.map (behI h.after)) := by
  show Option.getD (mget h.before e.id) [] = _
  rw [hk.mB]; rfl
 rw [e1]
 exact ⟨hk.ga, hk.ok⟩

theorem Ylk.sts {g : Ya3} (hr : Ylk g) {s : List Ya5} (hs : StOk g.events s) : Sts g s := (Mrg.mk (ls := []) hr.fits hr.ev hr.deep (fun s hs => by cases hs) (by simp)).sts hs

end Go.Proofs.YtnoknphekhclcaaGreatDoor
namespace Go.Proofs.YtnoknphekhclcaaGreatDoor
open Go Go.Abs


theorem Ylq (p : List Int) (n : Int) (hp : p.length ≤ maxLen) (h0 : 0 ≤ n) (hn : n ≤ 1048576) : ∃ r, Z1 p n = some r ∧ ((0 ≤ r ∧ r ≤ n ∧ p.length ≤ 1048576) ∨ r = -1) := by
 simp only [maxLen] at hp
 unfold Z1
 rw [Y4w (by omega) (by omega)]
 by_cases h : n - (p.length : Int) < 0
 ·
  rw [Wt h]; exact ⟨_, rfl, .inr rfl⟩
 ·
  rw [Wf h]; exact ⟨_, rfl, .inl ⟨by omega, by omega, by omega⟩⟩

structure EvIn (e : Y9z) : Prop where
 text : e.text.size ≤ maxLen
 prev : e.prev.length ≤ maxLen

theorem Ylr (e : Y9z) (n : Int) (he : EvIn e) (h0 : 0 ≤ n) (hn : n ≤ 1048576) : ∃ r, Z3 e n = some r ∧ ((0 ≤ r ∧ r ≤ n ∧ e.prev.length ≤ 1048576 ∧ e.text.size ≤ 1048576) ∨ r = -1) := by
 have ht := he.text
 simp only [maxLen] at ht
 unfold Z3
 rw [Y4w (by omega) (by omega)]
 by_cases h : n - (e.text.size : Int) < 0
 ·
  rw [Wt h]; exact ⟨_, rfl, .inr rfl⟩
 ·
  rw [Wf h, Wv]
  obtain ⟨r, h1, h2⟩ := Ylq e.prev (n - (e.text.size : Int)) he.prev (by omega) (by omega)
  rw [h1, Wb]
  rcases h2 with ⟨h2, h3, h4⟩ | rfl
  ·
   rw [Wf (by omega)]; exact ⟨_, rfl, .inl ⟨h2, by omega, h4, by omega⟩⟩
  ·
   exact ⟨_, rfl, .inr rfl⟩

def Yls (l : List Y9z) : Prop := l.length ≤ 1048576 ∧ ∀ e ∈ l, e.prev.length ≤ 1048576 ∧ e.text.size ≤ 1048576

theorem Ylt (p : List Y9z) (n : Int) (hl : p.length ≤ maxLen) (hp : ∀ e ∈ p, EvIn e) (h0 : 0 ≤ n) (hn : n ≤ 1048576) : ∃ r, Z7 p n = some r ∧ ((0 ≤ r ∧ r + p.length ≤ n ∧ Yls p) ∨ r = -1) := by
 simp only [maxLen] at hl
 unfold Z7
 rw [Y4w (by omega) (by omega)]
 by_cases h : n - (p.length : Int) < 0
 ·
  rw [Wt h]; exact ⟨_, rfl, .inr rfl⟩
 ·
  rw [Wf h, Wv]
  obtain ⟨o, h1, h2⟩ := Yff (τ := Int × Int) (ω := Int ⊕ Int) (σ := Int) (step := fun z : Int × Int => Z6 p z.1 z.2) (n := p.length) (fun s j => (s, j))
   (fun i s => 0 ≤ s ∧ s + p.length ≤ n ∧ ∀ (j : Nat) (hj : j < p.length), j < i → p[j].prev.length ≤ 1048576 ∧ p[j].text.size ≤ 1048576) (fun o => o = .inl (-1) ∨ ∃ r, o = .inr r ∧ 0 ≤ r ∧ r + p.length ≤ n ∧ Yls p) (by omega) (by
   rintro i s hi ⟨hs0, hsn, hI⟩
   obtain ⟨r, e1, e2⟩ := Ylr p[i] s (hp _ (Wm hi)) hs0 (by omega)
   simp only [Z6]
   rw [dlt hi, Wu, Yfg hi, Wb, e1, Wb, Yfh hi (by omega)]
   rcases e2 with ⟨e2, e3, e4⟩ | rfl
   ·
    rw [Wf (by omega), Wv]
    refine .inl ⟨r, rfl, e2, by omega, fun j hj hji => ?_⟩
    rcases Nat.lt_or_ge j i with h | h
    ·
     exact hI j hj h
    ·
     obtain rfl : j = i := by omega
     exact e4
   ·
    exact .inr ⟨_, rfl, .inl rfl⟩) (by
   rintro s ⟨hs0, hsn, hI⟩
   simp only [Z6]
   rw [dnlt, Wv]
   refine ⟨_, rfl, .inr ⟨s, rfl, hs0, hsn, by omega, fun e he => ?_⟩⟩
   obtain ⟨j, hj, rfl⟩ := List.mem_iff_getElem.1 he
   exact hI j hj hj) (s := n - (p.length : Int)) ⟨by omega, by omega, fun j hj h => by omega⟩
  rw [h1, Wb]
  rcases h2 with rfl | ⟨r, rfl, h3⟩
  ·
   exact ⟨_, rfl, .inr rfl⟩
  ·
   exact ⟨_, rfl, .inl h3⟩

structure GIn (g : Ya0) : Prop where
 el : g.events.length ≤ maxLen
 pl : g.parked.length ≤ maxLen
 ev : ∀ e ∈ g.events, EvIn e
 pv : ∀ e ∈ g.parked, EvIn e

theorem Ylu (g : Ya0) (n : Int) (hg : GIn g) (h0 : 0 ≤ n) (hn : n ≤ 1048576) : ∃ r, Z9 g n = some r ∧ ((0 ≤ r ∧ r + (g.events.length + g.parked.length : Nat) ≤ n ∧ Yls g.events ∧ Yls g.parked) ∨ r = -1) := by
 unfold Z9
 obtain ⟨r, h1, h2⟩ := Ylt g.events n hg.el hg.ev h0 hn
 rw [h1, Wb]
 rcases h2 with ⟨h2, h3, h4⟩ | rfl
 ·
  rw [Wf (by omega), Wv]
  obtain ⟨r', h5, h6⟩ := Ylt g.parked r hg.pl hg.pv h2 (by omega)
  rw [h5, Wb]
  rcases h6 with ⟨h6, h7, h8⟩ | rfl
  ·
   rw [Wf (by omega)]; exact ⟨_, rfl, .inl ⟨h6, by omega, h4, h8⟩⟩
  ·
   exact ⟨_, rfl, .inr rfl⟩
 ·
  exact ⟨_, rfl, .inr rfl⟩


theorem Ylv {α β : Type} {xs : List α} {z : β} (f : α → β) {step : List β × Int → Option ((List β × Int) ⊕ List β)} (hl : xs.length < 9223372036854775807)
  (h1 : ∀ (i : Nat) (s : List β) (hi : i < xs.length), s.length = xs.length → step (s, (i : Int)) = some (.inl (s.set i (f xs[i]), ((i + 1 : Nat) : Int)))) (h2 : ∀ s : List β, step (s, (xs.length : Int)) = some (.inr s)) :
  iter step big (List.replicate xs.length z, 0) = some (xs.map f) := by
 obtain ⟨o, e1, rfl⟩ := Yfe (τ := List β × Int) (ω := List β) (σ := List β) (step := step) (n := xs.length) (fun s j => (s, j)) (fun i s => s = (xs.take i).map f ++ List.replicate (xs.length - i) z) (fun o => o = xs.map f) hl (by
  rintro i s hi rfl
  refine ⟨_, h1 i _ hi (by simp; omega), ?_⟩
  have e0 : List.replicate (xs.length - i) z = z :: List.replicate (xs.length - (i + 1)) z := by
   rw [show xs.length - i = (xs.length - (i + 1)) + 1 by omega, List.replicate_succ]
  have e1 : xs.take (i + 1) = xs.take i ++ [xs[i]] := by rw [List.take_add_one, We hi]; rfl
  rw [e0, Yhc (X := (xs.take i).map f) (u := z) (Y := List.replicate (xs.length - (i + 1)) z) rfl (by simp; omega), e1, List.map_append, List.append_assoc]
  rfl) (by
  rintro s rfl
  exact ⟨_, h2 _, by simp⟩) (s := List.replicate xs.length z) (by simp)
 exact e1

theorem Ylw (p : List Int) (hp : p.length ≤ 1048576) : Zn p = some p := by
 unfold Zn
 rw [Y4x (Wt ⟨by omega, by omega⟩), Wb, Int.toNat_natCast]
 rw [Ylv (xs := p) (fun x => x) (by omega) (fun i s hi hs => by
  simp only [Zm]
  rw [dlt hi, Wu, Yfg hi, Wb, Yfg (by omega : i < s.length), Wb, Yfh hi (by omega), Int.toNat_natCast]) (fun s => by simp only [Zm]; rw [dnlt, Wv])]
 simp [Zl]

theorem Ylx (e : Y9z) (hp : e.prev.length ≤ 1048576) : Zp e = some e := by
 unfold Zp
 rw [Ylw _ hp]; rfl

theorem Yly (p : List Y9z) (hp : Yls p) : Zt p = some p := by
 have hl := hp.1
 unfold Zt
 rw [Y4x (Wt ⟨by omega, by omega⟩), Wb, Int.toNat_natCast]
 rw [Ylv (xs := p) (fun x => x) (by omega) (fun i s hi hs => by
  simp only [Zs]
  rw [dlt hi, Wu, Yfg hi, Wb, Ylx _ (hp.2 _ (Wm hi)).1, Wb, Yfg (by omega : i < s.length), Wb, Yfh hi (by omega), Int.toNat_natCast]) (fun s => by simp only [Zs]; rw [dnlt, Wv])]
 simp [Zr]

def toG (g : Ya0) : Ya3 := Ya3.mk g.room g.events g.parked
theorem Ylz (g : Ya0) (he : Yls g.events) (hp : Yls g.parked) : Zw g = some (toG g) := by
 unfold Zw
 rw [Yly _ he, Wb, Yly _ hp]; rfl

theorem Ym0 {g : Ya0} (he : Yls g.events) (hp : Yls g.parked) : Fine (toG g) := ⟨he.1, hp.1, fun e h => (he.2 e h).1, fun e h => (hp.2 e h).1⟩


theorem Ym1 (p : List Int) (hp : p.length ≤ 1048576) : Zka p p = some true := by
 unfold Zka
 rw [bned, Wt rfl]
 simp only [Bool.not_true, Wv]
 rw [Yfw (l := p) (fun _ => true) (.inl false) (.inr ()) (by omega) (fun i hi => by
  simp only [Zk9]
  rw [dlt hi, Wu, Yfg hi, Wb, Wb, bned, Wt rfl, Yfh hi (by omega)]; rfl) (by simp only [Zk9]; rw [dnlt, Wv])]
 rw [show (p.all fun _ => true) = true by simp]; rfl

theorem Ym2 (e : Y9z) (hp : e.prev.length ≤ 1048576) : Zkc e e = some true := by
 unfold Zkc
 rw [Ym1 _ hp]
 simp

theorem Ym3 (p : List Y9z) (hp : Yls p) : Zkg p p = some true := by
 have hl := hp.1
 unfold Zkg
 rw [bned, Wt rfl]
 simp only [Bool.not_true, Wv]
 rw [Yfw (l := p) (fun _ => true) (.inl false) (.inr ()) (by omega) (fun i hi => by
  simp only [Zkf]
  rw [dlt hi, Wu, Yfg hi, Wb, Wb, Ym2 _ (hp.2 _ (Wm hi)).1, Wb, Yfh hi (by omega)]; rfl) (by simp only [Zkf]; rw [dnlt, Wv])]
 rw [show (p.all fun _ => true) = true by simp]; rfl

theorem Ym4 (g : Ya3) (he : Yls g.events) (hp : Yls g.parked) : Zki g g = some true := by
 unfold Zki
 rw [Ym3 _ he, Ym3 _ hp]
 simp


def Ym5 (n : Int) : Nat → List Int
 | 0 => []
 | k + 1 => n :: Ym5 (n + 1) k
theorem Ym6 : ∀ (k : Nat) (n : Int), (Ym5 n k).length = k
 | 0, _ => rfl
 | k + 1, n => by simp [Ym5, Ym6 k]
theorem Ym7 : ∀ (k : Nat) (n : Int) (i : Nat) (hi : i < (Ym5 n k).length), (Ym5 n k)[i] = n + i
 | 0, _, i, hi => by simp [Ym5] at hi
 | k + 1, n, 0, hi => by simp [Ym5]
 | k + 1, n, i + 1, hi => by
  simp only [Ym5, List.getElem_cons_succ]
  rw [Ym7 k]; omega
theorem Ym8 : ∀ (k : Nat) (n : Int), Ym5 n (k + 1) = Ym5 n k ++ [n + k]
 | 0, n => by simp [Ym5]
 | k + 1, n => by
  rw [Ym5, Ym8 k (n + 1)]
  simp [Ym5]; omega

theorem Ym9 (p : List Int) (n : Int) (hp : p.length ≤ 1048576) (h0 : 0 ≤ n) (hn : n ≤ 1000000000000000) : Zl4 p n = some (n + p.length, Ym5 n p.length) := by
 unfold Zl4
 obtain ⟨o, e1, rfl⟩ := Yfe (τ := List Int × Int × Int) (ω := Int × List Int) (σ := List Int × Int) (step := fun z : List Int × Int × Int => Zl3 z.1 z.2.1 z.2.2) (n := p.length) (fun s j => (s.1, s.2, j)) (fun i s => s = (Ym5 n i ++ p.drop i, n + i)) (fun o => o = (n + p.length, Ym5 n p.length)) (by omega) (by
  rintro i s hi rfl
  have e0 : p.drop i = p[i] :: p.drop (i + 1) := List.drop_eq_getElem_cons hi
  generalize hR : p.drop (i + 1) = R at e0
  generalize p[i] = u at e0
  refine ⟨(Ym5 n (i + 1) ++ R, n + i + 1), ?_, by simp; omega⟩
  have hlen : (Ym5 n i ++ p.drop i).length = p.length := by rw [List.length_append, Ym6, List.length_drop]; omega
  simp only [Zl3]
  rw [hlen, dlt hi, Wu, e0, Yhb (X := Ym5 n i) (u := u) (Y := R) rfl (Ym6 i n).symm, Wb, Int.toNat_natCast, Yhc (X := Ym5 n i) (u := u) (Y := R) rfl (Ym6 i n).symm, Yfh hi (by omega), Y4w (by omega) (by omega), Ym8]
  simp) (by
  rintro s rfl
  simp only [Zl3]
  rw [show (Ym5 n p.length ++ p.drop p.length).length = p.length by simp [Ym6], dnlt, Wv]
  exact ⟨_, rfl, by simp⟩) (s := (p, n)) (by simp [Ym5])
 rw [e1, Wb]; rfl

theorem Yma (k : Nat) (n : Int) (hk : k ≤ 1048576) (h0 : 0 ≤ n) (hn : n ≤ 1000000000000000) : Zlq (Ym5 n k) n = some (n + k) := by
 unfold Zlq
 obtain ⟨o, e1, rfl⟩ := Yfe (τ := Int × Int) (ω := Int ⊕ Int) (σ := Int) (step := fun z : Int × Int => Zlp (Ym5 n k) z.1 z.2) (n := k) (fun s j => (s, j)) (fun i s => s = n + i) (fun o => o = .inr (n + k)) (by omega) (by
  rintro i s hi rfl
  refine ⟨n + i + 1, ?_, by omega⟩
  simp only [Zlp, Ym6]
  have hi' : i < (Ym5 n k).length := by rw [Ym6]; exact hi
  rw [dlt hi, Wu, Yfg hi', Wb, Ym7, bned, Wt rfl, Yfh hi (by omega), Y4w (by omega) (by omega)]; rfl) (by
  rintro s rfl
  simp only [Zlp, Ym6]
  rw [dnlt, Wv]
  exact ⟨_, rfl, rfl⟩) (s := n) (by simp)
 rw [e1, Wb]; rfl

theorem Ymb (n : Int) (h0 : 0 ≤ n) (hn : n ≤ 1000000000000000) : ∃ t, Zl0 n = some t := by
 unfold Zl0
 by_cases h : n ≤ 0
 ·
  rw [Wt h]; exact ⟨_, rfl⟩
 ·
  rw [Wf h, Wv]
  obtain ⟨o, e1, e2⟩ := Y4z (step := fun z : Int × ByteArray => Zkz z.1 z.2) (p := fun o : ByteArray => (o.size : Int) ≤ 1000000000000000) (fun m (z : Int × ByteArray) => 0 ≤ z.1 ∧ z.1 + z.2.size ≤ 1000000000000000 ∧ m = z.1.toNat) (by
   rintro m ⟨x, t⟩ ⟨hx, hs, rfl⟩
   simp only at hx hs
   simp only [Zkz]
   by_cases hp : x > 0
   ·
    right
    have hsz : ∀ k : Int, (Y7d [k]).size = 1 := fun k => rfl
    have hd : 0 ≤ Int.tdiv x 10 ∧ Int.tdiv x 10 < x := by
     rw [Int.tdiv_eq_ediv_of_nonneg hx]; omega
    rw [Wt hp, Wu, Y4x (Wt (by rw [hsz]; omega)), Wb, Y4w (n := Int.tdiv x 10) (by omega) (by omega)]
    refine ⟨_, (Int.tdiv x 10).toNat, rfl, by omega, hd.1, ?_, rfl⟩
    simp only [ByteArray.size_append, hsz]; omega
   ·
    left
    rw [Wf hp, Wv]
    exact ⟨_, rfl, by omega⟩) big n.toNat (n, ByteArray.empty) ⟨h0, by simp; omega, rfl⟩ (Yfb (by omega))
  rw [e1, Wb]
  unfold Zky
  rw [Y4x (Wt (by show 1 + o.size ≤ _; omega))]
  exact ⟨_, rfl⟩

theorem Ymc {α : Type} {l : List α} {k : Nat} {v : α} (hk : k < l.length) : getI (l.set k v) (k : Int) = some v := by rw [Ylm hk, if_pos rfl]

theorem Ymd (p : List Y9z) (n : Int) (hp : Yls p) (h0 : 0 ≤ n) (hn : n ≤ 100000000000000) : ∃ r, Zl8 p n = some r ∧ 0 ≤ r.1 ∧ r.1 ≤ n + p.length * 2000000 := by
 have hl := hp.1
 unfold Zl8
 obtain ⟨o, e1, e2⟩ := Yfe (τ := List Y9z × Int × Int) (ω := Int × List Y9z) (σ := List Y9z × Int) (step := fun z : List Y9z × Int × Int => Zl7 z.1 z.2.1 z.2.2) (n := p.length) (fun s j => (s.1, s.2, j)) (fun i s => s.1.length = p.length ∧ (∀ e ∈ s.1, e.prev.length ≤ 1048576) ∧ 0 ≤ s.2 ∧ s.2 ≤ n + i * 2000000) (fun o => 0 ≤ o.1 ∧ o.1 ≤ n + p.length * 2000000) (by omega) (by
  rintro i ⟨l, k⟩ hi ⟨hll, hpl, hk0, hk⟩
  simp only at hll hpl hk0 hk
  have hil : i < l.length := by omega
  have w : ∀ x : Int, 0 ≤ x → x ≤ 1000000000000000 → IntKind.i64.wrap (x + 1) = x + 1 := fun x h1 h2 => Y4w (by omega) (by omega)
  obtain ⟨t, ht⟩ := Ymb (k + 1 + 1 + 1 + 1 + 1 + 1) (by omega) (by omega)
  have hmk := Ym9 l[i].prev (k + 1 + 1 + 1 + 1 + 1 + 1 + 1) (hpl _ (Wm hil)) (by omega) (by omega)
  have hpi := hpl _ (Wm hil)
  have hw := Yfh hi (by omega : p.length < 9223372036854775807)
  simp only [Zl7]
  rw [w k hk0 (by omega), w (k + 1) (by omega) (by omega), w (k + 1 + 1) (by omega) (by omega), w (k + 1 + 1 + 1) (by omega) (by omega), w (k + 1 + 1 + 1 + 1) (by omega) (by omega), w (k + 1 + 1 + 1 + 1 + 1) (by omega) (by omega), w (k + 1 + 1 + 1 + 1 + 1 + 1) (by omega) (by omega)]
  rw [Wt (by omega : (i : Int) < (l.length : Int)), Wu, Yfg hil, Wb]
  simp only [Int.toNat_natCast, Ymc, List.length_set, hil, Wb, ht, List.set_set, hmk, hw]
  rw [w _ (by omega) (by omega)]
  refine ⟨(_, _), rfl, by simp [hll], fun e he => ?_, by simp only; omega, by simp only; omega⟩
  simp only at he
  rcases List.mem_or_eq_of_mem_set he with h | h
  ·
   exact hpl e h
  ·
   subst h; simp only [Ym6]; exact hpi) (by
  rintro ⟨l, k⟩ ⟨hll, _, hk0, hk⟩
  simp only at hll hk0 hk
  simp only [Zl7]
  rw [hll, dnlt, Wv]
  exact ⟨_, rfl, hk0, hk⟩) (s := (p, n)) ⟨rfl, fun e he => (hp.2 e he).1, h0, by simp⟩
 rw [e1, Wb]
 exact ⟨_, rfl, e2⟩

end Go.Proofs.YtnoknphekhclcaaGreatDoor
namespace Go.Proofs.YtnoknphekhclcaaGreatDoor
open Go Go.Abs


def accT (l : List Y9z) (T : Int → Bool) : List Int := (l.map (·.id)).filter T
def endT (l : List Y9z) (T : Int → Bool) (x : Int) : Bool := (accT l T).all fun id => !decide (x ∈ (evD l id).prev)
def endsT (l : List Y9z) (T : Int → Bool) : List Int := (accT l T).filter (endT l T)

theorem Yme {l : List Y9z} (h : Up2 l) : UpI (l.map (·.id)) := by
 show (l.map (·.id)).Pairwise (· < ·)
 rw [List.pairwise_map]; exact h

theorem Ymf {h : Ya9} (hr : Ylk h.graph) : Zg1 h = some (accT h.graph.events (refB h)) := by
 have hfl := hr.fits.len
 unfold Zg1
 have := Yfx (l := h.graph.events) (step := fun z : List Int × Int => Zg0 h z.1 z.2) (fun q j => (q, j)) (fun q => q) (fun q e => if refB h e.id = true then q ++ [e.id] else q) (fun i q => q.length ≤ i) (by omega) (fun i q hi hq => by
  refine ⟨?_, by split <;> first | omega | (rw [List.length_append, List.length_singleton]; omega)⟩
  simp only [Zg0, Zfz]
  rw [dlt hi, Wu, Yfg hi, Wb, Yfh hi (by omega), chk8 (by simp; omega), beqd]
  unfold refB
  by_cases hc : Option.getD (mget h.refused h.graph.events[i].id) 0 = 0
  ·
   rw [Wt hc]; rfl
  ·
   rw [Wf hc]; rfl)
  (fun q _ => by simp only [Zg0]; rw [dnlt, Wv]) (s := []) (by simp)
 rw [this.1, Wb]
 have key : ∀ (l : List Y9z) (q : List Int), l.foldl (fun q e => if refB h e.id = true then q ++ [e.id] else q) q = q ++ (l.map (·.id)).filter (refB h) := by
  intro l
  induction l with
  | nil => intro q; simp
  | cons e l ih =>
   intro q
   rw [List.foldl_cons, ih]
   cases hc : refB h e.id with
   | true => rw [if_pos rfl, List.map_cons, List.filter_cons_of_pos hc]; simp
   | false => rw [if_neg (by simp), List.map_cons, List.filter_cons_of_neg (by simp [hc])]
 rw [key]; rfl

theorem Ymg {l : List Int} (hl : UpI l) (hn : l.length < 1000000) : Zhb l = some l := by
 unfold Zhb
 by_cases h2 : (l.length : Int) < 2
 ·
  rw [Wt h2]; rfl
 ·
  rw [Wf h2, Wv, Y50 (o := .inr ()) (fun m (x : Int) => ∃ i : Nat, x = i ∧ 1 ≤ i ∧ i ≤ l.length ∧ m = l.length - i) ?_ (m := l.length - 1) (x := 1) ⟨1, rfl, by omega, by omega, rfl⟩ (Yfb (by omega))]
  ·
   rfl
  ·
   rintro m x ⟨i, rfl, h1, hi, rfl⟩
   simp only [Zha]
   by_cases hil : i < l.length
   ·
    right
    have hm : i - 1 < l.length := by omega
    have := List.pairwise_iff_getElem.1 hl (i - 1) i hm hil (by omega)
    rw [dlt hil, Wu, Yfg hil, Wb, Yfi (by omega) (by omega), Yfg hm, Wb, beqd, Wf (by omega), Wv, Yfh hil (by omega)]
    exact ⟨_, l.length - (i + 1), rfl, by omega, i + 1, rfl, by omega, by omega, rfl⟩
   ·
    left
    obtain rfl : i = l.length := by omega
    rw [dnlt, Wv]

theorem Zm9 {l ids : List Int} (hl : UpI l) (hn : ids.Nodup) (hm : ∀ x, x ∈ ids ↔ x ∈ l) : List.mergeSort ids (fun x y => decide (x ≤ y)) = l := by
 have hp : ids.Perm l := (List.perm_ext_iff_of_nodup hn (hl.imp fun {a b} h => by omega)).2 hm
 exact List.Perm.eq_of_pairwise (le := fun a b => decide (a ≤ b) = true) (fun a b _ _ h1 h2 => by simp at h1 h2; omega) (List.pairwise_mergeSort (fun a b c h1 h2 => by simp at h1 h2 ⊢; omega) (fun a b => by simp; omega) ids) (hl.imp fun {a b} h => by simp; omega) ((List.mergeSort_perm ids _).trans hp)

theorem Ymh {l ids : List Int} (hl : UpI l) (hn : ids.Nodup) (hm : ∀ x, x ∈ ids ↔ x ∈ l) (hlen : l.length < 1000000) : Zhe ids = some l := by
 have hpl : ids.length = l.length := ((List.perm_ext_iff_of_nodup hn (hl.imp fun {a b} h => by omega)).2 hm).length_eq
 unfold Zhe
 rw [Y4x (Wt (by omega)), Wb, Zm9 hl hn hm, Ymg hl hlen]; rfl

theorem Ymi (e : Y9z) (l : List Int) (hl : l.length < 1000000) (he : e.prev.length < 1000000) : Zhp l e = some (l.filter fun x => !decide (x ∈ e.prev)) := by
 have hc : ∀ x, Zhg x e = some (decide (x ∈ e.prev)) := fun x => by unfold Zhg; rw [Yg2 _ _ (by omega)]; rfl
 unfold Zhp Zhk
 rw [Yfz (Yfu (l := l) (step := Zhj l e) (fun x => decide (x ∈ e.prev)) (by omega) (fun i hi => by
  simp only [Zhj]
  rw [dlt hi, Wu, Yfg hi, Wb, hc, Wb, Yfh hi (by omega)]
  cases decide (l[i] ∈ e.prev) <;> rfl) (by simp only [Zhj]; rw [dnlt, Wv])) (fun _ => rfl) rfl, Wb]
 unfold idxP
 cases hf : l.findIdx? (fun x => decide (x ∈ e.prev)) with
 | none =>
  rw [List.findIdx?_eq_none_iff] at hf
  rw [beqd, Wt rfl, Wu]
  exact congrArg some (List.filter_eq_self.2 fun x hx => by simp [hf x hx]).symm
 | some k =>
  obtain ⟨hk, hkp, hkn⟩ := List.findIdx?_eq_some_iff_getElem.1 hf
  simp only
  rw [beqd, Wf (by omega), Wv, Yfh hk (by omega)]
  -- the rest
  have hpre : (l.take k).filter (fun x => !decide (x ∈ e.prev)) = l.take k := List.filter_eq_self.2 fun x hx => by
   obtain ⟨j, hj, hjk, rfl⟩ := Yhl hx
   have := hkn j hjk
   simpa using this
  obtain ⟨⟨o1, o2⟩, e1, w, hw1, hw2, hw3, hw4⟩ := Y4z (step := fun z : List Int × Int × Int => Zho e z.1 z.2.1 z.2.2) (p := fun o : List Int × Int => ∃ w : Nat, o.2 = (w : Int) ∧ w ≤ l.length ∧ o.1.length = l.length ∧ o.1.take w = l.filter fun x => !decide (x ∈ e.prev))
   (fun m (z : List Int × Int × Int) => ∃ (w i : Nat), z.2.1 = (w : Int) ∧ z.2.2 = (i : Int) ∧ w < i ∧ i ≤ l.length ∧ z.1.length = l.length ∧ z.1.take w = (l.take i).filter (fun x => !decide (x ∈ e.prev)) ∧ z.1.drop i = l.drop i ∧ m = l.length - i) (by
   rintro m ⟨q, x, y⟩ ⟨w, i, hx, hy, hwi, hi, hq, ht, hd, rfl⟩
   simp only at hx hy hq ht hd
   subst hx hy
   simp only [Zho, Zhn]
   by_cases hil : i < l.length
   ·
    right
    have hiq : i < q.length := by omega
    have hwq : w < q.length := by omega
    have hqi : q[i] = l[i] := by
     have h1 : (q.drop i)[0]? = (l.drop i)[0]? := by rw [hd]
     simpa [hiq, hil] using h1
    have etk : l.take (i + 1) = l.take i ++ [l[i]] := by rw [List.take_add_one, We hil]; rfl
    rw [dlt hiq, Wu, Yfg hiq, Wb, hc, Wb, hqi, Yfg hwq, Yfh hiq (by omega)]
    have hd' : ∀ v : Int, (q.set w v).drop (i + 1) = l.drop (i + 1) := fun v => by
     rw [List.drop_set_of_lt (by omega)]
     have := congrArg (List.drop 1) hd
     rwa [List.drop_drop, List.drop_drop] at this
    by_cases hp : l[i] ∈ e.prev
    ·
     rw [Wt hp, Wu]
     refine ⟨_, l.length - (i + 1), rfl, by omega, w, i + 1, rfl, rfl, by omega, by omega, hq, ?_, ?_, rfl⟩
     ·
      rw [etk, List.filter_append, List.filter_cons_of_neg (by simp [hp]), List.filter_nil, List.append_nil]; exact ht
     ·
      have := congrArg (List.drop 1) hd
      rwa [List.drop_drop, List.drop_drop] at this
    ·
     rw [Wf hp, Wv, Wb, Int.toNat_natCast, Yfh hwq (by omega)]
     refine ⟨_, l.length - (i + 1), rfl, by omega, w + 1, i + 1, rfl, rfl, by omega, by omega, by simp [hq], ?_, hd' _, rfl⟩
     simp only
     rw [etk, List.filter_append, List.filter_cons_of_pos (by simp [hp]), List.filter_nil, ← ht, List.take_add_one, List.getElem?_set_self hwq]
     rw [List.take_set_of_le (Nat.le_refl _)]; rfl
   ·
    left
    obtain rfl : i = l.length := by omega
    rw [Wf (by omega), Wv]
    refine ⟨_, rfl, w, rfl, by omega, hq, ?_⟩
    rw [List.take_length] at ht
    exact ht) big (l.length - (k + 1)) (l, (k : Int), ((k + 1 : Nat) : Int)) ⟨k, k + 1, rfl, rfl, by omega, by omega, rfl, by
    rw [List.take_add_one, We hk, List.filter_append, hpre]
    simp at hkp
    simp [hkp], rfl, rfl⟩ (Yfb (by omega))
  rw [e1, Wb]
  simp only at hw1 hw2 hw3 hw4
  subst hw1
  simp only [Zhm, Int.toNat_natCast]
  rw [Y4x (Wt (by omega)), Wb, Y4x (Wt (by omega)), Wb, Y4x (Wt (by simp; omega)), Wb]
  congr 1
  rw [← hw4, List.take_append_of_le_length (by simp; omega), List.take_take, Nat.min_self]

theorem Ymj {l : List Y9z} (hf : Fits l) (T : Int → Bool) : UpI (accT l T) := (Yme hf.up).filter _
theorem Ymk {l : List Y9z} (hf : Fits l) (T : Int → Bool) : (accT l T).length ≤ 60 := by
 have := List.length_filter_le T (l.map (·.id))
 rw [List.length_map] at this
 have := hf.len
 unfold accT; omega
theorem Yml {l : List Y9z} {T : Int → Bool} {id : Int} (hi : id ∈ endsT l T) : id ∈ l.map (·.id) := (List.mem_filter.1 (List.mem_filter.1 hi).1).1
theorem Ymm {l : List Y9z} (hf : Fits l) (T : Int → Bool) : (endsT l T).length ≤ 60 := Nat.le_trans (List.length_filter_le _ _) (Ymk hf T)

theorem Ymn {h : Ya9} (hr : Ylk h.graph) {ids : List Int} {T : Int → Bool} (hn : ids.Nodup) (hm : ∀ x, x ∈ ids ↔ x ∈ accT h.graph.events T) : Zhu h ids = some (endsT h.graph.events T) := by
 have hfl := hr.fits.len
 have hup := Ymj hr.fits T
 have hal := Ymk hr.fits T
 have hil : ids.length = (accT h.graph.events T).length := ((List.perm_ext_iff_of_nodup hn (hup.imp fun {a b} h => by omega)).2 hm).length_eq
 unfold Zhu
 have hcl : Zff ids = some ids := by unfold Zff; rw [chk8 (by omega)]; rfl
 rw [hcl, Wb, Ymh hup hn hm (by omega), Wb]
 have := Yfx (l := ids) (step := fun z : List Int × Int => Zht h ids z.1 z.2) (fun q j => (q, j)) (fun q => q) (fun q id => q.filter fun x => !decide (x ∈ (evD h.graph.events id).prev)) (fun _ q => q.length ≤ 60) (by omega) (fun i q hi hq => by
  refine ⟨?_, Nat.le_trans (List.length_filter_le _ _) hq⟩
  have hmi : ids[i] ∈ h.graph.events.map (·.id) := (List.mem_filter.1 ((hm _).1 (Wm hi))).1
  have hp := (hr.walk.prev hmi).1
  simp only [Zht]
  rw [dlt hi, Wu, Yfg hi, Wb, c_at _ _ hr.fits.up (by omega), Wb]
  show (Zhp q (evD h.graph.events ids[i])).bind _ = _
  rw [Ymi _ _ (by omega) (by omega), Wb, Yfh hi (by omega)])
  (fun q _ => by simp only [Zht]; rw [dnlt, Wv]) (s := accT h.graph.events T) hal
 rw [this.1, Wb]
 simp only [Zhs]
 congr 1
 have key : ∀ (r q : List Int), r.foldl (fun q id => q.filter fun x => !decide (x ∈ (evD h.graph.events id).prev)) q = q.filter fun x => r.all fun id => !decide (x ∈ (evD h.graph.events id).prev) := by
  intro r
  induction r with
  | nil => intro q; exact (List.filter_eq_self.2 fun x _ => rfl).symm
  | cons id r ih =>
   intro q
   rw [List.foldl_cons, ih, List.filter_filter]
   congr 1
   funext x
   simp [Bool.and_comm]
 rw [key]
 unfold endsT
 congr 1
 funext x
 unfold endT
 rw [Bool.eq_iff_iff, List.all_eq_true, List.all_eq_true]
 exact ⟨fun h id hid => h id ((hm id).2 hid), fun h id hid => h id ((hm id).1 hid)⟩

def Ymo (l : List Y9z) (T : Int → Bool) : List Bool := l.map fun e => T e.id

theorem Ymp {g : Ya3} {h : Ya9} {w : Ya6} (hb : Both g h w) (hr : Ylk g) : w.code.map (fun c => decide (c = 0)) = Ymo h.graph.events (refB h) := by
 unfold Ymo
 rw [hb.graph]
 refine List.ext_getElem (by simp [hb.lc]) fun i h1 h2 => ?_
 simp only [List.length_map] at h1 h2
 simp only [List.getElem_map]
 obtain ⟨c, k1, k2⟩ := hb.code (Wm h2)
 rw [(hr.fits.up.plc h2).1, Yfg h1] at k1
 cases k1
 unfold refB
 rw [k2]

theorem Ymq {w : Ya6} {step : List Bool × Int → Option ((List Bool × Int) ⊕ List Bool)} (hl : w.code.length < 1000000)
  (h1 : ∀ (l : List Bool) (i : Nat), step (l, (i : Int)) = cond (decide ((i : Int) < (l.length : Int))) ((getI w.code (i : Int)).bind fun e12 => (getI l (i : Int)).bind fun e14 => some (.inl ((List.set l (Int.toNat (i : Int)) (e12 == 0)), (IntKind.i64.wrap ((i : Int) + 1))))) (some (.inr l))) :
  iter step big (List.replicate w.code.length false, 0) = some (w.code.map fun c => decide (c = 0)) := by
 obtain ⟨o, e1, rfl⟩ := Yfe (τ := List Bool × Int) (ω := List Bool) (σ := List Bool) (step := step) (n := w.code.length) (fun s j => (s, j)) (fun i s => s = (w.code.take i).map (fun c => decide (c = 0)) ++ List.replicate (w.code.length - i) false) (fun o => o = w.code.map fun c => decide (c = 0)) (by omega) (by
  rintro i s hi rfl
  have e0 : List.replicate (w.code.length - i) false = false :: List.replicate (w.code.length - (i + 1)) false := by
   rw [show w.code.length - i = (w.code.length - (i + 1)) + 1 by omega, List.replicate_succ]
  have etk : w.code.take (i + 1) = w.code.take i ++ [w.code[i]] := by rw [List.take_add_one, We hi]; rfl
  refine ⟨_, ?_, rfl⟩
  rw [h1, Wt (by simp; omega), Wu, Yfg hi, Wb, e0, Yhb (X := (w.code.take i).map fun c => decide (c = 0)) rfl (by simp; omega), Wb, Int.toNat_natCast, Yhc (X := (w.code.take i).map fun c => decide (c = 0)) rfl (by simp; omega), Yfh hi (by omega), etk, beqd, List.map_append, List.append_assoc]
  rfl) (by
  rintro s rfl
  refine ⟨_, ?_, rfl⟩
  rw [h1, Wf (by simp), Wv]
  simp) (s := List.replicate w.code.length false) (by simp)
 exact e1

theorem Ymr {α β : Type} (f : α → β) {l : List α} {i : Nat} (hi : i < l.length) : getI (l.map f) (i : Int) = some (f l[i]) := by
 rw [Yfg (by simpa using hi)]; simp

theorem Yms {g : Ya3} (hr : Ylk g) (T : Int → Bool) : Z65 g (Ymo g.events T) = some (endsT g.events T) := by
 have hfl := hr.fits.len
 unfold Z65
 -- whether one stands behind an event
 have inner1 : ∀ (i k : Nat) (hi : i < g.events.length) (hk : k < g.events.length) (b : Bool), iter (fun z : Bool × Int => Z62 g (Ymo g.events T) (i : Int) (k : Int) z.1 z.2) big (b, 0) = some (b && (!T g.events[k].id || !decide (g.events[i].id ∈ g.events[k].prev))) := by
  intro i k hi hk b
  have hpl := hr.fits.plen _ (Wm hk)
  have ht : getI (Ymo g.events T) (k : Int) = some (T g.events[k].id) := Ymr _ hk
  cases hrk : T g.events[k].id with
  | false =>
   rw [Y50 (o := b) (fun m (z : Bool × Int) => z = (b, 0)) ?_ (m := 0) rfl (Yfb (by omega))]
   ·
    simp
   ·
    rintro m z rfl
    left
    simp only [Z62, Z61]
    rw [ht, Wb, hrk]; rfl
  | true =>
   have := Yfx (l := g.events[k].prev) (step := fun z : Bool × Int => Z62 g (Ymo g.events T) (i : Int) (k : Int) z.1 z.2) (fun q j => (q, j)) (fun q => q) (fun q p => q && !decide (p = g.events[i].id)) (fun _ _ => True) hpl (fun j q hj _ => by
    refine ⟨?_, trivial⟩
    simp only [Z62, Z61, Z60]
    rw [ht, Wb, hrk, Wu, Yfg hk, Wb, dlt hj, Wu, Yfg hi, Yfh hj hpl]
    cases q with
    | false => rfl
    | true =>
     simp only [Wu, Wb]
     rw [Yfg hj, Wb, bned]; rfl)
    (fun q _ => by
     simp only [Z62, Z61]
     rw [ht, Wb, hrk, Wu, Yfg hk, Wb, dnlt, Wv]) (s := b) trivial
   rw [this.1]
   congr 1
   have key : ∀ (ps : List Int) (q : Bool), ps.foldl (fun q p => q && !decide (p = g.events[i].id)) q = (q && !decide (g.events[i].id ∈ ps)) := by
    intro ps
    induction ps with
    | nil => intro q; simp
    | cons p ps ih =>
     intro q
     rw [List.foldl_cons, ih]
     by_cases hp : p = g.events[i].id
     ·
      simp [hp]
     ·
      simp [hp, show ¬ g.events[i].id = p from fun h => hp h.symm]
   rw [key]; simp
 have inner2 : ∀ (i : Nat) (hi : i < g.events.length) (b : Bool), iter (fun z : Bool × Int => Z63 g (Ymo g.events T) (i : Int) z.1 z.2) big (b, 0) = some (b && endT g.events T g.events[i].id) := by
  intro i hi b
  have := Yfx (l := g.events) (step := fun z : Bool × Int => Z63 g (Ymo g.events T) (i : Int) z.1 z.2) (fun q j => (q, j)) (fun q => q) (fun q e => q && (!T e.id || !decide (g.events[i].id ∈ e.prev))) (fun _ _ => True) (by omega) (fun k q hk _ => by
   refine ⟨?_, trivial⟩
   simp only [Z63]
   rw [dlt hk, Wu, inner1 i k hi hk, Wb]
   simp only [Z5z]
   rw [Yfh hk (by omega)])
   (fun q _ => by simp only [Z63]; rw [dnlt, Wv]) (s := b) trivial
  rw [this.1]
  congr 1
  have key : ∀ (l : List Y9z) (q : Bool), l.foldl (fun q e => q && (!T e.id || !decide (g.events[i].id ∈ e.prev))) q = (q && l.all fun e => (!T e.id || !decide (g.events[i].id ∈ e.prev))) := by
   intro l
   induction l with
   | nil => intro q; simp
   | cons e l ih => intro q; rw [List.foldl_cons, ih, List.all_cons, Bool.and_assoc]
  rw [key]
  congr 1
  unfold endT accT
  rw [Bool.eq_iff_iff, List.all_eq_true, List.all_eq_true]
  constructor
  ·
   intro h1 id hid
   obtain ⟨h2, h3⟩ := List.mem_filter.1 hid
   obtain ⟨_, e2, e3⟩ := Ykm h2 hr.fits.up
   have := h1 _ e2
   rw [e3, h3] at this
   simpa using this
  ·
   intro h1 e he
   cases h3 : T e.id with
   | false => rfl
   | true =>
    have := h1 e.id (List.mem_filter.2 ⟨List.mem_map.2 ⟨e, he, rfl⟩, h3⟩)
    have e1 : evD g.events e.id = e := by unfold evD; rw [hr.fits.up.evAt_mem he]; rfl
    rw [e1] at this
    simpa using this
 have := Yfx (l := g.events) (step := fun z : List Int × Int => Z64 g (Ymo g.events T) z.1 z.2) (fun q j => (q, j)) (fun q => q) (fun q e => if (T e.id && endT g.events T e.id) = true then q ++ [e.id] else q) (fun i q => q.length ≤ i) (by omega) (fun i q hi hq => by
  refine ⟨?_, by split <;> first | omega | (rw [List.length_append, List.length_singleton]; omega)⟩
  have ht : getI (Ymo g.events T) (i : Int) = some (T g.events[i].id) := Ymr _ hi
  simp only [Z64]
  rw [dlt hi, Wu, ht, Wb, inner2 i hi, Wb]
  simp only [Z5y, Z5x]
  rw [Yfg hi, Yfh hi (by omega), Wb, chk8 (by simp; omega)]
  cases (T g.events[i].id && endT g.events T g.events[i].id) <;> rfl)
  (fun q _ => by simp only [Z64]; rw [dnlt, Wv]) (s := []) (by simp)
 rw [this.1, Wb]
 simp only [Z5w]
 congr 1
 unfold endsT accT
 rw [List.filter_filter]
 have key : ∀ (l : List Y9z) (q : List Int), l.foldl (fun q e => if (T e.id && endT g.events T e.id) = true then q ++ [e.id] else q) q = q ++ (l.map (·.id)).filter fun x => endT g.events T x && T x := by
  intro l
  induction l with
  | nil => intro q; simp
  | cons e l ih =>
   intro q
   rw [List.foldl_cons, ih]
   cases hc : T e.id && endT g.events T e.id with
   | true => rw [if_pos rfl, List.map_cons, List.filter_cons_of_pos (by rw [Bool.and_comm]; exact hc)]; simp
   | false => rw [if_neg (by simp), List.map_cons, List.filter_cons_of_neg (by rw [Bool.and_comm, hc]; simp)]
 rw [key]; rfl


def nowT (g : Ya3) (h : Ya9) (T : Int → Bool) : List Ya5 := Ykq g ((endsT g.events T).map (behI h.after))

theorem Ymt {h : Ya9} (l : List Int) (hl : l.length < 1000000) : Zi0 h l = some (l.map (behI h.after)) := by
 unfold Zi0
 have := Yfx (l := l) (step := fun z : List (List Ya5) × Int => Zhz h l z.1 z.2) (fun q j => (q, j)) (fun q => q) (fun q p => q ++ [behI h.after p]) (fun i q => q.length = i) (by omega) (fun i q hi hq => by
  refine ⟨?_, by simp [hq]⟩
  simp only [Zhz]
  rw [dlt hi, Wu, Yfg hi, Wb, Yit (by simp; omega), Wb, Yfh hi (by omega)]; rfl)
  (fun q _ => by simp only [Zhz]; rw [dnlt, Wv]) (s := []) rfl
 rw [this.1, Yln]; rfl

theorem Both.endsT {g : Ya3} {h : Ya9} {w : Ya6} (hb : Both g h w) (hr : Ylk g) (T : Int → Bool) : Mrg g ((endsT g.events T).map (behI h.after)) := by
 refine ⟨hr.fits, hr.ev, hr.deep, fun s hs => ?_, by have := Ymm hr.fits T; simp; omega⟩
 obtain ⟨id, hid, rfl⟩ := List.mem_map.1 hs
 have hm := Yml hid
 obtain ⟨_, e2, e3⟩ := Ykm hm hr.fits.up
 have := (hb.behind hr e2).2
 rwa [e3] at this

theorem Ymu : @Zig = @Zfd := rfl

theorem Ymv {g : Ya3} {h : Ya9} {w : Ya6} (hb : Both g h w) (hr : Ylk g) (T : Int → Bool) : (Zi0 h (endsT g.events T)).bind (fun r => (Zig h r).bind fun r' => some r') = some (nowT g h T) ∧ StOk g.events (nowT g h T) := by
 have hgr := hb.graph
 have hm := hb.endsT hr T
 have hel := Ymm hr.fits T
 rw [Ymt _ (by omega), Wb]
 have hm' : Mrg h.graph ((endsT g.events T).map (behI h.after)) := by rw [hgr]; exact hm
 obtain ⟨_, c2, c3⟩ := Yks hm' hb.depth
 rw [Ymu, c2, hgr]
 rw [hgr] at c3
 exact ⟨rfl, c3⟩

theorem Ymw {g : Ya3} {h : Ya9} {w : Ya6} (hb : Both g h w) (hr : Ylk g) (T : Int → Bool) : Z6d g w (Ymo g.events T) = some (nowT g h T) := by
 have hgr := hb.graph
 have hel := Ymm hr.fits T
 have hfl := hr.fits.len
 unfold Z6d
 rw [Yms hr, Wb]
 have := Yfx (l := endsT g.events T) (step := fun z : List (List Ya5) × Int => Z6c g w (endsT g.events T) z.1 z.2) (fun q j => (q, j)) (fun q => q) (fun q p => q ++ [behI h.after p]) (fun i q => q.length = i) (by omega) (fun i q hi hq => by
  refine ⟨?_, by simp [hq]⟩
  have hm := Yml (Wm hi)
  obtain ⟨_, e2, e3⟩ := Ykm hm hr.fits.up
  have hbe := (hb.behind hr e2).1
  rw [e3] at hbe
  simp only [Z6c]
  rw [dlt hi, Wu, Yfg hi, Wb, Ygd _ _ (by omega), Wb, hbe, Wb, Yit (by simp; omega), Wb, Yfh hi (by omega)])
  (fun q _ => by simp only [Z6c]; rw [dnlt, Wv]) (s := []) rfl
 rw [this.1, Yln, Wb]
 simp only [Z6b, List.nil_append]
 have hm' : Mrg h.graph ((endsT g.events T).map (behI h.after)) := by rw [hgr]; exact hb.endsT hr T
 obtain ⟨c1, _, _⟩ := Yks hm' hb.depth
 rw [hb.depths, ← hgr]
 rw [hgr] at c1 ⊢
 rw [c1]
 rfl

theorem Ymx {g : Ya3} {h : Ya9} {w : Ya6} (hb : Both g h w) (hr : Ylk g) : Z69 w = some (Ymo g.events (refB h)) := by
 have hfl := hr.fits.len
 have hlc := hb.lc
 unfold Z69
 rw [Y4x (Wt (by omega)), Wb, Int.toNat_natCast]
 rw [Ymq (by omega) (fun l i => by simp only [Z68]), Wb]
 have := Ymp hb hr
 rw [hb.graph] at this
 rw [this]; rfl
end Go.Proofs.YtnoknphekhclcaaGreatDoor
namespace Go.Proofs.YtnoknphekhclcaaGreatDoor
open Go Go.Abs


theorem Ymy {α σ τ ω : Type} {l : List α} {step : τ → Option (τ ⊕ ω)} (emb : σ → Int → τ) (fin : σ → ω) (bad : ω) (p : Nat → Bool) (g : σ → α → σ) (I : Nat → σ → Prop) (hl : l.length < 9223372036854775807)
  (h1 : ∀ (i : Nat) (s : σ) (hi : i < l.length), I i s → (∀ j, j < i → p j = true) → step (emb s i) = some (cond (p i) (.inl (emb (g s l[i]) ((i + 1 : Nat) : Int))) (.inr bad)) ∧ (p i = true → I (i + 1) (g s l[i])))
  (h2 : ∀ s, I l.length s → step (emb s l.length) = some (.inr (fin s))) {s : σ} (h0 : I 0 s) :
  ((∀ i, i < l.length → p i = true) ∧ iter step big (emb s 0) = some (fin (l.foldl g s)) ∧ I l.length (l.foldl g s)) ∨ ((∃ i, i < l.length ∧ p i = false) ∧ iter step big (emb s 0) = some bad) := by
 have key : ∀ m i k : Nat, ∀ s, i + m = l.length → m < k → I i s → (∀ j, j < i → p j = true) →
   ((∀ i, i < l.length → p i = true) ∧ iter step k (emb s i) = some (fin ((l.drop i).foldl g s)) ∧ I l.length ((l.drop i).foldl g s)) ∨ ((∃ i, i < l.length ∧ p i = false) ∧ iter step k (emb s i) = some bad) := by
  intro m
  induction m with
  | zero =>
   intro i k s hm hk hi hp
   obtain ⟨k, rfl⟩ : ∃ k', k = k' + 1 := ⟨k - 1, by omega⟩
   obtain rfl : i = l.length := by omega
   rw [iter, h2 s hi, List.drop_length]
   exact .inl ⟨hp, rfl, hi⟩
  | succ m ih =>
   intro i k s hm hk hi hp
   obtain ⟨k, rfl⟩ : ∃ k', k = k' + 1 := ⟨k - 1, by omega⟩
   have hil : i < l.length := by omega
   obtain ⟨e1, e2⟩ := h1 i s hil hi hp
   cases hpi : p i with
   | false =>
    rw [hpi] at e1
    exact .inr ⟨⟨i, hil, hpi⟩, by rw [iter, e1]; rfl⟩
   | true =>
    rw [hpi] at e1
    rw [iter, e1, List.drop_eq_getElem_cons hil, List.foldl_cons]
    exact ih (i + 1) k _ (by omega) (by omega) (e2 hpi) fun j hj => by
     rcases Nat.lt_or_ge j i with h | h
     ·
      exact hp j h
     ·
      obtain rfl : j = i := by omega
      exact hpi
 have := key l.length 0 big s (by omega) (Yfb (by omega)) h0 fun j hj => by omega
 simpa using this


abbrev Pr := Int × Int
def pr (x : Ya1) : Pr := (x.room, x.id)
def prs (l : List Ya1) : List Pr := l.map pr
def posP (l : List Pr) (y : Pr) : Int := if y ∈ l then (l.idxOf y : Int) + 1 else 0

theorem Ymz (l : List Pr) (a y : Pr) : posP (l ++ [a]) y = if y ∈ l then posP l y else if y = a then (l.length : Int) + 1 else 0 := by
 unfold posP
 by_cases h : y ∈ l
 ·
  rw [if_pos h, if_pos h, if_pos (by simp [h]), List.idxOf_append, if_pos h]
 ·
  rw [if_neg h]
  by_cases ha : y = a
  ·
   subst ha
   rw [if_pos (by simp), if_pos rfl, List.idxOf_append, if_neg h]
   simp
  ·
   rw [if_neg (by simp [h, ha]), if_neg ha]
theorem Yn0 {l : List Pr} {y : Pr} : 0 < posP l y ↔ y ∈ l := by
 unfold posP
 by_cases h : y ∈ l
 ·
  rw [if_pos h]; exact ⟨fun _ => h, fun _ => by omega⟩
 ·
  rw [if_neg h]; exact ⟨fun x => by omega, fun x => absurd x h⟩
theorem Yn1 {l : List Pr} {y : Pr} {i : Nat} (hi : i ≤ l.length) : y ∈ l.take i ↔ y ∈ l ∧ l.idxOf y < i := by
 constructor
 ·
  intro h
  refine ⟨List.mem_of_mem_take h, ?_⟩
  have e : l = l.take i ++ l.drop i := (List.take_append_drop i l).symm
  have h2 := List.idxOf_lt_length_of_mem h
  rw [List.length_take] at h2
  rw [e, List.idxOf_append, if_pos h]
  omega
 ·
  rintro ⟨h, hlt⟩
  have h1 := List.idxOf_lt_length_of_mem h
  have : l[l.idxOf y] = y := List.getElem_idxOf h1
  rw [List.mem_take_iff_getElem]
  exact ⟨l.idxOf y, by omega, this⟩
theorem Yn2 {l : List Pr} {y : Pr} {i : Nat} (hi : i ≤ l.length) : y ∈ l.take i ↔ 0 < posP l y ∧ posP l y ≤ i := by
 rw [Yn1 hi, Yn0]
 unfold posP
 constructor
 ·
  rintro ⟨h, hlt⟩; rw [if_pos h]; exact ⟨h, by omega⟩
 ·
  rintro ⟨h, hlt⟩; rw [if_pos h] at hlt; exact ⟨h, by omega⟩
theorem Yn3 {α : Type} {l : List α} (h : l.Nodup) {i j : Nat} (hi : i < l.length) (hj : j < l.length) (e : l[i] = l[j]) : i = j := by
 have hp := List.pairwise_iff_getElem.1 (List.nodup_iff_pairwise_ne.1 h)
 rcases Nat.lt_trichotomy i j with h1 | h1 | h1
 ·
  exact absurd e (hp i j hi hj h1)
 ·
  exact h1
 ·
  exact absurd e.symm (hp j i hj hi h1)
theorem Yn4 {l : List Pr} (h : l.Nodup) {i : Nat} (hi : i < l.length) : l.idxOf l[i] = i := by
 have hm : l[i] ∈ l := Wm hi
 have h1 := List.idxOf_lt_length_of_mem hm
 have e : l[l.idxOf l[i]] = l[i] := List.getElem_idxOf h1
 exact Yn3 h h1 hi e
theorem Yn5 {l : List Pr} : l.Nodup ↔ ∀ (i : Nat) (hi : i < l.length), l[i] ∉ l.take i := by
 constructor
 ·
  intro h i hi hm
  have := (Yn1 (by omega)).1 hm
  rw [Yn4 h hi] at this
  omega
 ·
  intro h
  rw [List.nodup_iff_pairwise_ne, List.pairwise_iff_getElem]
  intro i j hi hj hij e
  exact h j hj (by rw [List.mem_take_iff_getElem]; exact ⟨i, by omega, e⟩)

theorem Yn6 : ∀ {a l : List Pr}, a.Nodup → (∀ x ∈ a, x ∈ l) → a.length ≤ l.length
 | [], _, _, _ => Nat.zero_le _
 | x :: a, l, hn, hs => by
  simp only [List.nodup_cons] at hn
  have hx : x ∈ l := hs x (by simp)
  have := Yn6 (l := l.erase x) hn.2 fun y hy => (List.mem_erase_of_ne (fun e => hn.1 (by rw [← e]; exact hy))).2 (hs y (by simp [hy]))
  rw [List.length_erase_of_mem hx] at this
  have : 0 < l.length := List.length_pos_of_mem hx
  simp only [List.length_cons]; omega
theorem Yn7 {a l : List Pr} (hn : a.Nodup) (hs : ∀ x ∈ a, x ∈ l) (hl : l.length ≤ a.length) : ∀ x ∈ l, x ∈ a := by
 intro x hx
 by_cases h : x ∈ a
 ·
  exact h
 ·
  have := Yn6 (a := x :: a) (l := l) (List.nodup_cons.2 ⟨h, hn⟩) fun y hy => by
   rcases List.mem_cons.1 hy with rfl | hy
   ·
    exact hx
   ·
    exact hs y hy
  simp only [List.length_cons] at this
  omega


def Yn8 : Ya9 := ⟨⟨0, [], []⟩, [], [], [], []⟩
def hiG (g : Ya3) : Ya9 := (Zfw g).getD Yn8
def knG (g : Ya3) : Ya6 := (Z5u g).getD ⟨[], [], [], []⟩
theorem Yn9 {g : Ya3} (hr : Ylk g) : Zfw g = some (hiG g) ∧ Z5u g = some (knG g) ∧ Both g (hiG g) (knG g) := by
 obtain ⟨h, w, h1, h2, h3⟩ := Ylp hr
 unfold hiG knG
 rw [h1, h2]
 exact ⟨rfl, rfl, h3⟩

def okB (g : Ya3) (id : Int) : Bool := refB (hiG g) id
def posG (s : List Pr) (g : Ya3) : List Int := g.events.map fun e => posP s (g.room, e.id)
def nowG (g : Ya3) : List Ya5 := nowT g (hiG g) (okB g)
def wOf (h : Ya4) : Ya7 := ⟨h, h.rooms.map knG, h.rooms.map (posG (prs h.stream)), h.rooms.map nowG⟩

theorem Yna {s : List Pr} {g : Ya3} {j : Nat} (hj : j < g.events.length) (h2 : j < (posG s g).length) : (posG s g)[j] = posP s (g.room, g.events[j].id) := List.getElem_map _

theorem Ynb {h : Ya4} {g : Ya3} (hr : Ylk g) (hn : (prs h.stream).Nodup) (hl : h.stream.length ≤ 120) :
  iter (fun z : List Int × Int => Z6j h g z.1 z.2) big (List.replicate g.events.length 0, 0) = some (posG (prs h.stream) g) := by
 have hfl := hr.fits.len
 obtain ⟨o, e1, rfl⟩ := Yfe (τ := List Int × Int) (ω := List Int) (σ := List Int) (step := fun z : List Int × Int => Z6j h g z.1 z.2) (n := h.stream.length) (fun s j => (s, j)) (fun i s => s = posG ((prs h.stream).take i) g) (fun o => o = posG (prs h.stream) g) (by omega) (by
  rintro i s hi rfl
  have hil : i < (prs h.stream).length := by unfold prs; rw [List.length_map]; exact hi
  have eL : (prs h.stream)[i] = (h.stream[i].room, h.stream[i].id) := List.getElem_map pr
  have etk : (prs h.stream).take (i + 1) = (prs h.stream).take i ++ [(h.stream[i].room, h.stream[i].id)] := by rw [List.take_add_one, We hil, eL]; rfl
  have hnot := Yn5.1 hn i hil
  rw [eL] at hnot
  have hw := Yfh hi (by omega : h.stream.length < 9223372036854775807)
  have hlt : ((prs h.stream).take i).length = i := by rw [List.length_take]; omega
  have hskip : (∀ e ∈ g.events, (g.room, e.id) ≠ (h.stream[i].room, h.stream[i].id)) → posG ((prs h.stream).take i) g = posG ((prs h.stream).take (i + 1)) g := fun hx => by
   unfold posG
   refine List.map_congr_left fun e he => ?_
   rw [etk, Ymz]
   by_cases hm : (g.room, e.id) ∈ (prs h.stream).take i
   ·
    rw [if_pos hm]
   ·
    rw [if_neg hm, if_neg (hx e he)]
    unfold posP; rw [if_neg hm]
  simp only [Z6j]
  rw [dlt hi, Wu, Yfg hi, Wb, Ygd _ _ (by omega), Wb, beqd]
  by_cases hroom : h.stream[i].room = g.room
  ·
   rw [Wt hroom, Wu, Yge]
   cases hh : hasE g.events h.stream[i].id with
   | false =>
    refine ⟨_, by simp only [Z6i, Z6h, Wv]; rw [hw], hskip fun e he ee => ?_⟩
    have : e.id = h.stream[i].id := (Prod.mk.inj ee).2
    have := Ygj.2 ⟨e, he, this⟩
    rw [hh] at this; cases this
   | true =>
    obtain ⟨k, hk, h1, h2, h3⟩ := Ygg hh
    have hkl : k < (posG ((prs h.stream).take i) g).length := by unfold posG; rw [List.length_map]; exact hk
    refine ⟨(posG ((prs h.stream).take i) g).set k ((i + 1 : Nat) : Int), by simp only [Z6i, Z6h, Wu]; rw [h1, Yfg hkl, Wb, Int.toNat_natCast, hw], ?_⟩
    refine List.ext_getElem (by simp [posG]) fun j hj1 hj2 => ?_
    have hj : j < g.events.length := by simpa [posG] using hj2
    have hj0 : j < (posG ((prs h.stream).take i) g).length := by simpa [posG] using hj
    rw [List.getElem_set, Yna hj hj2, Yna hj hj0]
    simp only [etk]
    rw [Ymz]
    by_cases hjk : k = j
    ·
     subst hjk
     have ee : (g.room, g.events[k].id) = (h.stream[i].room, h.stream[i].id) := by rw [h2, hroom]
     rw [if_pos rfl, ee, if_neg hnot, if_pos rfl, hlt]; omega
    ·
     rw [if_neg hjk]
     by_cases hm : (g.room, g.events[j].id) ∈ (prs h.stream).take i
     ·
      rw [if_pos hm]
     ·
      rw [if_neg hm, if_neg (fun ee => hjk (hr.fits.up.inj hk hj (by rw [h2]; exact (Prod.mk.inj ee).2.symm)))]
      unfold posP; rw [if_neg hm]
  ·
   rw [Wf hroom, Wv]
   exact ⟨_, by simp only [Z6i, Z6h, Wv]; rw [hw], hskip fun e he ee => hroom (Prod.mk.inj ee).1.symm⟩) (by
  rintro s rfl
  simp only [Z6j]
  rw [dnlt, Wv]
  exact ⟨_, rfl, by rw [show h.stream.length = (prs h.stream).length by simp [prs], List.take_length]⟩) (s := List.replicate g.events.length 0) (by
  show List.replicate g.events.length 0 = posG [] g
  exact List.ext_getElem (by simp [posG]) fun j h1 h2 => by simp [posG, posP])
 exact e1

theorem Ync {h : Ya4} (hr : ∀ g ∈ h.rooms, Ylk g) (hn : (prs h.stream).Nodup) (hl : h.stream.length ≤ 120) (h3 : h.rooms.length = 3) : Z6l h = some (wOf h) := by
 unfold Z6l
 have := Yfx (l := h.rooms) (step := fun z : List Ya6 × List (List Int) × List (List Ya5) × Int => Z6k h z.1 z.2.1 z.2.2.1 z.2.2.2) (fun (q : List Ya6 × List (List Int) × List (List Ya5)) j => (q.1, q.2.1, q.2.2, j)) (fun q => q)
  (fun q g => (q.1 ++ [knG g], q.2.1 ++ [posG (prs h.stream) g], q.2.2 ++ [nowG g])) (fun i q => q.1.length = i ∧ q.2.1.length = i ∧ q.2.2.length = i) (by omega) (fun i q hi ⟨q1, q2, q3⟩ => by
  refine ⟨?_, by simp [q1], by simp [q2], by simp [q3]⟩
  have hg := hr _ (Wm hi)
  have hfl := hg.fits.len
  obtain ⟨b1, b2, b3⟩ := Yn9 hg
  have hp := Ynb hg hn hl
  simp only [Z6k]
  rw [dlt hi, Wu, Yfg hi, Wb, b2, Wb, Y4x (Wt (by simp; omega)), Wb, Ymx b3 hg, Wb, Ymw b3 hg, Wb, Yit (by simp; omega), Wb, Y4x (Wt (by omega)), Wb, Int.toNat_natCast, hp, Wb]
  simp only [Z6g]
  rw [Yit (by simp; omega), Wb, Yfh hi (by omega)]
  rfl)
  (fun q _ => by simp only [Z6k]; rw [dnlt, Wv]) (s := ([], [], [])) ⟨rfl, rfl, rfl⟩
 rw [this.1, Wb]
 have key : ∀ (l : List Ya3) (q : List Ya6 × List (List Int) × List (List Ya5)), l.foldl (fun q g => (q.1 ++ [knG g], q.2.1 ++ [posG (prs h.stream) g], q.2.2 ++ [nowG g])) q = (q.1 ++ l.map knG, q.2.1 ++ l.map (posG (prs h.stream)), q.2.2 ++ l.map nowG) := by
  intro l
  induction l with
  | nil => intro q; simp
  | cons g l ih => intro q; rw [List.foldl_cons, ih]; simp
 rw [key]
 simp only [List.nil_append, Z6f]
 rfl
end Go.Proofs.YtnoknphekhclcaaGreatDoor
namespace Go.Proofs.YtnoknphekhclcaaGreatDoor
open Go Go.Abs

def inS (s : List Pr) (g : Ya3) (e : Y9z) : Bool := decide (0 < posP s (g.room, e.id))
def strE (s : List Pr) (g : Ya3) (e : Y9z) : Bool := (okB g e.id == inS s g e) && (!inS s g e || e.prev.all fun p => decide (posP s (g.room, p) < posP s (g.room, e.id)))
def Ynd (s : List Pr) (g : Ya3) : Nat := (g.events.filter (inS s g)).length
def Yne (s : List Pr) (l : List Ya3) : Nat := (l.map (Ynd s)).sum

theorem Ynf (s : List Pr) (g : Ya3) : ∀ (l : List Y9z) (m : Int), l.foldl (fun m e => if inS s g e = true then m + 1 else m) m = m + (l.filter (inS s g)).length
 | [], m => by simp
 | e :: l, m => by
  rw [List.foldl_cons, Ynf s g l]
  cases h : inS s g e with
  | true => rw [if_pos rfl, List.filter_cons_of_pos h, List.length_cons]; omega
  | false => rw [if_neg (by simp), List.filter_cons_of_neg (by simp [h])]
theorem Yng (s : List Pr) : ∀ (l : List Ya3) (m : Int), l.foldl (fun m g => m + (Ynd s g : Int)) m = m + (Yne s l : Nat)
 | [], m => by simp [Yne]
 | g :: l, m => by
  rw [List.foldl_cons, Yng s l]
  unfold Yne
  rw [List.map_cons, List.sum_cons]
  omega

def atB {α : Type} (l : List α) (p : α → Bool) (i : Nat) : Bool := if h : i < l.length then p l[i] else true
theorem Ynh {α : Type} {l : List α} {p : α → Bool} {i : Nat} (h : i < l.length) : atB l p i = p l[i] := by unfold atB; rw [dif_pos h]
theorem Yni {α : Type} {l : List α} {p : α → Bool} : (∀ i, i < l.length → atB l p i = true) ↔ l.all p = true := Yfv
theorem Ynj {α : Type} {l : List α} {p : α → Bool} (h : ∃ i, i < l.length ∧ atB l p i = false) : l.all p = false := by
 obtain ⟨i, hi, hb⟩ := h
 rw [Bool.eq_false_iff]
 intro ha
 have := Yni.2 ha i hi
 rw [hb] at this; cases this

theorem Ynk {s : List Pr} {g : Ya3} (hr : Ylk g) {k : Nat} (hk : k < g.events.length) :
  iter (Z6s g (k : Int) (posG s g) (posP s (g.room, g.events[k].id))) big 0 = some (cond (!inS s g g.events[k] || g.events[k].prev.all fun p => decide (posP s (g.room, p) < posP s (g.room, g.events[k].id))) (.inr ()) (.inl false)) := by
 have hpl := hr.fits.plen _ (Wm hk)
 have hfl := hr.fits.len
 cases hin : inS s g g.events[k] with
 | false =>
  have h0 : decide (posP s (g.room, g.events[k].id) > 0) = false := hin
  rw [Y50 (o := .inr ()) (fun m (x : Int) => x = 0 ∧ m = 0) ?_ (m := 0) ⟨rfl, rfl⟩ (Yfb (by omega))]
  ·
   rfl
  ·
   rintro m x ⟨rfl, rfl⟩
   left
   simp only [Z6s]
   rw [Yfg hk, Wb, h0]
   cases decide ((0 : Int) < (g.events[k].prev.length : Int)) <;> rfl
 | true =>
  have h0 : decide (posP s (g.room, g.events[k].id) > 0) = true := hin
  rw [Yfw (l := g.events[k].prev) (fun p => decide (posP s (g.room, p) < posP s (g.room, g.events[k].id))) (.inl false) (.inr ()) hpl (fun i hi => by
   obtain ⟨j, hj, j1, j2, _⟩ := Ygg (hr.fits.whole _ (Wm hk) _ (Wm hi))
   have hjl : j < (posG s g).length := by unfold posG; rw [List.length_map]; exact hj
   simp only [Z6s]
   rw [Yfg hk, Wb, dlt hi, Wu, h0]
   simp only [Z6r]
   rw [Yfg hk, Wu, Wb, Yfg hi, Wb, Ygd _ _ (by omega), Wb, j1, Yfg hjl, Wb, Yna hj, j2, Yfh hi hpl]
   by_cases hc : posP s (g.room, g.events[k].prev[i]) < posP s (g.room, g.events[k].id)
   ·
    rw [Wt hc, Wf (by omega)]; rfl
   ·
    rw [Wf hc, Wt (by omega)]; rfl) (by
   simp only [Z6s]
   rw [Yfg hk, Wb, dnlt, Wv]; rfl)]
  rfl

theorem Ynl {g : Ya3} (hr : Ylk g) {k : Nat} (hk : k < g.events.length) : ∃ c, getI (knG g).code (k : Int) = some c ∧ (c == 0) = okB g g.events[k].id := by
 obtain ⟨c, h1, h2⟩ := (Yn9 hr).2.2.code (Wm hk)
 rw [(hr.fits.up.plc hk).1] at h1
 refine ⟨c, h1, ?_⟩
 unfold okB refB
 rw [h2, beqd]

theorem Ynm {h : Ya4} {i : Nat} (hi : i < h.rooms.length) (hr : Ylk h.rooms[i]) {m : Int} (hm : 0 ≤ m ∧ m ≤ 1000) :
  iter (fun z : Int × Int => Z6t (wOf h) (i : Int) h.rooms[i] z.1 z.2) big (m, 0) = some (cond (h.rooms[i].events.all (strE (prs h.stream) h.rooms[i])) (.inr (m + (Ynd (prs h.stream) h.rooms[i] : Int))) (.inl false)) := by
 have hfl := hr.fits.len
 have g1 : getI (wOf h).rooms (i : Int) = some (knG h.rooms[i]) := Ymr knG hi
 have g2 : getI (wOf h).pos (i : Int) = some (posG (prs h.stream) h.rooms[i]) := Ymr _ hi
 have := Ymy (l := h.rooms[i].events) (step := fun z : Int × Int => Z6t (wOf h) (i : Int) h.rooms[i] z.1 z.2) (fun q j => (q, j)) (fun q => Sum.inr q) (Sum.inl false) (atB h.rooms[i].events (strE (prs h.stream) h.rooms[i])) (fun m e => if inS (prs h.stream) h.rooms[i] e = true then m + 1 else m) (fun k q => 0 ≤ q ∧ q ≤ 1000 + k) (by omega) (fun k q hk ⟨q1, q2⟩ _ => by
  refine ⟨?_, fun _ => by split <;> omega⟩
  obtain ⟨c, c1, c2⟩ := Ynl hr hk
  have hkl : k < (posG (prs h.stream) h.rooms[i]).length := by unfold posG; rw [List.length_map]; exact hk
  have hp := Ynk (s := prs h.stream) hr hk
  have hw := Yfh hk (by omega : h.rooms[i].events.length < 9223372036854775807)
  have hin : decide (posP (prs h.stream) (h.rooms[i].room, h.rooms[i].events[k].id) > 0) = inS (prs h.stream) h.rooms[i] h.rooms[i].events[k] := rfl
  simp only [Z6t]
  rw [dlt hk, Wu, g1, Wb, c1, Wb, g2, Wb, Yfg hkl, Wb, Yna hk, c2, hin, hp, Wb, Ynh hk]
  unfold strE
  cases ho : okB h.rooms[i] h.rooms[i].events[k].id == inS (prs h.stream) h.rooms[i] h.rooms[i].events[k] with
  | false => rfl
  | true =>
   rw [Wu, Bool.true_and]
   cases hc : (!inS (prs h.stream) h.rooms[i] h.rooms[i].events[k] || h.rooms[i].events[k].prev.all fun p => decide (posP (prs h.stream) (h.rooms[i].room, p) < posP (prs h.stream) (h.rooms[i].room, h.rooms[i].events[k].id))) with
   | false => rfl
   | true =>
    simp only [Wu, Z6q, Z6p]
    rw [hin, hw, Y4w (n := q + 1) (by omega) (by omega)]
    cases inS (prs h.stream) h.rooms[i] h.rooms[i].events[k] <;> rfl)
  (fun q _ => by simp only [Z6t]; rw [dnlt, Wv]) (s := m) ⟨hm.1, by omega⟩
 rcases this with ⟨a1, a2, _⟩ | ⟨a1, a2⟩
 ·
  rw [a2, Yni.1 a1, Ynf]; rfl
 ·
  rw [a2, Ynj a1]; rfl

theorem Ynn {s : List Pr} {g : Ya3} (hr : Ylk g) : Ynd s g ≤ 60 := Nat.le_trans (List.length_filter_le _ _) hr.fits.len

theorem Yno {h : Ya4} (hr : ∀ g ∈ h.rooms, Ylk g) (h3 : h.rooms.length = 3) (hl : h.stream.length ≤ 120) :
  Z6v (wOf h) = some ((h.rooms.all fun g => g.events.all (strE (prs h.stream) g)) && decide (Yne (prs h.stream) h.rooms = h.stream.length)) := by
 unfold Z6v
 have := Ymy (l := h.rooms) (step := fun z : Int × Int => Z6u (wOf h) z.1 z.2) (fun q j => (q, j)) (fun q => Sum.inr q) (Sum.inl false) (atB h.rooms fun g => g.events.all (strE (prs h.stream) g)) (fun m g => m + (Ynd (prs h.stream) g : Int)) (fun k q => 0 ≤ q ∧ q ≤ 60 * k) (by omega) (fun k q hk ⟨q1, q2⟩ _ => by
  have hg := hr _ (Wm hk)
  have hml := Ynn (s := prs h.stream) hg
  refine ⟨?_, fun _ => by omega⟩
  have hev := Ynm (h := h) hk hg (m := q) ⟨q1, by omega⟩
  have g0 : getI (wOf h).h.rooms (k : Int) = some h.rooms[k] := Yfg hk
  have hw := Yfh hk (by omega : h.rooms.length < 9223372036854775807)
  have hd : decide ((k : Int) < ((wOf h).h.rooms.length : Int)) = true := dlt hk
  simp only [Z6u]
  rw [hd, Wu, g0, Wb, hev, Wb, Ynh hk]
  cases h.rooms[k].events.all (strE (prs h.stream) h.rooms[k]) with
  | false => rfl
  | true => simp only [Wu, Z6o]; rw [hw])
  (fun q _ => by
   have hd : decide ((h.rooms.length : Int) < ((wOf h).h.rooms.length : Int)) = false := dnlt _
   simp only [Z6u]; rw [hd, Wv]) (s := 0) ⟨by omega, by omega⟩
 rcases this with ⟨a1, a2, _⟩ | ⟨a1, a2⟩
 ·
  rw [a2, Yni.1 a1, Yng, Wb]
  simp only [Z6n]
  rw [beqd, Bool.true_and]
  congr 1
  rw [Bool.eq_iff_iff]
  simp only [decide_eq_true_eq]
  show (0 + ((Yne (prs h.stream) h.rooms : Nat) : Int) = (h.stream.length : Int)) ↔ _
  omega
 ·
  rw [a2, Ynj a1]; rfl
end Go.Proofs.YtnoknphekhclcaaGreatDoor
namespace Go.Proofs.YtnoknphekhclcaaGreatDoor
open Go Go.Abs

structure Ynp (h : Ya4) : Prop where
 rl : h.rooms.length ≤ 1048576
 sl : h.stream.length ≤ 1048576
 fine : ∀ g ∈ h.rooms, Fine g

def gB (g : Ya3) : Bool := (Z30 g).getD false
theorem Ynq {g : Ya3} (hg : Fine g) : Z30 g = some (gB g) ∧ Zba g = some (gB g) ∧ (gB g = true ↔ GOk g) := by
 obtain ⟨b, h1, h2, h3⟩ := Yio hg
 unfold gB
 rw [h1]
 exact ⟨rfl, h2, h3⟩
def rB (l : List Ya3) (i : Nat) : Bool := if h : i < l.length then gB l[i] && decide (l[i].room = (i : Int) + 1) else true
theorem Ynr {l : List Ya3} {i : Nat} (h : i < l.length) : rB l i = (gB l[i] && decide (l[i].room = (i : Int) + 1)) := by unfold rB; rw [dif_pos h]
def Yns (h : Ya4) : Prop := ∀ (i : Nat) (hi : i < h.rooms.length), GOk h.rooms[i] ∧ h.rooms[i].room = (i : Int) + 1
theorem Ynt {h : Ya4} (hf : Ynp h) : (∀ i, i < h.rooms.length → rB h.rooms i = true) ↔ Yns h := by
 constructor
 ·
  intro k i hi
  have := k i hi
  rw [Ynr hi, Bool.and_eq_true] at this
  exact ⟨(Ynq (hf.fine _ (Wm hi))).2.2.1 this.1, by simpa using this.2⟩
 ·
  intro k i hi
  rw [Ynr hi, Bool.and_eq_true]
  exact ⟨(Ynq (hf.fine _ (Wm hi))).2.2.2 (k i hi).1, by simpa using (k i hi).2⟩
theorem Yns.right {h : Ya4} (k : Yns h) : ∀ g ∈ h.rooms, Ylk g := fun g hg => by
 obtain ⟨i, hi, rfl⟩ := List.mem_iff_getElem.1 hg
 exact (k i hi).1.right


def zW : Ya7 := ⟨⟨[], []⟩, [], [], []⟩
def OkS (h : Ya4) : Prop := h.rooms.length = 3 ∧ h.stream.length ≤ 120 ∧ Yns h ∧ (prs h.stream).Nodup ∧ (∀ g ∈ h.rooms, ∀ e ∈ g.events, strE (prs h.stream) g e = true) ∧ Yne (prs h.stream) h.rooms = h.stream.length

theorem Ynu {l : List Ya1} {i : Nat} (hi : i < l.length) (h2 : i < (prs l).length) : (prs l)[i] = (l[i].room, l[i].id) := List.getElem_map pr
theorem Ynv (l : List Ya1) : (prs l).length = l.length := List.length_map pr

theorem eqSp (a b c d : Int) : ((a == b) && ((c == d) && true)) = decide ((b, d) = (a, c)) := by
 rw [Bool.eq_iff_iff]
 simp only [Bool.and_eq_true, beq_iff_eq, and_true, decide_eq_true_eq, Prod.mk.injEq]
 exact ⟨fun x => ⟨x.1.symm, x.2.symm⟩, fun x => ⟨x.1.symm, x.2.symm⟩⟩

theorem Ynw {h : Ya4} (hl : h.stream.length ≤ 120) {i : Nat} (hi : i < h.stream.length) :
  iter (Z6z h (i : Int)) big 0 = some (cond (!decide ((h.stream[i].room, h.stream[i].id) ∈ (prs h.stream).take i)) (.inr ()) (.inl (zW, false))) := by
 have hlt : ((prs h.stream).take i).length = i := by rw [List.length_take, Ynv]; omega
 have hgt : ∀ (k : Nat) (hk : k < ((prs h.stream).take i).length), ((prs h.stream).take i)[k] = (h.stream[k].room, h.stream[k].id) := fun k hk => by
  rw [List.getElem_take]; exact Ynu _ _
 rw [Yfw (l := (prs h.stream).take i) (step := Z6z h (i : Int)) (fun y => !decide (y = (h.stream[i].room, h.stream[i].id))) (.inl (zW, false)) (.inr ()) (by omega) (fun k hk => by
  have hki : k < i := by omega
  simp only [Z6z]
  rw [dlt hki, Wu, Yfg hi, Wb, Yfg (by omega : k < h.stream.length), Wb, hgt k hk, Yfh hki (by omega)]
  rw [eqSp]
  cases decide ((h.stream[k].room, h.stream[k].id) = (h.stream[i].room, h.stream[i].id)) <;> rfl) (by
  simp only [Z6z]
  rw [hlt, dnlt, Wv])]
 congr 2
 rw [Bool.eq_iff_iff, List.all_eq_true]
 simp only [Bool.not_eq_true', decide_eq_false_iff_not]
 constructor
 ·
  exact fun k hm => k _ hm rfl
 ·
  exact fun k y hy e => k (e ▸ hy)

theorem Ynx {h : Ya4} (hf : Ynp h) : ∃ b : Bool, (b = true ↔ OkS h) ∧ Z75 h = some (cond b (wOf h, true) (zW, false)) := by
 have hrl := hf.rl
 have hsl := hf.sl
 unfold Z75
 by_cases h3 : (h.rooms.length : Int) = 3
 rotate_left
 ·
  refine ⟨false, ⟨fun x => (by cases x), fun x => absurd x.1 (by omega)⟩, ?_⟩
  rw [bned, Wf h3]; rfl
 by_cases hl : (h.stream.length : Int) > 120
 ·
  refine ⟨false, ⟨fun x => (by cases x), fun x => absurd x.2.1 (by omega)⟩, ?_⟩
  rw [bned, Wt h3, Wt hl]; rfl
 rw [bned, Wt h3, Wf hl]
 simp only [Bool.not_true, Wv, Z74]
 have hl' : h.stream.length ≤ 120 := by omega
 have h3' : h.rooms.length = 3 := by omega
 have := Ymy (l := h.rooms) (step := fun z : Int => Z73 h z) (fun (_ : Unit) j => j) (fun _ => Sum.inr ()) (Sum.inl (zW, false)) (rB h.rooms) (fun q _ => q) (fun _ _ => True) (by omega) (fun k q hk _ _ => by
  refine ⟨?_, fun _ => trivial⟩
  obtain ⟨b1, _, _⟩ := Ynq (hf.fine _ (Wm hk))
  have hw := Yfh hk (by omega : h.rooms.length < 9223372036854775807)
  simp only [Z73]
  rw [dlt hk, Wu, Yfg hk, Wb, b1, Wb, Ynr hk, hw, bned]
  cases gB h.rooms[k] with
  | false => rfl
  | true =>
   simp only [Wu, Bool.true_and, Z72, hw]
   by_cases hc : h.rooms[k].room = (k : Int) + 1
   ·
    rw [Wt hc, Wt (by omega)]; rfl
   ·
    rw [Wf hc, Wf (by omega)]; rfl)
  (fun q _ => by simp only [Z73]; rw [dnlt, Wv]) (s := ()) trivial
 rcases this with ⟨a1, a2, _⟩ | ⟨⟨i, hi, a1⟩, a2⟩
 rotate_left
 ·
  refine ⟨false, ⟨fun x => (by cases x), fun x => ?_⟩, ?_⟩
  ·
   have := (Ynt hf).2 x.2.2.1 i hi
   rw [a1] at this; cases this
  ·
   have a2' : iter (Z73 h) big 0 = some (Sum.inl (zW, false)) := a2
   rw [a2']; rfl
 have hro := (Ynt hf).1 a1
 have a2' : iter (Z73 h) big 0 = some (Sum.inr ()) := a2
 rw [a2', Wb]
 simp only [Z71]
 -- no repetition
 have := Ymy (l := prs h.stream) (step := fun z : Int => Z70 h z) (fun (_ : Unit) j => j) (fun _ => Sum.inr ()) (Sum.inl (zW, false)) (fun i => if hi : i < (prs h.stream).length then !decide ((prs h.stream)[i] ∈ (prs h.stream).take i) else true) (fun q _ => q) (fun _ _ => True) (by rw [Ynv]; omega) (fun k q hk _ _ => by
  refine ⟨?_, fun _ => trivial⟩
  have hk' : k < h.stream.length := by rw [Ynv] at hk; exact hk
  have hw := Yfh hk' (by omega : h.stream.length < 9223372036854775807)
  have hd := Ynw hl' hk'
  simp only [Z70]
  rw [dlt hk', Wu, hd, Wb, dif_pos hk, Ynu hk']
  cases decide ((h.stream[k].room, h.stream[k].id) ∈ (prs h.stream).take k) with
  | false => simp only [Bool.not_false, Wu, Z6y]; rw [hw]
  | true => rfl)
  (fun q _ => by simp only [Z70]; rw [Ynv, dnlt, Wv]) (s := ()) trivial
 rcases this with ⟨n1, n2, _⟩ | ⟨⟨i, hi, n1⟩, n2⟩
 rotate_left
 ·
  refine ⟨false, ⟨fun x => (by cases x), fun x => ?_⟩, ?_⟩
  ·
   rw [dif_pos hi] at n1
   have := Yn5.1 x.2.2.2.1 i hi
   simp [this] at n1
  ·
   have n2' : iter (Z70 h) big 0 = some (Sum.inl (zW, false)) := n2
   rw [n2']; rfl
 have hnd : (prs h.stream).Nodup := Yn5.2 fun i hi => by
  have := n1 i hi
  rw [dif_pos hi] at this
  simpa using this
 have n2' : iter (Z70 h) big 0 = some (Sum.inr ()) := n2
 rw [n2', Wb]
 simp only [Z6x]
 rw [Ync hro.right hnd hl' h3', Wb, Yno hro.right h3' hl', Wb]
 refine ⟨(h.rooms.all fun g => g.events.all (strE (prs h.stream) g)) && decide (Yne (prs h.stream) h.rooms = h.stream.length), ?_, ?_⟩
 ·
  rw [Bool.and_eq_true, List.all_eq_true, decide_eq_true_eq]
  constructor
  ·
   rintro ⟨k1, k2⟩
   exact ⟨h3', hl', hro, hnd, fun g hg e he => List.all_eq_true.1 (k1 g hg) e he, k2⟩
  ·
   rintro ⟨_, _, _, _, k1, k2⟩
   exact ⟨fun g hg => List.all_eq_true.2 fun e he => k1 g hg e he, k2⟩
 ·
  cases (h.rooms.all fun g => g.events.all (strE (prs h.stream) g)) && decide (Yne (prs h.stream) h.rooms = h.stream.length) <;> rfl
end Go.Proofs.YtnoknphekhclcaaGreatDoor
namespace Go.Proofs.YtnoknphekhclcaaGreatDoor
open Go Go.Abs

def zS : Yaa := ⟨⟨[], []⟩, []⟩
def sOf (h : Ya4) : Yaa := ⟨h, h.rooms.map hiG⟩
def zG : Ya3 := ⟨0, [], []⟩
def rmG (h : Ya4) (r : Int) : Ya3 := h.rooms.getD (r - 1).toNat zG
def stX (h : Ya4) (i : Nat) (x : Ya1) : Bool :=
 decide (1 ≤ x.room ∧ x.room ≤ 3) && !decide ((x.room, x.id) ∈ (prs h.stream).take i) && hasE (rmG h x.room).events x.id && okB (rmG h x.room) x.id &&
  (evD (rmG h x.room).events x.id).prev.all fun p => !okB (rmG h x.room) p || decide ((x.room, p) ∈ (prs h.stream).take i)
def stB (h : Ya4) (i : Nat) : Bool := if hi : i < h.stream.length then stX h i h.stream[i] else true
def Yny (g : Ya3) : Nat := (accT g.events (okB g)).length
def Ynz (l : List Ya3) : Nat := (l.map Yny).sum
theorem Yo0 : ∀ (l : List Ya3) (q : List Ya9 × Int), l.foldl (fun q g => (q.1 ++ [hiG g], q.2 + (Yny g : Int))) q = (q.1 ++ l.map hiG, q.2 + (Ynz l : Nat))
 | [], q => by simp [Ynz]
 | g :: l, q => by
  rw [List.foldl_cons, Yo0 l]
  unfold Ynz
  rw [List.map_cons, List.map_cons, List.sum_cons, List.append_assoc]
  congr 1
  omega

theorem Yo1 {g : Ya3} (hr : Ylk g) : Yny g ≤ 60 := Ymk hr.fits _

def OkI (h : Ya4) : Prop := h.rooms.length = 3 ∧ h.stream.length ≤ 120 ∧ Yns h ∧ (∀ i, i < h.stream.length → stB h i = true) ∧ Ynz h.rooms = h.stream.length

theorem Yo2 {h : Ya4} (h3 : h.rooms.length = 3) {r : Int} (hr : 1 ≤ r ∧ r ≤ 3) : ∃ (k : Nat) (hk : k < h.rooms.length), r = (k : Int) + 1 ∧ IntKind.i64.wrap (r - 1) = (k : Int) ∧ rmG h r = h.rooms[k] := by
 refine ⟨(r - 1).toNat, by omega, by omega, ?_, ?_⟩
 ·
  rw [Y4w (by omega) (by omega)]; omega
 ·
  unfold rmG
  rw [List.getD_eq_getElem?_getD, We (by omega)]; rfl

theorem Yo3 {g : Ya3} (hg : Ylk g) {m : List (Pr × Bool)} {s : List Pr} {x : Ya1} (hm : ∀ y, Option.getD (pget m y) false = decide (y ∈ s)) (p : Int) :
  Zg6 p (hiG g) m x = some (!(!okB g p || decide ((x.room, p) ∈ s))) := by
 unfold Zg6
 rw [beqd]
 show cond (okB g p) _ _ = _
 cases okB g p with
 | false => rfl
 | true => simp only [Wu, Zg5, hm]; simp

theorem Yo4 {g : Ya3} (hg : Ylk g) {m : List (Pr × Bool)} {s : List Pr} {x : Ya1} (hm : ∀ y, Option.getD (pget m y) false = decide (y ∈ s)) (l : List Int) (hl : l.length < 9223372036854775807) :
  Zgc l (hiG g) m x = some (!l.all fun p => !okB g p || decide ((x.room, p) ∈ s)) := by
 unfold Zgc Zga
 rw [Yfz (Yfu (l := l) (step := Zg9 l (hiG g) m x) (fun p => !(!okB g p || decide ((x.room, p) ∈ s))) hl (fun i hi => by
  simp only [Zg9]
  rw [dlt hi, Wu, Yfg hi, Wb, Yo3 hg hm, Wb, Yfh hi hl]
  cases (!okB g l[i] || decide ((x.room, l[i]) ∈ s)) <;> rfl) (by simp only [Zg9]; rw [dnlt, Wv])) (fun _ => rfl) rfl, Wb, Yfy, Ykj]

theorem Yo5 {h : Ya4} (hro : Yns h) (h3 : h.rooms.length = 3) (hl : h.stream.length ≤ 120) :
  ((∀ i, i < h.stream.length → stB h i = true) ∧ iter (fun z : List (Pr × Bool) × Int => Zgi h (h.rooms.map hiG) z.1 z.2) big ([], 0) = some (.inr ())) ∨
  ((∃ i, i < h.stream.length ∧ stB h i = false) ∧ iter (fun z : List (Pr × Bool) × Int => Zgi h (h.rooms.map hiG) z.1 z.2) big ([], 0) = some (.inl (zS, false))) := by
 have := Ymy (l := h.stream) (step := fun z : List (Pr × Bool) × Int => Zgi h (h.rooms.map hiG) z.1 z.2) (fun q j => (q, j)) (fun _ => Sum.inr ()) (Sum.inl (zS, false)) (stB h) (fun m x => pset m (x.room, x.id) true) (fun i m => ∀ y, Option.getD (pget m y) false = decide (y ∈ (prs h.stream).take i)) (by omega) (fun i m hi hm _ => by
  have hil : i < (prs h.stream).length := by rw [Ynv]; exact hi
  have etk : (prs h.stream).take (i + 1) = (prs h.stream).take i ++ [(h.stream[i].room, h.stream[i].id)] := by rw [List.take_add_one, We hil, Ynu hi]; rfl
  refine ⟨?_, fun _ y => ?_⟩
  rotate_left
  ·
   rw [Y8t, etk]
   by_cases hy : y = (h.stream[i].room, h.stream[i].id)
   ·
    rw [if_pos hy, Option.getD_some]; simp [hy]
   ·
    rw [if_neg hy, hm]; simp [hy]
  have hw := Yfh hi (by omega : h.stream.length < 9223372036854775807)
  have hb : stB h i = stX h i h.stream[i] := by unfold stB; rw [dif_pos hi]
  rw [hb]
  simp only [Zgi]
  rw [dlt hi, Wu, Yfg hi, Wb, Yfo, Wb]
  generalize h.stream[i] = x
  unfold stX
  by_cases hx : 1 ≤ x.room ∧ x.room ≤ 3
  rotate_left
  ·
   rw [Wf hx]; rfl
  rw [Wt hx, Wu, hm, Bool.true_and]
  simp only [Zgh]
  cases decide ((x.room, x.id) ∈ (prs h.stream).take i) with
  | true => rfl
  | false =>
   rw [Wv, Bool.not_false, Bool.true_and]
   obtain ⟨k, hk, k1, k2, k3⟩ := Yo2 h3 hx
   have hg := hro.right _ (Wm hk)
   have hfl := hg.fits.len
   have hgr : (hiG h.rooms[k]).graph = h.rooms[k] := (Yn9 hg).2.2.graph
   have e1 : Zg3 (Yaa.mk h (h.rooms.map hiG)) x.room = some (hiG h.rooms[k]) := by
    unfold Zg3
    rw [k2]
    show (getI (h.rooms.map hiG) (k : Int)).bind _ = _
    rw [Ymr hiG hk]; rfl
   rw [e1, Wb, hgr, c_at _ _ hg.fits.up (by omega), Wb, k3]
   simp only [Zgg]
   cases hh : hasE h.rooms[k].events x.id with
   | false => rfl
   | true =>
    rw [Wu, Bool.true_and, bned]
    show cond (!okB h.rooms[k] x.id) _ _ = _
    cases okB h.rooms[k] x.id with
    | false => rfl
    | true =>
     rw [Bool.not_true, Wv, Bool.true_and]
     have hev : Option.getD (evAt h.rooms[k].events x.id) zEv = evD h.rooms[k].events x.id := rfl
     have hpl := (hg.walk.prev (Ykw.1 hh)).1
     rw [hev, Yo4 hg hm _ (by omega), Wb]
     simp only [Zgf, hw]
     cases (evD h.rooms[k].events x.id).prev.all fun p => !okB h.rooms[k] p || decide ((x.room, p) ∈ (prs h.stream).take i) <;> rfl)
  (fun q _ => by simp only [Zgi]; rw [dnlt, Wv]) (s := []) (fun y => by simp [pget])
 rcases this with ⟨a1, a2, _⟩ | ⟨a1, a2⟩
 ·
  exact .inl ⟨a1, a2⟩
 ·
  exact .inr ⟨a1, a2⟩

theorem Yo6 {h : Ya4} (hf : Ynp h) : ∃ b : Bool, (b = true ↔ OkI h) ∧ Zgn h = some (cond b (sOf h, true) (zS, false)) := by
 have hrl := hf.rl
 have hsl := hf.sl
 unfold Zgn
 by_cases h3 : (h.rooms.length : Int) = 3
 rotate_left
 ·
  refine ⟨false, ⟨fun x => (by cases x), fun x => absurd x.1 (by omega)⟩, ?_⟩
  rw [bned, Wf h3]; rfl
 by_cases hl : (h.stream.length : Int) > 120
 ·
  refine ⟨false, ⟨fun x => (by cases x), fun x => absurd x.2.1 (by omega)⟩, ?_⟩
  rw [bned, Wt h3, Wt hl]; rfl
 rw [bned, Wt h3, Wf hl]
 simp only [Bool.not_true, Wv, Zgm]
 have hl' : h.stream.length ≤ 120 := by omega
 have h3' : h.rooms.length = 3 := by omega
 have := Ymy (l := h.rooms) (step := fun z : List Ya9 × Int × Int => Zgl h z.1 z.2.1 z.2.2) (fun (q : List Ya9 × Int) j => (q.1, q.2, j)) (fun q => Sum.inr q) (Sum.inl (zS, false)) (rB h.rooms) (fun q g => (q.1 ++ [hiG g], q.2 + (Yny g : Int))) (fun i q => q.1.length = i ∧ 0 ≤ q.2 ∧ q.2 ≤ 60 * i) (by omega) (fun k q hk ⟨q1, q2, q3⟩ hp => by
  obtain ⟨_, b2, b3⟩ := Ynq (hf.fine _ (Wm hk))
  have hw := Yfh hk (by omega : h.rooms.length < 9223372036854775807)
  have hb := Ynr hk
  refine ⟨?_, fun ht => ?_⟩
  rotate_left
  ·
   rw [hb, Bool.and_eq_true] at ht
   have := Yo1 (b3.1 ht.1).right
   simp only [List.length_append, List.length_singleton]; omega
  simp only [Zgl]
  rw [dlt hk, Wu, Yfg hk, Wb, b2, Wb, hb, hw, bned]
  cases hgB : gB h.rooms[k] with
  | false => rfl
  | true =>
   have hg := (b3.1 hgB).right
   obtain ⟨n1, _, n3⟩ := Yn9 hg
   have hle := Yo1 hg
   have hac : Zg1 (hiG h.rooms[k]) = some (accT h.rooms[k].events (okB h.rooms[k])) := by
    have := Ymf (h := hiG h.rooms[k]) (by rw [n3.graph]; exact hg)
    rw [n3.graph] at this; exact this
   have hgt : getI (q.1 ++ [hiG h.rooms[k]]) (k : Int) = some (hiG h.rooms[k]) := Yhb (X := q.1) (Y := []) rfl q1.symm
   simp only [Wu, Bool.true_and, Zgk]
   by_cases hc : h.rooms[k].room = (k : Int) + 1
   ·
    rw [Wt hc, Wt (by omega), Bool.not_true, Wv, n1, Wb, Y4x (Wt (by simp; omega)), Wb, hgt, Wb, hac, Wb, hw, Y4w (n := q.2 + ((accT h.rooms[k].events (okB h.rooms[k])).length : Int)) (by unfold Yny at hle; omega) (by unfold Yny at hle; omega)]
    rfl
   ·
    rw [Wf hc, Wf (by omega)]; rfl)
  (fun q _ => by simp only [Zgl]; rw [dnlt, Wv]) (s := ([], 0)) ⟨rfl, by omega, by omega⟩
 rcases this with ⟨a1, a2, _⟩ | ⟨⟨i, hi, a1⟩, a2⟩
 rotate_left
 ·
  refine ⟨false, ⟨fun x => (by cases x), fun x => ?_⟩, ?_⟩
  ·
   have := (Ynt hf).2 x.2.2.1 i hi
   rw [a1] at this; cases this
  ·
   have a2' : iter (fun z : List Ya9 × Int × Int => Zgl h z.1 z.2.1 z.2.2) big ([], 0, 0) = some (Sum.inl (zS, false)) := a2
   rw [a2']; rfl
 have hro := (Ynt hf).1 a1
 rw [Yo0] at a2
 have a2' : iter (fun z : List Ya9 × Int × Int => Zgl h z.1 z.2.1 z.2.2) big ([], 0, 0) = some (Sum.inr (h.rooms.map hiG, 0 + (Ynz h.rooms : Int))) := a2
 rw [a2', Wb]
 simp only [Zgj]
 rcases Yo5 hro h3' hl' with ⟨s1, s2⟩ | ⟨⟨i, hi, s1⟩, s2⟩
 ·
  rw [s2, Wb]
  simp only [Zge]
  rw [beqd]
  refine ⟨decide (0 + (Ynz h.rooms : Int) = (h.stream.length : Int)), ?_, ?_⟩
  ·
   rw [decide_eq_true_eq]
   exact ⟨fun k => ⟨h3', hl', hro, s1, by omega⟩, fun k => by have := k.2.2.2.2; omega⟩
  ·
   cases decide (0 + (Ynz h.rooms : Int) = (h.stream.length : Int)) <;> rfl
 ·
  rw [s2, Wb]
  exact ⟨false, ⟨fun x => (by cases x), fun x => by have := x.2.2.2.1 i hi; rw [s1] at this; cases this⟩, rfl⟩
end Go.Proofs.YtnoknphekhclcaaGreatDoor
namespace Go.Proofs.YtnoknphekhclcaaGreatDoor
open Go Go.Abs

def accG (g : Ya3) : List Pr := (accT g.events (okB g)).map fun id => (g.room, id)
def accA (l : List Ya3) : List Pr := l.flatMap accG
theorem Yo7 : ∀ l : List Ya3, (accA l).length = Ynz l
 | [] => rfl
 | g :: l => by
  unfold accA Ynz
  rw [List.flatMap_cons, List.length_append, List.map_cons, List.sum_cons]
  show (accG g).length + (accA l).length = _
  rw [Yo7 l]
  unfold accG Yny
  rw [List.length_map]; rfl
theorem Yo8 {g : Ya3} {y : Pr} : y ∈ accG g ↔ y.1 = g.room ∧ hasE g.events y.2 = true ∧ okB g y.2 = true := by
 unfold accG accT
 rw [List.mem_map]
 constructor
 ·
  rintro ⟨id, h, rfl⟩
  obtain ⟨h1, h2⟩ := List.mem_filter.1 h
  exact ⟨rfl, Ykw.2 h1, h2⟩
 ·
  rintro ⟨h1, h2, h3⟩
  exact ⟨y.2, List.mem_filter.2 ⟨Ykw.1 h2, h3⟩, Prod.ext h1.symm rfl⟩
theorem Yns.inj {h : Ya4} (k : Yns h) {g g' : Ya3} (hg : g ∈ h.rooms) (hg' : g' ∈ h.rooms) (e : g.room = g'.room) : g = g' := by
 obtain ⟨i, hi, rfl⟩ := List.mem_iff_getElem.1 hg
 obtain ⟨j, hj, rfl⟩ := List.mem_iff_getElem.1 hg'
 rw [(k i hi).2, (k j hj).2] at e
 obtain rfl : i = j := by omega
 rfl
theorem Yo9 {h : Ya4} (k : Yns h) : (accA h.rooms).Nodup := by
 unfold accA
 rw [List.nodup_iff_pairwise_ne, List.pairwise_flatMap]
 constructor
 ·
  intro g hg
  unfold accG
  rw [List.pairwise_map]
  exact (Ymj (k.right g hg).fits _).imp fun {a b} h e => by have := (Prod.mk.inj e).2; omega
 ·
  rw [List.pairwise_iff_getElem]
  intro i j hi hj hij x hx y hy e
  have h1 := (Yo8.1 hx).1
  have h2 := (Yo8.1 hy).1
  rw [(k i hi).2] at h1
  rw [(k j hj).2] at h2
  rw [e] at h1
  omega
theorem Yoa {h : Ya4} (k : Yns h) {g : Ya3} (hg : g ∈ h.rooms) {id : Int} : (g.room, id) ∈ accA h.rooms ↔ hasE g.events id = true ∧ okB g id = true := by
 unfold accA
 rw [List.mem_flatMap]
 constructor
 ·
  rintro ⟨g', h1, h2⟩
  obtain ⟨h3, h4⟩ := Yo8.1 h2
  obtain rfl := k.inj hg h1 h3
  exact h4
 ·
  exact fun h' => ⟨g, hg, Yo8.2 ⟨rfl, h'⟩⟩

theorem Yob {s : List Pr} {g : Ya3} (h : ∀ e ∈ g.events, okB g e.id = inS s g e) : Ynd s g = Yny g := by
 unfold Ynd Yny accT
 rw [List.filter_map, List.length_map]
 exact congrArg List.length (List.filter_congr fun e he => (h e he).symm)
theorem Yoc {s : List Pr} : ∀ {l : List Ya3}, (∀ g ∈ l, ∀ e ∈ g.events, okB g e.id = inS s g e) → Yne s l = Ynz l
 | [], _ => rfl
 | g :: l, h => by
  unfold Yne Ynz
  rw [List.map_cons, List.map_cons, List.sum_cons, List.sum_cons, Yob (h g (by simp))]
  have := Yoc (s := s) (l := l) fun g' hg' => h g' (by simp [hg'])
  unfold Yne Ynz at this
  rw [this]

structure Yod (h : Ya4) : Prop where
 three : h.rooms.length = 3
 slen : h.stream.length ≤ 120
 rooms : Yns h
 nodup : (prs h.stream).Nodup
 all : ∀ y, y ∈ prs h.stream ↔ y ∈ accA h.rooms

theorem OkI.hub {h : Ya4} (k : OkI h) : Yod h := by
 obtain ⟨h3, hl, hro, hst, hle⟩ := k
 have hX : ∀ (i : Nat) (hi : i < h.stream.length), stX h i h.stream[i] = true := fun i hi => by
  have := hst i hi
  unfold stB at this
  rwa [dif_pos hi] at this
 have hnd : (prs h.stream).Nodup := Yn5.2 fun i hi => by
  have hi' : i < h.stream.length := by rw [Ynv] at hi; exact hi
  have := hX i hi'
  unfold stX at this
  simp only [Bool.and_eq_true] at this
  rw [Ynu hi']
  simpa using this.1.1.1.2
 have hsub : ∀ y ∈ prs h.stream, y ∈ accA h.rooms := fun y hy => by
  obtain ⟨i, hi, rfl⟩ := List.mem_iff_getElem.1 hy
  have hi' : i < h.stream.length := by rw [Ynv] at hi; exact hi
  have := hX i hi'
  unfold stX at this
  simp only [Bool.and_eq_true, decide_eq_true_eq] at this
  obtain ⟨k, hk, k1, _, k3⟩ := Yo2 h3 this.1.1.1.1
  rw [Ynu hi']
  rw [k3] at this
  have hr : h.stream[i].room = h.rooms[k].room := by rw [(hro k hk).2]; exact k1
  rw [hr]
  exact (Yoa hro (Wm hk)).2 ⟨this.1.1.2, this.1.2⟩
 refine ⟨h3, hl, hro, hnd, fun y => ⟨hsub y, Yn7 hnd hsub (by rw [Yo7, Ynv]; omega) y⟩⟩

theorem Yod.inS {h : Ya4} (k : Yod h) {g : Ya3} (hg : g ∈ h.rooms) {e : Y9z} (he : e ∈ g.events) : okB g e.id = inS (prs h.stream) g e := by
 unfold Go.Proofs.YtnoknphekhclcaaGreatDoor.inS
 rw [Bool.eq_iff_iff, decide_eq_true_eq, Yn0, k.all, Yoa k.rooms hg]
 exact ⟨fun h' => ⟨Ygj.2 ⟨e, he, rfl⟩, h'⟩, fun h' => h'.2⟩

theorem Yoe {h : Ya4} : OkI h ↔ OkS h := by
 constructor
 ·
  intro k
  have hu := k.hub
  obtain ⟨h3, hl, hro, hst, hle⟩ := k
  refine ⟨h3, hl, hro, hu.nodup, fun g hg e he => ?_, by rw [Yoc fun g hg e he => hu.inS hg he]; exact hle⟩
  unfold strE
  rw [hu.inS hg he]
  cases hin : inS (prs h.stream) g e with
  | false => rfl
  | true =>
   simp only [beq_self_eq_true, Bool.not_true, Bool.false_or, Bool.true_and, List.all_eq_true, decide_eq_true_eq]
   intro p hp
   have hin' : 0 < posP (prs h.stream) (g.room, e.id) := by simpa [inS] using hin
   have hy := Yn0.1 hin'
   obtain ⟨i, hi, hiy⟩ := List.mem_iff_getElem.1 hy
   have hi' : i < h.stream.length := by rw [Ynv] at hi; exact hi
   have hpi : posP (prs h.stream) (g.room, e.id) = (i : Int) + 1 := by
    unfold posP; rw [if_pos hy, ← hiy, Yn4 hu.nodup hi]
   have hx := hst i hi'
   unfold stB at hx
   rw [dif_pos hi'] at hx
   unfold stX at hx
   simp only [Bool.and_eq_true, decide_eq_true_eq] at hx
   rw [Ynu hi'] at hiy
   obtain ⟨e1, e2⟩ := Prod.mk.inj hiy
   obtain ⟨k, hk, k1, _, k3⟩ := Yo2 h3 hx.1.1.1.1
   have hgk : h.rooms[k] = g := hro.inj (Wm hk) hg (by rw [(hro k hk).2, ← k1, e1])
   rw [k3, hgk, e1, e2] at hx
   have hev : evD g.events e.id = e := by unfold evD; rw [(hro.right g hg).fits.up.evAt_mem he]; rfl
   rw [hev] at hx
   have hpp := List.all_eq_true.1 hx.2 p hp
   simp only [Bool.or_eq_true, Bool.not_eq_true', decide_eq_true_eq] at hpp
   rcases hpp with hpp | hpp
   ·
    have : (g.room, p) ∉ prs h.stream := fun hm => by
     have := ((Yoa hro hg).1 ((hu.all _).1 hm)).2
     rw [hpp] at this; cases this
    have h0 : posP (prs h.stream) (g.room, p) = 0 := by unfold posP; rw [if_neg this]
    omega
   ·
    have := ((Yn2 (by omega)).1 hpp).2
    omega
 ·
  rintro ⟨h3, hl, hro, hnd, hst, hma⟩
  have hok : ∀ g ∈ h.rooms, ∀ e ∈ g.events, okB g e.id = inS (prs h.stream) g e := fun g hg e he => by
   have := hst g hg e he
   unfold strE at this
   rw [Bool.and_eq_true] at this
   simpa using this.1
  have hle : Ynz h.rooms = h.stream.length := by rw [← Yoc hok]; exact hma
  have hsub : ∀ y ∈ accA h.rooms, y ∈ prs h.stream := fun y hy => by
   unfold accA at hy
   obtain ⟨g, hg, hy⟩ := List.mem_flatMap.1 hy
   obtain ⟨h1, h2, h4⟩ := Yo8.1 hy
   obtain ⟨e, he, h5⟩ := Ygj.1 h2
   have := hok g hg e he
   rw [h5, h4] at this
   have h6 : 0 < posP (prs h.stream) (g.room, e.id) := by simpa [inS] using this.symm
   have := Yn0.1 h6
   rw [h5, ← h1] at this
   exact this
  have hall := Yn7 (Yo9 hro) hsub (by rw [Yo7, Ynv]; omega)
  refine ⟨h3, hl, hro, fun i hi => ?_, hle⟩
  have hil : i < (prs h.stream).length := by rw [Ynv]; exact hi
  have hmem : (h.stream[i].room, h.stream[i].id) ∈ prs h.stream := by rw [← Ynu hi hil]; exact Wm _
  have hacc := hall _ hmem
  unfold accA at hacc
  obtain ⟨g, hg, hy⟩ := List.mem_flatMap.1 hacc
  obtain ⟨h1, h2, h4⟩ := Yo8.1 hy
  simp only at h1 h2 h4
  obtain ⟨k, hk, hkg⟩ := List.mem_iff_getElem.1 hg
  have hroom : g.room = (k : Int) + 1 := by rw [← hkg]; exact (hro k hk).2
  have hx : 1 ≤ h.stream[i].room ∧ h.stream[i].room ≤ 3 := by omega
  obtain ⟨k', hk', k1, _, k3⟩ := Yo2 h3 hx
  obtain rfl : k' = k := by omega
  rw [hkg] at k3
  have hnt := Yn5.1 hnd i hil
  rw [Ynu hi] at hnt
  unfold stB
  rw [dif_pos hi]
  unfold stX
  rw [k3, h2, h4, Wt hx, Wf hnt]
  simp only [Bool.not_false, Bool.true_and, List.all_eq_true, Bool.or_eq_true, Bool.not_eq_true', decide_eq_true_eq]
  intro p hp
  cases hop : okB g p with
  | false => exact .inl rfl
  | true =>
   right
   have hr := hro.right g hg
   obtain ⟨_, e2, e3⟩ := Ykm (Ykw.1 h2) hr.fits.up
   have hse := hst g hg _ e2
   unfold strE at hse
   rw [Bool.and_eq_true] at hse
   have hine : inS (prs h.stream) g (evD g.events h.stream[i].id) = true := by rw [← hok g hg _ e2, e3]; exact h4
   rw [hine] at hse
   simp only [Bool.not_true, Bool.false_or, List.all_eq_true, decide_eq_true_eq] at hse
   have hlt := hse.2 p hp
   rw [e3, ← h1] at hlt
   have hpi : posP (prs h.stream) (h.stream[i].room, h.stream[i].id) = (i : Int) + 1 := by
    unfold posP; rw [if_pos hmem]
    have := Yn4 hnd hil
    rw [Ynu hi] at this
    rw [this]
   obtain ⟨ep, hep, hepi⟩ := Ygj.1 (hr.fits.whole _ e2 p hp)
   have hinp := hok g hg ep hep
   rw [hepi, hop] at hinp
   have h7 : 0 < posP (prs h.stream) (g.room, ep.id) := by simpa [inS] using hinp.symm
   rw [hepi, ← h1] at h7
   exact (Yn2 (by omega)).2 ⟨h7, by omega⟩

theorem Yof {h : Ya4} (hf : Ynp h) : ∃ b : Bool, (b = true → Yod h) ∧ Z75 h = some (cond b (wOf h, true) (zW, false)) ∧ Zgn h = some (cond b (sOf h, true) (zS, false)) := by
 obtain ⟨b, b1, b2⟩ := Ynx hf
 obtain ⟨c, c1, c2⟩ := Yo6 hf
 have : b = c := by rw [Bool.eq_iff_iff, b1, c1]; exact Yoe.symm
 subst this
 exact ⟨b, fun x => (c1.1 x).hub, b2, c2⟩
end Go.Proofs.YtnoknphekhclcaaGreatDoor
namespace Go.Proofs.YtnoknphekhclcaaGreatDoor
open Go Go.Abs


def wtG {α : Type} (n : α → Nat) (l : List α) : Nat := (l.map n).sum
theorem Yog {α : Type} (n : α → Nat) {l : List α} {i : Nat} (hi : i < l.length) : wtG n (l.take (i + 1)) = wtG n (l.take i) + n l[i] := by
 rw [List.take_add_one, We hi]
 show ((List.take i l ++ [l[i]]).map n).sum = ((List.take i l).map n).sum + n l[i]
 rw [List.map_append, List.sum_append]
 simp only [List.map_cons, List.map_nil, List.sum_cons, List.sum_nil, Nat.add_zero]
def nG (g : Ya0) : Nat := g.events.length + g.parked.length
def nG' (g : Ya3) : Nat := g.events.length + g.parked.length

structure HIn (h : THub) : Prop where
 rl : h.rooms.length ≤ maxLen
 rg : ∀ g ∈ h.rooms, GIn g
 sl : h.stream.length ≤ maxLen
structure Yoh (h : THub) : Prop where
 rl : h.rooms.length ≤ 1048576
 rg : ∀ g ∈ h.rooms, Yls g.events ∧ Yls g.parked
 wt : wtG nG h.rooms ≤ 1048576
 sl : h.stream.length ≤ 1048576

theorem Yoi (p : List Ya0) (n : Int) (hl : p.length ≤ maxLen) (hp : ∀ g ∈ p, GIn g) (h0 : 0 ≤ n) (hn : n ≤ 1048576) : ∃ r, Zd p n = some r ∧ ((0 ≤ r ∧ r + (p.length + wtG nG p : Nat) ≤ n ∧ ∀ g ∈ p, Yls g.events ∧ Yls g.parked) ∨ r = -1) := by
 simp only [maxLen] at hl
 unfold Zd
 rw [Y4w (by omega) (by omega)]
 by_cases h : n - (p.length : Int) < 0
 ·
  rw [Wt h]; exact ⟨_, rfl, .inr rfl⟩
 ·
  rw [Wf h, Wv]
  obtain ⟨o, h1, h2⟩ := Yff (τ := Int × Int) (ω := Int ⊕ Int) (σ := Int) (step := fun z : Int × Int => Zc p z.1 z.2) (n := p.length) (fun s j => (s, j))
   (fun i s => 0 ≤ s ∧ s + (p.length + wtG nG (p.take i) : Nat) ≤ n ∧ ∀ (j : Nat) (hj : j < p.length), j < i → Yls p[j].events ∧ Yls p[j].parked) (fun o => o = .inl (-1) ∨ ∃ r, o = .inr r ∧ 0 ≤ r ∧ r + (p.length + wtG nG p : Nat) ≤ n ∧ ∀ g ∈ p, Yls g.events ∧ Yls g.parked) (by omega) (by
   rintro i s hi ⟨hs0, hsn, hI⟩
   obtain ⟨r, e1, e2⟩ := Ylu p[i] s (hp _ (Wm hi)) hs0 (by omega)
   simp only [Zc]
   rw [dlt hi, Wu, Yfg hi, Wb, e1, Wb, Yfh hi (by omega)]
   rcases e2 with ⟨e2, e3, e4⟩ | rfl
   ·
    rw [Wf (by omega), Wv]
    refine .inl ⟨r, rfl, e2, by have hng : nG p[i] = p[i].events.length + p[i].parked.length := rfl; rw [Yog nG hi]; omega, fun j hj hji => ?_⟩
    rcases Nat.lt_or_ge j i with h | h
    ·
     exact hI j hj h
    ·
     obtain rfl : j = i := by omega
     exact e4
   ·
    exact .inr ⟨_, rfl, .inl rfl⟩) (by
   rintro s ⟨hs0, hsn, hI⟩
   simp only [Zc]
   rw [dnlt, Wv]
   rw [List.take_length] at hsn
   refine ⟨_, rfl, .inr ⟨s, rfl, hs0, hsn, fun e he => ?_⟩⟩
   obtain ⟨j, hj, rfl⟩ := List.mem_iff_getElem.1 he
   exact hI j hj hj) (s := n - (p.length : Int)) ⟨by omega, by simp [wtG], fun j hj h => by omega⟩
  rw [h1, Wb]
  rcases h2 with rfl | ⟨r, rfl, h3⟩
  ·
   exact ⟨_, rfl, .inr rfl⟩
  ·
   exact ⟨_, rfl, .inl h3⟩

theorem Yoj (h : THub) (n : Int) (hh : HIn h) (h0 : 0 ≤ n) (hn : n ≤ 1048576) : ∃ r, Zh h n = some r ∧ ((0 ≤ r ∧ r ≤ n ∧ Yoh h) ∨ r = -1) := by
 have hsl := hh.sl
 simp only [maxLen] at hsl
 unfold Zh
 obtain ⟨r, h1, h2⟩ := Yoi h.rooms n hh.rl hh.rg h0 hn
 rw [h1, Wb]
 rcases h2 with ⟨h2, h3, h4⟩ | rfl
 ·
  rw [Wf (by omega), Wv]
  unfold Zf
  rw [Y4w (by omega) (by omega)]
  by_cases h5 : r - (h.stream.length : Int) < 0
  ·
   rw [Wt h5]; exact ⟨_, rfl, .inr rfl⟩
  ·
   rw [Wf h5, Wv, Wb, Wf h5]
   exact ⟨_, rfl, .inl ⟨by omega, by omega, by omega, h4, by omega, by omega⟩⟩
 ·
  exact ⟨_, rfl, .inr rfl⟩


def toH (h : THub) : Ya4 := ⟨h.rooms.map toG, h.stream⟩
theorem Yok (p : List Ya0) (hl : p.length ≤ 1048576) (hp : ∀ g ∈ p, Yls g.events ∧ Yls g.parked) : Z10 p = some (p.map toG) := by
 unfold Z10
 rw [Y4x (Wt ⟨by omega, by omega⟩), Wb, Int.toNat_natCast]
 rw [Ylv (xs := p) toG (by omega) (fun i s hi hs => by
  have := hp _ (Wm hi)
  simp only [Zz]
  rw [dlt hi, Wu, Yfg hi, Wb, Ylz _ this.1 this.2, Wb, Yfg (by omega : i < s.length), Wb, Yfh hi (by omega), Int.toNat_natCast]) (fun s => by simp only [Zz]; rw [dnlt, Wv])]
 rfl
theorem Yol (p : List Ya1) (hl : p.length ≤ 1048576) : Z17 p = some p := by
 unfold Z17
 rw [Y4x (Wt ⟨by omega, by omega⟩), Wb, Int.toNat_natCast]
 rw [Ylv (xs := p) (fun x => x) (by omega) (fun i s hi hs => by
  simp only [Z16]
  rw [dlt hi, Wu, Yfg hi, Wb]
  unfold Z13
  rw [Wb, Yfg (by omega : i < s.length), Wb, Yfh hi (by omega), Int.toNat_natCast]) (fun s => by simp only [Z16]; rw [dnlt, Wv])]
 simp [Z15]
theorem Yom (h : THub) (hs : Yoh h) : Z19 h = some (toH h) := by
 unfold Z19
 rw [Yok _ hs.rl hs.rg, Wb, Yol _ hs.sl]; rfl


theorem Yon (p : List Ya3) (hl : p.length ≤ 1048576) (hp : ∀ g ∈ p, Yls g.events ∧ Yls g.parked) : Zkm p p = some true := by
 unfold Zkm
 rw [bned, Wt rfl]
 simp only [Bool.not_true, Wv]
 rw [Yfw (l := p) (fun _ => true) (.inl false) (.inr ()) (by omega) (fun i hi => by
  have := hp _ (Wm hi)
  simp only [Zkl]
  rw [dlt hi, Wu, Yfg hi, Wb, Wb, Ym4 _ this.1 this.2, Wb, Yfh hi (by omega)]; rfl) (by simp only [Zkl]; rw [dnlt, Wv])]
 rw [show (p.all fun _ => true) = true by simp]; rfl
theorem Yoo (p : List Ya1) (hl : p.length ≤ 1048576) : Zks p p = some true := by
 unfold Zks
 rw [bned, Wt rfl]
 simp only [Bool.not_true, Wv]
 rw [Yfw (l := p) (fun _ => true) (.inl false) (.inr ()) (by omega) (fun i hi => by
  simp only [Zkr]
  rw [dlt hi, Wu, Yfg hi, Wb, Wb, show Zko p[i] p[i] = some true by simp [Zko], Wb, Yfh hi (by omega)]; rfl) (by simp only [Zkr]; rw [dnlt, Wv])]
 rw [show (p.all fun _ => true) = true by simp]; rfl
theorem Yop {h : THub} (hs : Yoh h) : ∀ g ∈ (toH h).rooms, Yls g.events ∧ Yls g.parked := fun g hg => by
 obtain ⟨g0, h1, rfl⟩ := List.mem_map.1 hg
 exact hs.rg g0 h1
theorem Yoq {h : THub} (hs : Yoh h) : Zku (toH h) (toH h) = some true := by
 unfold Zku
 rw [Yon _ (by show (h.rooms.map toG).length ≤ _; rw [List.length_map]; exact hs.rl) (Yop hs), Wb, Wu]
 show (Zks h.stream h.stream).bind _ = _
 rw [Yoo _ hs.sl]; rfl
theorem w1 (x : Int) (h0 : 0 ≤ x) (h1 : x ≤ 1000000000000000) : IntKind.i64.wrap (x + 1) = x + 1 := Y4w (by omega) (by omega)

theorem Yor (p : List Ya3) (n : Int) (hl : p.length ≤ 1048576) (hp : ∀ g ∈ p, Yls g.events ∧ Yls g.parked) (hw : wtG nG' p ≤ 1048576) (h0 : 0 ≤ n) (hn : n ≤ 1000000) : ∃ r, Zld p n = some r ∧ 0 ≤ r.1 ∧ r.1 ≤ 10000000000000 := by
 unfold Zld
 obtain ⟨o, e1, e2⟩ := Yfe (τ := List Ya3 × Int × Int) (ω := Int × List Ya3) (σ := List Ya3 × Int) (step := fun z : List Ya3 × Int × Int => Zlc z.1 z.2.1 z.2.2) (n := p.length) (fun s j => (s.1, s.2, j)) (fun i s => s.1.length = p.length ∧ s.1.drop i = p.drop i ∧ 0 ≤ s.2 ∧ s.2 ≤ n + i + (wtG nG' (p.take i) : Int) * 2000000) (fun o => 0 ≤ o.1 ∧ o.1 ≤ 10000000000000) (by omega) (by
  rintro i ⟨l, k⟩ hi ⟨hll, hd, hk0, hk⟩
  simp only at hll hd hk0 hk
  have hil : i < l.length := by omega
  have hli : l[i] = p[i] := by
   have := congrArg (fun x : List Ya3 => x[0]?) hd
   simpa [List.getElem?_drop, hil, hi] using this
  have hwt := Yog nG' hi
  have hle : wtG nG' (p.take (i + 1)) ≤ wtG nG' p := by
   have e := List.take_append_drop (i + 1) p
   have : wtG nG' p = wtG nG' (p.take (i + 1)) + wtG nG' (p.drop (i + 1)) := by
    conv => lhs; rw [← e]
    unfold wtG; rw [List.map_append, List.sum_append]
   omega
  have hsm := hp _ (Wm hi)
  obtain ⟨r, a1, a2, a3⟩ := Ymd p[i].events (k + 1) hsm.1 (by omega) (by omega)
  have hng : nG' p[i] = p[i].events.length + p[i].parked.length := rfl
  obtain ⟨r', b1, b2, b3⟩ := Ymd p[i].parked r.1 hsm.2 a2 (by omega)
  simp only [Zlc]
  rw [Wt (by omega : (i : Int) < (l.length : Int)), Wu, Yfg hil, Wb, w1 k hk0 (by omega)]
  simp only [Int.toNat_natCast, Ymc, List.length_set, hil, Wb, hli, a1, b1, Yfh hi (by omega : p.length < 9223372036854775807)]
  refine ⟨(_, _), rfl, by simp [hll], ?_, b2, by show r'.1 ≤ n + ((i + 1 : Nat) : Int) + (wtG nG' (p.take (i + 1)) : Int) * 2000000; omega⟩
  simp only
  rw [List.drop_set_of_lt (by omega), List.drop_set_of_lt (by omega), List.drop_set_of_lt (by omega)]
  have := congrArg (List.drop 1) hd
  rwa [List.drop_drop, List.drop_drop] at this) (by
  rintro ⟨l, k⟩ ⟨hll, _, hk0, hk⟩
  simp only at hll hk0 hk
  simp only [Zlc]
  rw [hll, dnlt, Wv]
  rw [List.take_length] at hk
  exact ⟨_, rfl, hk0, by simp only; omega⟩) (s := (p, n)) ⟨rfl, rfl, h0, by simp [wtG]⟩
 rw [e1, Wb]
 exact ⟨_, rfl, e2⟩

theorem Yos (p : List Ya1) (n : Int) (hl : p.length ≤ 1048576) (h0 : 0 ≤ n) (hn : n ≤ 10000000000000) : ∃ r, Zli p n = some r ∧ 0 ≤ r.1 ∧ r.1 ≤ n + 2 * p.length := by
 unfold Zli
 obtain ⟨o, e1, e2⟩ := Yfe (τ := List Ya1 × Int × Int) (ω := Int × List Ya1) (σ := List Ya1 × Int) (step := fun z : List Ya1 × Int × Int => Zlh z.1 z.2.1 z.2.2) (n := p.length) (fun s j => (s.1, s.2, j)) (fun i s => s.1.length = p.length ∧ 0 ≤ s.2 ∧ s.2 ≤ n + 2 * i) (fun o => 0 ≤ o.1 ∧ o.1 ≤ n + 2 * p.length) (by omega) (by
  rintro i ⟨l, k⟩ hi ⟨hll, hk0, hk⟩
  simp only at hll hk0 hk
  have hil : i < l.length := by omega
  simp only [Zlh]
  rw [Wt (by omega : (i : Int) < (l.length : Int)), Wu, Yfg hil, Wb, w1 k hk0 (by omega), w1 (k + 1) (by omega) (by omega)]
  simp only [Int.toNat_natCast, Ymc, hil, Wb, Yfh hi (by omega : p.length < 9223372036854775807)]
  exact ⟨(_, _), rfl, by simp [hll], by simp only; omega, by simp only; omega⟩) (by
  rintro ⟨l, k⟩ ⟨hll, hk0, hk⟩
  simp only at hll hk0 hk
  simp only [Zlh]
  rw [hll, dnlt, Wv]
  exact ⟨_, rfl, hk0, hk⟩) (s := (p, n)) ⟨rfl, h0, by simp⟩
 rw [e1, Wb]
 exact ⟨_, rfl, e2⟩

theorem Yot {h : THub} (hs : Yoh h) (n : Int) (h0 : 0 ≤ n) (hn : n ≤ 1000000) : ∃ r, Zlk (toH h) n = some r ∧ 0 ≤ r.1 ∧ r.1 ≤ 10000002097152 := by
 have hwt : wtG nG' (toH h).rooms = wtG nG h.rooms := by
  show wtG nG' (h.rooms.map toG) = _
  unfold wtG
  rw [List.map_map]; rfl
 have hsl := hs.sl
 obtain ⟨r, a1, a2, a3⟩ := Yor (toH h).rooms n (by show (h.rooms.map toG).length ≤ _; rw [List.length_map]; exact hs.rl) (Yop hs) (by rw [hwt]; exact hs.wt) h0 hn
 obtain ⟨r', b1, b2, b3⟩ := Yos h.stream r.1 hs.sl a2 a3
 unfold Zlk
 rw [a1, Wb]
 show ∃ x, (Zli h.stream r.1).bind _ = some x ∧ _
 rw [b1]
 exact ⟨_, rfl, b2, by simp only; omega⟩

end Go.Proofs.YtnoknphekhclcaaGreatDoor
namespace Go.Proofs.YtnoknphekhclcaaGreatDoor
open Go Go.Abs

structure You (h : Ya4) (r : Int) (k : Nat) : Prop where
 lt : k < h.rooms.length
 wrap : IntKind.i64.wrap (r - 1) = (k : Int)
 rm : ∀ hk : k < h.rooms.length, rmG h r = h.rooms[k]
 mem : rmG h r ∈ h.rooms
 room : (rmG h r).room = r
 right : Ylk (rmG h r)
 hist : getI (sOf h).rooms (k : Int) = some (hiG (rmG h r))
 gr : getI (wOf h).h.rooms (k : Int) = some (rmG h r)
 kn : getI (wOf h).rooms (k : Int) = some (knG (rmG h r))
 pos : getI (wOf h).pos (k : Int) = some (posG (prs h.stream) (rmG h r))
 now : getI (wOf h).now (k : Int) = some (nowG (rmG h r))
 both : Both (rmG h r) (hiG (rmG h r)) (knG (rmG h r))
 graph : (hiG (rmG h r)).graph = rmG h r
theorem Yod.room {h : Ya4} (u : Yod h) {r : Int} (hr : 1 ≤ r ∧ r ≤ 3) : ∃ k, You h r k := by
 obtain ⟨k, hk, k1, k2, k3⟩ := Yo2 u.three hr
 have hg : Ylk (rmG h r) := by rw [k3]; exact u.rooms.right _ (Wm hk)
 have hb := (Yn9 hg).2.2
 refine ⟨k, hk, k2, fun _ => k3, by rw [k3]; exact Wm hk, by rw [k3, (u.rooms k hk).2]; exact k1.symm, hg, ?_, ?_, ?_, ?_, ?_, hb, hb.graph⟩
 ·
  rw [k3]; exact Ymr hiG hk
 ·
  rw [k3]; exact Yfg hk
 ·
  rw [k3]; exact Ymr knG hk
 ·
  rw [k3]; exact Ymr _ hk
 ·
  rw [k3]; exact Ymr nowG hk

end Go.Proofs.YtnoknphekhclcaaGreatDoor
namespace Go.Proofs.YtnoknphekhclcaaGreatDoor
open Go Go.Abs

theorem EvOk.sight {e : Y9z} (h : EvOk e) (hk : e.kind = 6) : 1 ≤ e.n ∧ e.n ≤ 3 := by
 have := h.body
 unfold Yg4 Z1z Z1r Z1s Z1t Z1u Z1v Z1w Z1x Z1y at this
 simp only [Yfm, Yfk, Yfl, Wb, hk] at this
 by_cases h1 : 1 ≤ e.n ∧ e.n ≤ 3
 ·
  exact h1
 ·
  simp [h1] at this

def sgt (l : List Y9z) (s : List Ya5) : Int := match cur l s 6 0 with
 | some e => e.n
 | none => 2

theorem Yov {g : Ya3} (hr : Ylk g) {s : List Ya5} (hs : StOk g.events s) : Z7e g s = some (sgt g.events s) ∧ Zh4 g s = some (sgt g.events s) := by
 have h := hr.sts hs
 unfold Z7e Zh4 sgt
 rw [Yjd h.ids h.len h.ok h.sl, Yjb h.up h.len h.ok.up h.sl, Wb, Wb]
 cases hc : cur g.events s 6 0 with
 | none => exact ⟨rfl, rfl⟩
 | some e =>
  have hk : e.kind = 6 ∧ e ∈ g.events := by
   unfold cur at hc
   rcases Yj8 s 6 0 with ⟨h0, _⟩ | ⟨x, hx, h1, _, h2⟩
   ·
    rw [h0, no0 h.ids (Int.le_refl 0)] at hc; cases hc
   ·
    obtain ⟨e', k1, k2, _⟩ := hs.ev x hx
    rw [h2, k1] at hc
    cases hc
    exact ⟨k2.trans h1, (Ygk k1).1⟩
  have := (hr.ev e hk.2).sight hk.1
  simp only [Option.getD_some, Option.isSome_some, Wu]
  rw [beqd, Wf (by omega)]
  exact ⟨rfl, trivial⟩


theorem Yow {h : Ya4} (u : Yod h) (r id : Int) : Zj5 (sOf h) r id = some (posP (prs h.stream) (r, id)) := by
 have hsl := u.slen
 unfold Zj5 Zh2
 show ((iter (Zh1 h.stream (Ya1.mk r id)) big 0).bind _).bind _ = _
 rw [Yfz (Yfu (l := h.stream) (step := Zh1 h.stream (Ya1.mk r id)) (fun x => decide ((x.room, x.id) = (r, id))) (by omega) (fun i hi => by
  simp only [Zh1]
  rw [dlt hi, Wu, Yfg hi, Wb, eqSp, Yfh hi (by omega)]
  cases decide ((h.stream[i].room, h.stream[i].id) = (r, id)) <;> rfl) (by simp only [Zh1]; rw [dnlt, Wv])) (fun _ => rfl) rfl, Wb]
 unfold idxP
 cases hf : h.stream.findIdx? (fun x => decide ((x.room, x.id) = (r, id))) with
 | none =>
  rw [List.findIdx?_eq_none_iff] at hf
  have : (r, id) ∉ prs h.stream := fun hm => by
   obtain ⟨x, hx, e⟩ := List.mem_map.1 hm
   have := hf x hx
   rw [decide_eq_false_iff_not] at this
   exact this e
  unfold posP
  rw [if_neg this]; rfl
 | some k =>
  obtain ⟨hk, hp, _⟩ := List.findIdx?_eq_some_iff_getElem.1 hf
  rw [decide_eq_true_eq] at hp
  have hkl : k < (prs h.stream).length := by rw [Ynv]; exact hk
  have e : (prs h.stream)[k] = (r, id) := by rw [Ynu hk]; exact hp
  have hm : (r, id) ∈ prs h.stream := by rw [← e]; exact Wm _
  have hi := Yn4 u.nodup hkl
  rw [e] at hi
  unfold posP
  rw [if_pos hm, hi]
  simp only
  rw [Y4w (by omega) (by omega)]


def seeE (g : Ya3) (user : Int) (e : Y9z) : Bool :=
 decide (mbr g.events (behI (hiG g).after e.id) user = 1) || decide (sgt g.events (behI (hiG g).after e.id) = 1) || (decide (e.kind = 2) && decide (e.key = user)) || (decide (sgt g.events (behI (hiG g).after e.id) = 2) && decide (mbr g.events (nowG g) user = 1))
def seeB (h : Ya4) (user r id : Int) : Bool := decide ((r, id) ∈ prs h.stream) && seeE (rmG h r) user (evD (rmG h r).events id)

theorem Yod.event {h : Ya4} (u : Yod h) {r : Int} {k : Nat} (q : You h r k) {id : Int} (hm : (r, id) ∈ prs h.stream) : evAt (rmG h r).events id = some (evD (rmG h r).events id) ∧ evD (rmG h r).events id ∈ (rmG h r).events ∧ (evD (rmG h r).events id).id = id := by
 have hm' := (u.all _).1 hm
 rw [← q.room] at hm'
 exact Ykm (Ykw.1 ((Yoa u.rooms q.mem).1 hm').1) q.right.fits.up

theorem Yox {g : Ya3} (hr : Ylk g) : StOk g.events (nowG g) := (Ymv (Yn9 hr).2.2 hr (okB g)).2

theorem Yoy {g : Ya3} (hr : Ylk g) : Zii (hiG g) = some (nowG g) := by
 have hb := (Yn9 hr).2.2
 have hr' : Ylk (hiG g).graph := by rw [hb.graph]; exact hr
 have hac : Zg1 (hiG g) = some (accT g.events (okB g)) := by
  have := Ymf (h := hiG g) hr'
  rw [hb.graph] at this; exact this
 have hen : Zhu (hiG g) (accT g.events (okB g)) = some (endsT g.events (okB g)) := by
  have := Ymn (h := hiG g) (ids := accT g.events (okB g)) (T := okB g) hr' ((Ymj hr.fits _).imp fun {a b} h => by omega) (fun x => by rw [hb.graph])
  rw [hb.graph] at this; exact this
 unfold Zii Zhw
 rw [hac, Wb, hen]
 exact (Ymv hb hr (okB g)).1

theorem Yoz {h : Ya4} (u : Yod h) (user : Int) {r : Int} (hr : 1 ≤ r ∧ r ≤ 3) : Zj9 (sOf h) user r = some (decide (mbr (rmG h r).events (nowG (rmG h r)) user = 1)) := by
 obtain ⟨k, q⟩ := u.room hr
 have e1 : Zj7 (sOf h) r = some (hiG (rmG h r)) := by unfold Zj7; rw [q.wrap, q.hist]; rfl
 unfold Zj9
 rw [e1, Wb, Yoy q.right, Wb, q.graph, Yje (q.right.sts (Yox q.right)), Wb, beqd]

theorem Yp0 {h : Ya4} (u : Yod h) (user : Int) {r : Int} (id : Int) (hr : 1 ≤ r ∧ r ≤ 3) : Zjd (sOf h) user r id = some (seeB h user r id) := by
 obtain ⟨k, q⟩ := u.room hr
 have hfl := q.right.fits.len
 have e1 : Zj7 (sOf h) r = some (hiG (rmG h r)) := by unfold Zj7; rw [q.wrap, q.hist]; rfl
 unfold Zjd seeB
 rw [Yow u, Wb, beqd]
 by_cases hm : (r, id) ∈ prs h.stream
 rotate_left
 ·
  have h0 : posP (prs h.stream) (r, id) = 0 := by unfold posP; rw [if_neg hm]
  rw [Wt h0, Wf hm]; rfl
 have h0 : ¬ posP (prs h.stream) (r, id) = 0 := fun e => by have := Yn0.2 hm; omega
 rw [Wf h0, Wt hm, Wv, e1, Wb, q.graph, c_at _ _ q.right.fits.up (by omega), Wb]
 obtain ⟨v1, v2, v3⟩ := u.event q hm
 have hst := (q.both.behind q.right v2).2
 rw [v3] at hst
 have hmb := Yje (q.right.sts hst) user
 have hsg := (Yov q.right hst).2
 have hgd : Option.getD (mget (hiG (rmG h r)).after id) ([] : List Ya5) = behI (hiG (rmG h r)).after id := rfl
 rw [hgd, hmb, Wb, hsg, Wb]
 simp only [Zjc, Zjb]
 rw [q.graph, hgd, hsg, Wb, Yoz u user hr, Wb]
 have hev : Option.getD (evAt (rmG h r).events id) zEv = evD (rmG h r).events id := rfl
 rw [hev]
 unfold seeE
 rw [v3]
 simp only [beqd, Bool.true_and]
 cases decide (mbr (rmG h r).events (behI (hiG (rmG h r)).after id) user = 1) <;> cases decide (sgt (rmG h r).events (behI (hiG (rmG h r)).after id) = 1) <;> cases decide ((evD (rmG h r).events id).kind = 2) <;> cases decide ((evD (rmG h r).events id).key = user) <;> cases decide (sgt (rmG h r).events (behI (hiG (rmG h r)).after id) = 2) <;> rfl

theorem Yp1 {h : Ya4} (u : Yod h) (user : Int) {r : Int} (hr : 1 ≤ r ∧ r ≤ 3) {k : Nat} (hk : k < (rmG h r).events.length) : Z7s (wOf h) user r (k : Int) = some (seeB h user r (rmG h r).events[k].id) := by
 obtain ⟨j, q⟩ := u.room hr
 have hfl := q.right.fits.len
 have hkp : k < (posG (prs h.stream) (rmG h r)).length := by unfold posG; rw [List.length_map]; exact hk
 have hem := Wm hk
 unfold Z7s seeB
 rw [q.wrap, q.pos, Wb, Yfg hkp, Wb, Yna hk, q.room, beqd]
 by_cases hm : (r, (rmG h r).events[k].id) ∈ prs h.stream
 rotate_left
 ·
  have h0 : posP (prs h.stream) (r, (rmG h r).events[k].id) = 0 := by unfold posP; rw [if_neg hm]
  rw [Wt h0, Wf hm]; rfl
 have h0 : ¬ posP (prs h.stream) (r, (rmG h r).events[k].id) = 0 := fun e => by have := Yn0.2 hm; omega
 have hev : evD (rmG h r).events (rmG h r).events[k].id = (rmG h r).events[k] := by unfold evD; rw [(q.right.fits.up.plc hk).2]; rfl
 obtain ⟨b1, hst⟩ := q.both.behind q.right hem
 rw [(q.right.fits.up.plc hk).1] at b1
 have hmb := Yjf (q.right.sts hst) user
 have hsg := (Yov q.right hst).1
 have hnm := Yjf (q.right.sts (Yox q.right)) user
 rw [Wf h0, Wt hm, Wv, q.gr, Wb, q.kn, Wb, b1, Wb, Yfg hk, Wb, hsg, Wb, hmb, Wb]
 simp only [Z7r, Z7q]
 rw [q.wrap, q.now, Wb, hnm, Wb, hev]
 unfold seeE
 simp only [beqd, Bool.true_and]
 cases decide (mbr (rmG h r).events (behI (hiG (rmG h r)).after (rmG h r).events[k].id) user = 1) <;> cases decide (sgt (rmG h r).events (behI (hiG (rmG h r)).after (rmG h r).events[k].id) = 1) <;> cases decide ((rmG h r).events[k].kind = 2) <;> cases decide ((rmG h r).events[k].key = user) <;> cases decide (sgt (rmG h r).events (behI (hiG (rmG h r)).after (rmG h r).events[k].id) = 2) <;> rfl
end Go.Proofs.YtnoknphekhclcaaGreatDoor
namespace Go.Proofs.YtnoknphekhclcaaGreatDoor
open Go Go.Abs

def spA (h : Ya4) (i : Nat) : Ya1 := h.stream.getD i ⟨0, 0⟩
theorem Yp2 {h : Ya4} {i : Nat} (hi : i < h.stream.length) : spA h i = h.stream[i] := by
 unfold spA
 rw [List.getD_eq_getElem?_getD, We hi]; rfl
def visB (h : Ya4) (user r : Int) (i : Nat) : Bool := decide ((spA h i).room = r) && seeB h user r (spA h i).id
def visI (h : Ya4) (user r : Int) : List Nat := (List.range h.stream.length).filter (visB h user r)
theorem Yp3 {h : Ya4} {user r : Int} {i : Nat} (hi : i ∈ visI h user r) : i < h.stream.length ∧ (spA h i).room = r ∧ seeB h user r (spA h i).id = true := by
 obtain ⟨h1, h2⟩ := List.mem_filter.1 hi
 unfold visB at h2
 rw [Bool.and_eq_true, decide_eq_true_eq] at h2
 exact ⟨by simpa using h1, h2.1, h2.2⟩
theorem Yp4 {h : Ya4} (u : Yod h) (user r : Int) : (visI h user r).length ≤ 120 := by
 have := List.length_filter_le (visB h user r) (List.range h.stream.length)
 rw [List.length_range] at this
 have := u.slen
 unfold visI; omega

theorem Yp5 {α β : Type} (p : α → Bool) (f : α → β) : ∀ (l : List α) (q : List β), l.foldl (fun q x => if p x = true then q ++ [f x] else q) q = q ++ (l.filter p).map f
 | [], q => by simp
 | x :: l, q => by
  rw [List.foldl_cons, Yp5 p f l]
  cases h : p x with
  | true => rw [if_pos rfl, List.filter_cons_of_pos h]; simp
  | false => rw [if_neg (by simp), List.filter_cons_of_neg (by simp [h])]


theorem Yp6 {h : Ya4} (u : Yod h) (user : Int) {r : Int} (lo hi' : Int) (hr : 1 ≤ r ∧ r ≤ 3) :
  Zjj (sOf h) user r lo hi' = some (((visI h user r).filter fun i : Nat => decide (lo ≤ (i : Int) + 1 ∧ (i : Int) + 1 ≤ hi')).map fun i : Nat => (i : Int) + 1) := by
 have hsl := u.slen
 unfold Zjj
 have := Yfx (l := List.range h.stream.length) (step := fun z : List Int × Int => Zji (sOf h) user r lo hi' z.1 z.2) (fun q j => (q, j)) (fun q => q) (fun q i => if (decide (lo ≤ (i : Int) + 1 ∧ (i : Int) + 1 ≤ hi') && visB h user r i) = true then q ++ [(i : Int) + 1] else q) (fun i q => q.length ≤ i) (by rw [List.length_range]; omega) (fun i q hi hq => by
  rw [List.length_range] at hi
  rw [List.getElem_range]
  refine ⟨?_, by split <;> first | omega | (rw [List.length_append, List.length_singleton]; omega)⟩
  have hw := Yfh hi (by omega : h.stream.length < 9223372036854775807)
  have hw' : ((i + 1 : Nat) : Int) = (i : Int) + 1 := by omega
  have hd : decide ((i : Int) < ((sOf h).hub.stream.length : Int)) = true := dlt hi
  have hg : getI (sOf h).hub.stream (i : Int) = some (spA h i) := by rw [Yp2 hi]; exact Yfg hi
  simp only [Zji]
  rw [hd, Wu, hg, Wb, hw, c_in, Wb, beqd, Yp0 u user _ hr, Wb]
  unfold visB
  rw [hw']
  simp only [Zjh, Zjg]
  rw [hw, hw', chk8 (by simp; omega), Wb]
  cases decide (lo ≤ (i : Int) + 1 ∧ (i : Int) + 1 ≤ hi') <;> cases decide ((spA h i).room = r) <;> cases seeB h user r (spA h i).id <;> rfl)
  (fun q _ => by
   rw [List.length_range]
   have hd : decide ((h.stream.length : Int) < ((sOf h).hub.stream.length : Int)) = false := dnlt _
   simp only [Zji]; rw [hd, Wv]) (s := []) (by simp)
 rw [this.1, Wb, Yp5]
 simp only [Zjf, List.nil_append]
 unfold visI
 rw [List.filter_filter]


theorem Yp7 {x : Nat} : ∀ {l : List Nat}, l.Nodup → x ∈ l → l.filter (fun y => decide (y = x)) = [x]
 | [], _, h => by cases h
 | a :: l, hn, h => by
  simp only [List.nodup_cons] at hn
  by_cases ha : a = x
  ·
   subst ha
   rw [List.filter_cons_of_pos (by simp), List.filter_eq_nil_iff.2 fun y hy => by simp; intro e; exact hn.1 (e ▸ hy)]
  ·
   rw [List.filter_cons_of_neg (by simp [ha])]
   exact Yp7 hn.2 ((List.mem_cons.1 h).resolve_left fun e => ha e.symm)

theorem Yp8 {h : Ya4} (u : Yod h) {i : Nat} (hi : i < h.stream.length) (y : Pr) : posP (prs h.stream) y = (i : Int) + 1 ↔ y = ((spA h i).room, (spA h i).id) := by
 have hil : i < (prs h.stream).length := by rw [Ynv]; exact hi
 have e : (prs h.stream)[i] = ((spA h i).room, (spA h i).id) := by rw [Yp2 hi]; exact Ynu hi hil
 constructor
 ·
  intro hp
  have hm : y ∈ prs h.stream := Yn0.1 (by omega)
  have h1 := List.idxOf_lt_length_of_mem hm
  unfold posP at hp
  rw [if_pos hm] at hp
  have h2 : (prs h.stream)[(prs h.stream).idxOf y] = y := List.getElem_idxOf h1
  have h3 : (prs h.stream).idxOf y = i := by omega
  rw [← e, ← h2]
  congr 1
 ·
  rintro rfl
  rw [← e]
  unfold posP
  rw [if_pos (Wm hil), Yn4 u.nodup hil]

theorem Yp9 {h : Ya4} (u : Yod h) (user : Int) {r : Int} (hr : 1 ≤ r ∧ r ≤ 3) {i : Nat} (hi : i < h.stream.length) (l : List Int) (hl : l.length ≤ 10000) :
  iter (fun z : List Int × Int => Z7y (wOf h) user r ((i : Int) + 1) z.1 z.2) big (l, 0) = some (if visB h user r i = true then l ++ [plc (rmG h r).events (spA h i).id] else l) := by
 obtain ⟨k, q⟩ := u.room hr
 have hfl := q.right.fits.len
 have hpl : (posG (prs h.stream) (rmG h r)).length = (rmG h r).events.length := List.length_map _
 have := Yfx (l := List.range (rmG h r).events.length) (step := fun z : List Int × Int => Z7y (wOf h) user r ((i : Int) + 1) z.1 z.2) (fun q j => (q, j)) (fun q => q) (fun q j => if (decide ((posG (prs h.stream) (rmG h r)).getD j 0 = (i : Int) + 1) && seeB h user r ((rmG h r).events.getD j zEv).id) = true then q ++ [(j : Int)] else q) (fun j q => q.length ≤ 10000 + j) (by rw [List.length_range]; omega) (fun j q' hj hq => by
  rw [List.length_range] at hj
  rw [List.getElem_range]
  refine ⟨?_, by split <;> first | omega | (rw [List.length_append, List.length_singleton]; omega)⟩
  have hjp : j < (posG (prs h.stream) (rmG h r)).length := by omega
  have hw := Yfh hj (by omega : (rmG h r).events.length < 9223372036854775807)
  simp only [Z7y]
  rw [q.wrap, q.pos, Wb, dlt hjp, Wu, Yfg hjp, Wb, beqd, Yp1 u user hr hj, Wb, List.getD_eq_getElem?_getD, We hjp, List.getD_eq_getElem?_getD, We hj]
  simp only [Z7x, Z7w, Option.getD_some]
  rw [hw, chk8 (by simp; omega), Wb]
  by_cases hc : (posG (prs h.stream) (rmG h r))[j] = (i : Int) + 1
  ·
   simp only [hc, decide_true]; cases seeB h user r (rmG h r).events[j].id <;> rfl
  ·
   simp only [hc, decide_false]; cases seeB h user r (rmG h r).events[j].id <;> rfl)
  (fun q' _ => by
   rw [List.length_range]
   simp only [Z7y]
   rw [q.wrap, q.pos, Wb, hpl, dnlt, Wv]) (s := l) (by omega)
 rw [this.1, Yp5]
 congr 1
 by_cases hroom : (spA h i).room = r
 rotate_left
 ·
  have hv : visB h user r i = false := by unfold visB; rw [Wf hroom]; rfl
  rw [hv, List.filter_eq_nil_iff.2 fun j hj => ?_]
  ·
   simp
  ·
   have hj' : j < (rmG h r).events.length := by simpa using hj
   have hjp : j < (posG (prs h.stream) (rmG h r)).length := by omega
   rw [List.getD_eq_getElem?_getD, We hjp, Option.getD_some, Yna hj', q.room]
   have : ¬ posP (prs h.stream) (r, (rmG h r).events[j].id) = (i : Int) + 1 := fun e => hroom (Prod.mk.inj ((Yp8 u hi _).1 e)).1.symm
   rw [Wf this]; simp
 ·
  have hm : (r, (spA h i).id) ∈ prs h.stream := by
   have hil : i < (prs h.stream).length := by rw [Ynv]; exact hi
   have e : (prs h.stream)[i] = ((spA h i).room, (spA h i).id) := by rw [Yp2 hi]; exact Ynu hi hil
   rw [hroom] at e
   rw [← e]; exact Wm _
  obtain ⟨v1, v2, v3⟩ := u.event q hm
  obtain ⟨k0, hk0, p1, p2, _⟩ := Ygg (l := (rmG h r).events) (id := (spA h i).id) (Ygj.2 ⟨_, v2, v3⟩)
  have hcong : ∀ j ∈ List.range (rmG h r).events.length, (decide ((posG (prs h.stream) (rmG h r)).getD j 0 = (i : Int) + 1) && seeB h user r ((rmG h r).events.getD j zEv).id) = (decide (j = k0) && visB h user r i) := fun j hj => by
   have hj' : j < (rmG h r).events.length := by simpa using hj
   have hjp : j < (posG (prs h.stream) (rmG h r)).length := by omega
   rw [List.getD_eq_getElem?_getD, We hjp, Option.getD_some, Yna hj', q.room, List.getD_eq_getElem?_getD, We hj', Option.getD_some]
   have hiff : posP (prs h.stream) (r, (rmG h r).events[j].id) = (i : Int) + 1 ↔ j = k0 := by
    rw [Yp8 u hi, hroom]
    constructor
    ·
     intro e
     exact q.right.fits.up.inj hj' hk0 (by rw [p2]; exact (Prod.mk.inj e).2)
    ·
     rintro rfl
     rw [p2]
   by_cases hjk : j = k0
   ·
    subst hjk
    rw [Wt (hiff.2 rfl), Wt rfl, p2]
    unfold visB
    rw [Wt hroom]; rfl
   ·
    rw [Wf (fun e => hjk (hiff.1 e)), Wf hjk]; rfl
  rw [List.filter_congr hcong, p1]
  cases hv : visB h user r i with
  | false =>
   rw [List.filter_eq_nil_iff.2 fun j _ => by simp]
   simp
  | true =>
   rw [show (fun j => decide (j = k0) && true) = fun j => decide (j = k0) from funext fun j => Bool.and_true _, Yp7 List.nodup_range (by simpa using hk0)]
   rfl

def visP (h : Ya4) (user r : Int) : List Int := (visI h user r).map fun i => plc (rmG h r).events (spA h i).id

theorem Ypa {h : Ya4} (u : Yod h) (user : Int) {r : Int} (hr : 1 ≤ r ∧ r ≤ 3) : Z80 (wOf h) user r = some (visP h user r) := by
 have hsl := u.slen
 unfold Z80
 obtain ⟨o, e1, rfl⟩ := Yfe (τ := List Int × Int) (ω := List Int) (σ := List Int) (step := fun z : List Int × Int => Z7z (wOf h) user r z.1 z.2) (n := h.stream.length) (fun s j => (s, j + 1)) (fun i s => s = ((List.range i).filter (visB h user r)).map fun i => plc (rmG h r).events (spA h i).id) (fun o => o = visP h user r) (by omega) (by
  rintro i s hi rfl
  have hle := List.length_filter_le (visB h user r) (List.range i)
  rw [List.length_range] at hle
  have hd : decide ((i : Int) + 1 ≤ ((wOf h).h.stream.length : Int)) = true := Wt (by show (i : Int) + 1 ≤ (h.stream.length : Int); omega)
  have hrow := Yp9 u user hr hi (((List.range i).filter (visB h user r)).map fun i => plc (rmG h r).events (spA h i).id) (by rw [List.length_map]; omega)
  simp only [Z7z]
  rw [hd, Wu, hrow, Wb]
  simp only [Z7v]
  rw [Y4w (n := (i : Int) + 1 + 1) (by omega) (by omega)]
  refine ⟨_, rfl, ?_⟩
  rw [List.range_succ, List.filter_append]
  cases hv : visB h user r i with
  | true => rw [if_pos rfl, List.filter_cons_of_pos hv]; simp
  | false => rw [if_neg (by simp), List.filter_cons_of_neg (by simp [hv])]; simp) (by
  rintro s rfl
  have hd : decide ((h.stream.length : Int) + 1 ≤ ((wOf h).h.stream.length : Int)) = false := Wf (by show ¬ (h.stream.length : Int) + 1 ≤ (h.stream.length : Int); omega)
  simp only [Z7z]
  rw [hd, Wv]
  exact ⟨_, rfl, rfl⟩) (s := []) (by simp)
 have e1' : iter (fun z : List Int × Int => Z7z (wOf h) user r z.1 z.2) big ([], 1) = some (visP h user r) := e1
 rw [e1']; rfl


end Go.Proofs.YtnoknphekhclcaaGreatDoor
namespace Go.Proofs.YtnoknphekhclcaaGreatDoor
open Go Go.Abs

def marB (m : Ya2) : Bool := decide (1 ≤ m.user ∧ m.user ≤ 6) && decide (m.at_.length = 3) && m.at_.all fun x => decide (0 ≤ x ∧ x ≤ 120)
theorem Ypb {m : Ya2} (h : marB m = true) : (1 ≤ m.user ∧ m.user ≤ 6) ∧ m.at_.length = 3 ∧ ∀ x ∈ m.at_, 0 ≤ x ∧ x ≤ 120 := by
 unfold marB at h
 simp only [Bool.and_eq_true, decide_eq_true_eq, List.all_eq_true] at h
 exact ⟨h.1.1, h.1.2, h.2⟩

theorem Ypc (m : Ya2) (hl : m.at_.length ≤ 1048576) : Z7a m = some (marB m) ∧ Zgy m = some (marB m) := by
 have h3 : ((m.at_.length : Int) == 3) = decide (m.at_.length = 3) := by rw [beqd, Bool.eq_iff_iff]; simp; omega
 have h3' : ((m.at_.length : Int) != 3) = !decide (m.at_.length = 3) := by rw [bne, h3]
 unfold Z7a Zgy marB
 rw [Yfm, Yfq, Wb, Wb, h3, h3']
 cases decide (1 ≤ m.user ∧ m.user ≤ 6) with
 | false => exact ⟨rfl, rfl⟩
 | true =>
  simp only [Wu, Bool.true_and]
  cases decide (m.at_.length = 3) with
  | false => exact ⟨rfl, rfl⟩
  | true =>
   simp only [Bool.not_true, Wu, Bool.true_and]
   unfold Z79 Zgv Zgt
   rw [Yfw (l := m.at_) (step := Z78 m) (fun x => decide (0 ≤ x ∧ x ≤ 120)) (.inl false) (.inr ()) (by omega) (fun i hi => by
    simp only [Z78]
    rw [dlt hi, Wu, Yfg hi, Wb, Yfk, Wb, Yfh hi (by omega)]
    cases decide (0 ≤ m.at_[i] ∧ m.at_[i] ≤ 120) <;> rfl) (by simp only [Z78]; rw [dnlt, Wv])]
   rw [Yfz (Yfu (l := m.at_) (step := Zgs m.at_) (fun x => !decide (0 ≤ x ∧ x ≤ 120)) (by omega) (fun i hi => by
    simp only [Zgs]
    unfold Zgp
    rw [dlt hi, Wu, Yfg hi, Wb, c_in, Wb, Wb, Yfh hi (by omega)]
    cases decide (0 ≤ m.at_[i] ∧ m.at_[i] ≤ 120) <;> rfl) (by simp only [Zgs]; rw [dnlt, Wv])) (fun _ => rfl) rfl, Wb, Wb, Yfy, Ykj]
   simp only [Wv, Zgx, Bool.not_not]
   cases m.at_.all fun x => decide (0 ≤ x ∧ x ≤ 120) <;> exact ⟨rfl, rfl⟩


theorem Ypd (m : Ya2) (n : Int) (hm : m.at_.length ≤ maxLen) (h0 : 0 ≤ n) (hn : n ≤ 1048576) : ∃ r, Zj m n = some r ∧ ((0 ≤ r ∧ r ≤ n ∧ m.at_.length ≤ 1048576) ∨ r = -1) := by
 unfold Zj
 obtain ⟨r, h1, h2⟩ := Ylq m.at_ n hm h0 hn
 rw [h1, Wb]
 rcases h2 with ⟨h2, h3, h4⟩ | rfl
 ·
  rw [Wf (by omega)]; exact ⟨_, rfl, .inl ⟨h2, h3, h4⟩⟩
 ·
  exact ⟨_, rfl, .inr rfl⟩
theorem Ype (m : Ya2) (hm : m.at_.length ≤ 1048576) : Z1b m = some m := by unfold Z1b; rw [Ylw _ hm]; rfl
theorem Ypf (m : Ya2) (hm : m.at_.length ≤ 1048576) : Zkw m m = some true := by
 unfold Zkw
 rw [Ym1 _ hm]
 simp


end Go.Proofs.YtnoknphekhclcaaGreatDoor
namespace Go.Proofs.YtnoknphekhclcaaGreatDoor
open Go Go.Abs


def evA (h : Ya4) (r : Int) (i : Nat) : Y9z := evD (rmG h r).events (spA h i).id
def hidP (h : Ya4) (r id : Int) (i : Nat) : Bool := decide ((spA h i).room = r) && (decide ((evA h r i).kind = 8) && decide ((evA h r i).key = id))
def hidB (h : Ya4) (r id : Int) : Int := match (List.range h.stream.length).find? (hidP h r id) with
 | some i => (spA h i).id
 | none => 0

theorem Ypg {h : Ya4} (u : Yod h) {r : Int} (id : Int) (hr : 1 ≤ r ∧ r ≤ 3) : Zjq (sOf h) r id = some (hidB h r id) := by
 obtain ⟨k, q⟩ := u.room hr
 have hsl := u.slen
 have hfl := q.right.fits.len
 have e1 : Zj7 (sOf h) r = some (hiG (rmG h r)) := by unfold Zj7; rw [q.wrap, q.hist]; rfl
 unfold Zjq hidB
 rcases Yfc (step := Zjp (sOf h) r id) (n := h.stream.length) (fun i => if hidP h r id i = true then some (Sum.inl (spA h i).id) else none) (Sum.inr ()) (by omega) (fun i hi => by
  have hd : decide ((i : Int) < ((sOf h).hub.stream.length : Int)) = true := dlt hi
  have hg : getI (sOf h).hub.stream (i : Int) = some (spA h i) := by rw [Yp2 hi]; exact Yfg hi
  have hw := Yfh hi (by omega : h.stream.length < 9223372036854775807)
  simp only [Zjp]
  rw [hd, Wu, hg, Wb, bned]
  unfold hidP
  by_cases hroom : (spA h i).room = r
  rotate_left
  ·
   rw [Wf hroom]; simp only [Bool.not_false, Wu, Zjm, hw]; rfl
  rw [Wt hroom, Bool.not_true, Wv, e1, Wb, q.graph, c_at _ _ q.right.fits.up (by omega), Wb]
  have hev : Option.getD (evAt (rmG h r).events (spA h i).id) zEv = evA h r i := rfl
  rw [hev]
  simp only [Zjo, Zjn, Zjm, hw, beqd, Bool.true_and]
  cases decide ((evA h r i).kind = 8) <;> cases decide ((evA h r i).key = id) <;> rfl) (by
  have hd : decide ((h.stream.length : Int) < ((sOf h).hub.stream.length : Int)) = false := dnlt _
  simp only [Zjp]; rw [hd, Wv]) with ⟨i, o, hi, ho, hb, hx⟩ | ⟨hb, hx⟩
 ·
  rw [hx]
  have hp : hidP h r id i = true := by
   by_cases hp : hidP h r id i = true
   ·
    exact hp
   ·
    rw [if_neg hp] at ho; cases ho
  rw [if_pos hp] at ho
  cases ho
  have hf : (List.range h.stream.length).find? (hidP h r id) = some i := List.find?_range_eq_some.2 ⟨hp, by simpa using hi, fun j hj => by
   have := hb j hj
   by_cases hq : hidP h r id j = true
   ·
    rw [if_pos hq] at this; cases this
   ·
    simpa using hq⟩
  rw [hf]; rfl
 ·
  rw [hx]
  have hf : (List.range h.stream.length).find? (hidP h r id) = none := List.find?_eq_none.2 fun j hj => by
   have := hb j (by simpa using hj)
   intro hq
   rw [if_pos hq] at this; cases this
  rw [hf]; rfl

def shE (h : Ya4) (r : Int) (e : Y9z) : Ya8 := if (e.kind = 7 ∨ e.kind = 4) ∧ hidB h r e.id ≠ 0 then ⟨⟨e.id, e.room, e.author, e.kind, e.key, e.n, ByteArray.empty, e.prev, e.time⟩, true⟩ else ⟨e, false⟩

theorem Yph {h : Ya4} (u : Yod h) {r : Int} {id : Int} (hr : 1 ≤ r ∧ r ≤ 3) (hm : (r, id) ∈ prs h.stream) : Zju (sOf h) r id = some (shE h r (evD (rmG h r).events id)) := by
 obtain ⟨k, q⟩ := u.room hr
 have hfl := q.right.fits.len
 have e1 : Zj7 (sOf h) r = some (hiG (rmG h r)) := by unfold Zj7; rw [q.wrap, q.hist]; rfl
 obtain ⟨v1, v2, v3⟩ := u.event q hm
 have h0 : ¬ posP (prs h.stream) (r, id) = 0 := fun e => by have := Yn0.2 hm; omega
 have hpl := (q.right.walk.prev (id := id) (by rw [← v3]; exact List.mem_map.2 ⟨_, v2, rfl⟩)).1
 have hcp : Zik (evD (rmG h r).events id) = some (evD (rmG h r).events id) := by
  unfold Zik Zff
  rw [chk8 (by omega)]; rfl
 unfold Zju
 rw [Yow u, Wb, beqd, Wf h0, Wv, e1, Wb, q.graph, c_at _ _ q.right.fits.up (by omega), Wb]
 have hev : Option.getD (evAt (rmG h r).events id) zEv = evD (rmG h r).events id := rfl
 rw [hev, hcp, Wb, Ypg u id hr, Wb]
 simp only [Zjt, Zjs, beqd, bned]
 have hh' : hidB h r (evD (rmG h r).events id).id = hidB h r id := by rw [v3]
 unfold shE
 rw [hh']
 by_cases k7 : (evD (rmG h r).events id).kind = 7
 ·
  rw [Wt k7]
  by_cases hh : hidB h r id = 0
  ·
   rw [Wt hh, if_neg fun x => x.2 hh]; rfl
  ·
   rw [Wf hh, if_pos ⟨.inl k7, hh⟩]; rfl
 ·
  rw [Wf k7]
  by_cases k4 : (evD (rmG h r).events id).kind = 4
  ·
   rw [Wt k4]
   by_cases hh : hidB h r id = 0
   ·
    rw [Wt hh, if_neg fun x => x.2 hh]; rfl
   ·
    rw [Wf hh, if_pos ⟨.inr k4, hh⟩]; rfl
  ·
   rw [Wf k4, if_neg fun x => x.1.elim k7 k4]; rfl

theorem Ypi (h : Ya4) (r : Int) (e : Y9z) : (shE h r e).event.kind = e.kind ∧ (shE h r e).event.author = e.author := by
 unfold shE
 split <;> exact ⟨rfl, rfl⟩

def Ypj (h : Ya4) (r : Int) (l : List Nat) : Prop := l.length ≤ 1000 ∧ ∀ i ∈ l, i < h.stream.length ∧ (spA h i).room = r
theorem Ypk {h : Ya4} {r : Int} {i : Nat} (hi : i < h.stream.length) (hr : (spA h i).room = r) : (r, (spA h i).id) ∈ prs h.stream := by
 have hil : i < (prs h.stream).length := by rw [Ynv]; exact hi
 have e : (prs h.stream)[i] = ((spA h i).room, (spA h i).id) := by rw [Yp2 hi]; exact Ynu hi hil
 rw [← hr, ← e]; exact Wm _

theorem Ypl {h : Ya4} (u : Yod h) {r : Int} (hr : 1 ≤ r ∧ r ≤ 3) {l : List Nat} (hl : Ypj h r l) : Zjy (sOf h) (l.map fun i : Nat => (i : Int) + 1) = some (l.map fun i => shE h r (evA h r i)) := by
 have hll := hl.1
 have hsl := u.slen
 unfold Zjy
 have := Yfx (l := l.map fun i : Nat => (i : Int) + 1) (step := fun z : List Ya8 × Int => Zjx (sOf h) (l.map fun i : Nat => (i : Int) + 1) z.1 z.2) (fun q j => (q, j)) (fun q => q) (fun q j => q ++ [shE h r (evA h r (j - 1).toNat)]) (fun i q => q.length = i) (by rw [List.length_map]; omega) (fun i q' hi hq => by
  have hi' : i < l.length := by rwa [List.length_map] at hi
  have ev : (l.map fun i : Nat => (i : Int) + 1)[i] = (l[i] : Int) + 1 := List.getElem_map _
  obtain ⟨m1, m2⟩ := hl.2 _ (Wm hi')
  refine ⟨?_, by simp [hq]⟩
  have hgs : getI (sOf h).hub.stream ((l[i] : Nat) : Int) = some (spA h l[i]) := by rw [Yp2 m1]; exact Yfg m1
  simp only [Zjx]
  rw [dlt hi, Wu, Yfg hi, Wb, ev, Y4w (n := (l[i] : Int) + 1 - 1) (by omega) (by omega), show (l[i] : Int) + 1 - 1 = (l[i] : Int) by omega, hgs, Wb, m2, Yph u hr (Ypk m1 m2), Wb, Y4x (Wt (by simp; omega)), Wb, Yfh hi (by rw [List.length_map]; omega), Int.toNat_natCast]
  rfl)
  (fun q' _ => by simp only [Zjx]; rw [dnlt, Wv]) (s := []) rfl
 rw [this.1, Wb, Yln (fun j : Int => shE h r (evA h r (j - 1).toNat))]
 simp only [Zjw, List.nil_append]
 congr 1
 rw [List.map_map]
 refine List.map_congr_left fun i _ => ?_
 simp only [Function.comp]
 rw [show (i : Int) + 1 - 1 = (i : Int) by omega, Int.toNat_natCast]

end Go.Proofs.YtnoknphekhclcaaGreatDoor
namespace Go.Proofs.YtnoknphekhclcaaGreatDoor
open Go Go.Abs


def Ypm (m : Ya2) (x : Ya8) : Bool := !decide (x.event.kind = 7) || decide (x.event.author = m.user)

theorem Ypn (mm : Ya2) (l : List Ya8) (hl : l.length < 1000000) : Ziw l mm = some (l.filter fun x => !Ypm mm x) := by
 have hc : ∀ x, Zin x mm = some (Ypm mm x) := fun x => by unfold Zin Ypm; rw [bned, beqd]; cases decide (x.event.kind = 7) <;> rfl
 unfold Ziw Zir
 rw [Yfz (Yfu (l := l) (step := Ziq l mm) (fun x => Ypm mm x) (by omega) (fun i hi => by
  simp only [Ziq]
  rw [dlt hi, Wu, Yfg hi, Wb, hc, Wb, Yfh hi (by omega)]
  cases Ypm mm l[i] <;> rfl) (by simp only [Ziq]; rw [dnlt, Wv])) (fun _ => rfl) rfl, Wb]
 unfold idxP
 cases hf : l.findIdx? (fun x => Ypm mm x) with
 | none =>
  rw [List.findIdx?_eq_none_iff] at hf
  rw [beqd, Wt rfl, Wu]
  exact congrArg some (List.filter_eq_self.2 fun x hx => by simp [hf x hx]).symm
 | some k =>
  obtain ⟨hk, hkp, hkn⟩ := List.findIdx?_eq_some_iff_getElem.1 hf
  simp only
  rw [beqd, Wf (by omega), Wv, Yfh hk (by omega)]
  -- the rest
  have hpre : (l.take k).filter (fun x => !Ypm mm x) = l.take k := List.filter_eq_self.2 fun x hx => by
   obtain ⟨j, hj, hjk, rfl⟩ := Yhl hx
   have := hkn j hjk
   simpa using this
  obtain ⟨⟨o1, o2⟩, e1, w, hw1, hw2, hw3, hw4⟩ := Y4z (step := fun z : List Ya8 × Int × Int => Ziv mm z.1 z.2.1 z.2.2) (p := fun o : List Ya8 × Int => ∃ w : Nat, o.2 = (w : Int) ∧ w ≤ l.length ∧ o.1.length = l.length ∧ o.1.take w = l.filter fun x => !Ypm mm x)
   (fun m (z : List Ya8 × Int × Int) => ∃ (w i : Nat), z.2.1 = (w : Int) ∧ z.2.2 = (i : Int) ∧ w < i ∧ i ≤ l.length ∧ z.1.length = l.length ∧ z.1.take w = (l.take i).filter (fun x => !Ypm mm x) ∧ z.1.drop i = l.drop i ∧ m = l.length - i) (by
   rintro m ⟨q, x, y⟩ ⟨w, i, hx, hy, hwi, hi, hq, ht, hd, rfl⟩
   simp only at hx hy hq ht hd
   subst hx hy
   simp only [Ziv, Ziu]
   by_cases hil : i < l.length
   ·
    right
    have hiq : i < q.length := by omega
    have hwq : w < q.length := by omega
    have hqi : q[i] = l[i] := by
     have h1 : (q.drop i)[0]? = (l.drop i)[0]? := by rw [hd]
     simpa [hiq, hil] using h1
    have etk : l.take (i + 1) = l.take i ++ [l[i]] := by rw [List.take_add_one, We hil]; rfl
    rw [dlt hiq, Wu, Yfg hiq, Wb, hc, Wb, hqi, Yfg hwq, Yfh hiq (by omega)]
    have hd' : ∀ v : Ya8, (q.set w v).drop (i + 1) = l.drop (i + 1) := fun v => by
     rw [List.drop_set_of_lt (by omega)]
     have := congrArg (List.drop 1) hd
     rwa [List.drop_drop, List.drop_drop] at this
    by_cases hp : Ypm mm l[i] = true
    ·
     rw [hp, Wu]
     refine ⟨_, l.length - (i + 1), rfl, by omega, w, i + 1, rfl, rfl, by omega, by omega, hq, ?_, ?_, rfl⟩
     ·
      rw [etk, List.filter_append, List.filter_cons_of_neg (by simp [hp]), List.filter_nil, List.append_nil]; exact ht
     ·
      have := congrArg (List.drop 1) hd
      rwa [List.drop_drop, List.drop_drop] at this
    ·
     rw [Bool.eq_false_iff.2 hp, Wv, Wb, Int.toNat_natCast, Yfh hwq (by omega)]
     refine ⟨_, l.length - (i + 1), rfl, by omega, w + 1, i + 1, rfl, rfl, by omega, by omega, by simp [hq], ?_, hd' _, rfl⟩
     simp only
     rw [etk, List.filter_append, List.filter_cons_of_pos (by simp [hp]), List.filter_nil, ← ht, List.take_add_one, List.getElem?_set_self hwq]
     rw [List.take_set_of_le (Nat.le_refl _)]; rfl
   ·
    left
    obtain rfl : i = l.length := by omega
    rw [Wf (by omega), Wv]
    refine ⟨_, rfl, w, rfl, by omega, hq, ?_⟩
    rw [List.take_length] at ht
    exact ht) big (l.length - (k + 1)) (l, (k : Int), ((k + 1 : Nat) : Int)) ⟨k, k + 1, rfl, rfl, by omega, by omega, rfl, by
    rw [List.take_add_one, We hk, List.filter_append, hpre]
    simp [hkp], rfl, rfl⟩ (Yfb (by omega))
  rw [e1, Wb]
  simp only at hw1 hw2 hw3 hw4
  subst hw1
  simp only [Zit, Int.toNat_natCast]
  rw [Y4x (Wt (by omega)), Wb, Y4x (Wt (by omega)), Wb, Y4x (Wt (by simp; omega)), Wb]
  congr 1
  rw [← hw4, List.take_append_of_le_length (by simp; omega), List.take_take, Nat.min_self]


def newB (h : Ya4) (m : Ya2) (r at_ : Int) (i : Nat) : Bool := decide ((evA h r i).kind = 7) && (!decide ((evA h r i).author = m.user) && decide ((i : Int) + 1 > at_))

def newI (h : Ya4) (m : Ya2) (r at_ : Int) : List Nat := (visI h m.user r).filter (newB h m r at_)

theorem Ypo {h : Ya4} (u : Yod h) (m : Ya2) {r : Int} (hr : 1 ≤ r ∧ r ≤ 3) {at_ : Int} (ha : getI m.at_ (IntKind.i64.wrap (r - 1)) = some at_) (hb : 0 ≤ at_ ∧ at_ ≤ 120) :
  Zk0 (sOf h) m r = some ((newI h m r at_).map fun i => shE h r (evA h r i)) := by
 have hsl := u.slen
 have hvl := Yp4 u m.user r
 have hfl := List.length_filter_le (fun i : Nat => decide (at_ + 1 ≤ (i : Int) + 1 ∧ (i : Int) + 1 ≤ 120)) (visI h m.user r)
 unfold Zk0
 rw [ha, Wb, Y4w (n := at_ + 1) (by omega) (by omega), Yp6 u m.user _ _ hr, Wb, Ypl u hr ⟨by omega, fun i hi => ⟨(Yp3 (List.mem_filter.1 hi).1).1, (Yp3 (List.mem_filter.1 hi).1).2.1⟩⟩, Wb, Ypn m _ (by rw [List.length_map]; omega), Wb]
 rw [List.filter_map, List.filter_filter]
 refine congrArg some (congrArg (List.map _) (List.filter_congr fun i hi => ?_))
 have hi' := (Yp3 hi).1
 obtain ⟨k1, k2⟩ := Ypi h r (evA h r i)
 unfold newB Ypm
 simp only [Function.comp]
 rw [k1, k2]
 have : decide (at_ + 1 ≤ (i : Int) + 1 ∧ (i : Int) + 1 ≤ 120) = decide ((i : Int) + 1 > at_) := by rw [Bool.eq_iff_iff]; simp; omega
 rw [this]
 cases decide ((evA h r i).kind = 7) <;> cases decide ((evA h r i).author = m.user) <;> cases decide ((i : Int) + 1 > at_) <;> rfl

theorem Ypp {h : Ya4} (u : Yod h) (m : Ya2) {r : Int} (hr : 1 ≤ r ∧ r ≤ 3) {at_ : Int} (ha : getI m.at_ (IntKind.i64.wrap (r - 1)) = some at_) :
  Z86 (wOf h) m r = some ((newI h m r at_).map fun i => plc (rmG h r).events (spA h i).id) := by
 obtain ⟨k, q⟩ := u.room hr
 have hsl := u.slen
 have hvl := Yp4 u m.user r
 have hfl := q.right.fits.len
 have hPl : (visP h m.user r).length = (visI h m.user r).length := List.length_map _
 have ha' : getI m.at_ (k : Int) = some at_ := by rw [← q.wrap]; exact ha
 unfold Z86
 rw [Ypa u m.user hr, Wb]
 have := Yfx (l := visI h m.user r) (step := fun z : List Int × Int => Z85 (wOf h) m r (visP h m.user r) z.1 z.2) (fun q j => (q, j)) (fun q => q) (fun q i => if newB h m r at_ i = true then q ++ [plc (rmG h r).events (spA h i).id] else q) (fun i q => q.length ≤ i) (by omega) (fun i q' hi hq => by
  have hiP : i < (visP h m.user r).length := by omega
  have ev : (visP h m.user r)[i] = plc (rmG h r).events (spA h (visI h m.user r)[i]).id := List.getElem_map _
  obtain ⟨m1, m2, m3⟩ := Yp3 (Wm hi)
  obtain ⟨v1, v2, v3⟩ := u.event q (Ypk m1 m2)
  obtain ⟨k0, hk0, p1, p2, p3⟩ := Ygg (l := (rmG h r).events) (Ygj.2 ⟨_, v2, v3⟩)
  have hkp : k0 < (posG (prs h.stream) (rmG h r)).length := by unfold posG; rw [List.length_map]; exact hk0
  have hpos : posP (prs h.stream) (r, (spA h (visI h m.user r)[i]).id) = ((visI h m.user r)[i] : Int) + 1 := (Yp8 u m1 _).2 (by rw [m2])
  have hee : (rmG h r).events[k0] = evA h r (visI h m.user r)[i] := by
   rw [v1] at p3; exact (Wj p3).symm
  refine ⟨?_, by split <;> first | omega | (rw [List.length_append, List.length_singleton]; omega)⟩
  simp only [Z85]
  rw [hPl, dlt hi, Wu, q.wrap, q.gr, Wb, Yfg hiP, Wb, ev, p1, Yfg hk0, Wb, q.pos, Wb, Yfg hkp, Wb, Yna hk0, p2, q.room, hpos, ha', Wb, hee, beqd, bned]
  unfold newB
  simp only [Z84, Z83]
  rw [chk8 (by simp; omega), Wb, Yfh hi (by omega)]
  cases decide ((evA h r (visI h m.user r)[i]).kind = 7) <;> cases decide ((evA h r (visI h m.user r)[i]).author = m.user) <;> cases decide (((visI h m.user r)[i] : Int) + 1 > at_) <;> rfl)
  (fun q' _ => by simp only [Z85]; rw [hPl, dnlt, Wv]) (s := []) (by simp)
 rw [this.1, Wb, Yp5, List.nil_append]; rfl

end Go.Proofs.YtnoknphekhclcaaGreatDoor
namespace Go.Proofs.YtnoknphekhclcaaGreatDoor
open Go Go.Abs

theorem Ypq {h : Ya4} (u : Yod h) {r : Int} {k : Nat} (q : You h r k) {i : Nat} (hi : i < h.stream.length) (hr : (spA h i).room = r) : ∃ (k0 : Nat) (hk0 : k0 < (rmG h r).events.length), plc (rmG h r).events (spA h i).id = k0 ∧ (rmG h r).events[k0] = evA h r i ∧ (evA h r i).id = (spA h i).id ∧ posP (prs h.stream) (r, (spA h i).id) = (i : Int) + 1 := by
 obtain ⟨v1, v2, v3⟩ := u.event q (Ypk hi hr)
 obtain ⟨k0, hk0, p1, p2, p3⟩ := Ygg (l := (rmG h r).events) (Ygj.2 ⟨_, v2, v3⟩)
 refine ⟨k0, hk0, p1, ?_, v3, (Yp8 u hi _).2 (by rw [hr])⟩
 rw [v1] at p3
 exact (Wj p3).symm

theorem Ypr {h : Ya4} (u : Yod h) {r : Int} {k : Nat} (q : You h r k) {j : Nat} (hj : j < (rmG h r).events.length) (hp : 0 < posP (prs h.stream) (r, (rmG h r).events[j].id)) : ∃ i, i < h.stream.length ∧ (spA h i).room = r ∧ (spA h i).id = (rmG h r).events[j].id ∧ evA h r i = (rmG h r).events[j] ∧ posP (prs h.stream) (r, (rmG h r).events[j].id) = (i : Int) + 1 := by
 have hm := Yn0.1 hp
 obtain ⟨i, hi, e⟩ := List.mem_iff_getElem.1 hm
 have hi' : i < h.stream.length := by rw [Ynv] at hi; exact hi
 rw [Ynu hi', ← Yp2 hi'] at e
 obtain ⟨e1, e2⟩ := Prod.mk.inj e
 refine ⟨i, hi', e1, e2, ?_, (Yp8 u hi' _).2 (by rw [e1, e2])⟩
 unfold evA
 rw [e2]
 unfold evD
 rw [(q.right.fits.up.plc hj).2]; rfl

theorem Yps {h : Ya4} (u : Yod h) {r : Int} (id : Int) (hr : 1 ≤ r ∧ r ≤ 3) : Z8c (wOf h) r id = some (hidB h r id) := by
 obtain ⟨k, q⟩ := u.room hr
 have hfl := q.right.fits.len
 have hpl : (posG (prs h.stream) (rmG h r)).length = (rmG h r).events.length := List.length_map _
 let cand : Nat → Prop := fun j => ∃ hj : j < (rmG h r).events.length, (rmG h r).events[j].kind = 8 ∧ (rmG h r).events[j].key = id ∧ 0 < posP (prs h.stream) (r, (rmG h r).events[j].id)
 let pj : Nat → Int := fun j => posP (prs h.stream) (r, ((rmG h r).events.getD j zEv).id)
 have hpj : ∀ j (hj : j < (rmG h r).events.length), pj j = posP (prs h.stream) (r, (rmG h r).events[j].id) := fun j hj => by
  show posP _ (r, ((rmG h r).events.getD j zEv).id) = _
  rw [List.getD_eq_getElem?_getD, We hj]; rfl
 unfold Z8c
 obtain ⟨o, e1, e2⟩ := Yfe (τ := Int × Int × Int) (ω := Int) (σ := Int × Int) (step := fun z : Int × Int × Int => Z8b (wOf h) r id z.1 z.2.1 z.2.2) (n := (rmG h r).events.length) (fun s j => (s.1, s.2, j))
  (fun i s => (s = (0, 0) ∧ ∀ j, j < i → ¬ cand j) ∨ ∃ (j : Nat) (hj : j < (rmG h r).events.length), j < i ∧ cand j ∧ s = ((rmG h r).events[j].id, pj j) ∧ ∀ j', j' < i → cand j' → pj j ≤ pj j')
  (fun o => (o = 0 ∧ ∀ j, j < (rmG h r).events.length → ¬ cand j) ∨ ∃ (j : Nat) (hj : j < (rmG h r).events.length), cand j ∧ o = (rmG h r).events[j].id ∧ ∀ j', j' < (rmG h r).events.length → cand j' → pj j ≤ pj j') (by omega) (by
  rintro i ⟨x, y⟩ hi hI
  have hip : i < (posG (prs h.stream) (rmG h r)).length := by omega
  have hw := Yfh hi (by omega : (rmG h r).events.length < 9223372036854775807)
  simp only [Z8b]
  rw [q.wrap, q.gr, Wb, dlt hi, Wu, Yfg hi, Wb, q.pos, Wb, Yfg hip, Wb, Yna hi, q.room, ← hpj i hi]
  simp only [Z8a, Z89, hw, beqd]
  have keep : ¬ cand i → ((((x, y) : Int × Int) = (0, 0) ∧ ∀ j, j < i + 1 → ¬ cand j) ∨ ∃ (j : Nat) (hj : j < (rmG h r).events.length), j < i + 1 ∧ cand j ∧ (x, y) = ((rmG h r).events[j].id, pj j) ∧ ∀ j', j' < i + 1 → cand j' → pj j ≤ pj j') := fun hn => by
   rcases hI with ⟨a1, a2⟩ | ⟨j, hj, a1, a2, a3, a4⟩
   ·
    refine .inl ⟨a1, fun j hj => ?_⟩
    rcases Nat.lt_or_ge j i with g | g
    ·
     exact a2 j g
    ·
     obtain rfl : j = i := by omega
     exact hn
   ·
    refine .inr ⟨j, hj, by omega, a2, a3, fun j' hj' hc => ?_⟩
    rcases Nat.lt_or_ge j' i with g | g
    ·
     exact a4 j' g hc
    ·
     obtain rfl : j' = i := by omega
     exact absurd hc hn
  by_cases k8 : (rmG h r).events[i].kind = 8
  rotate_left
  ·
   rw [Wf k8]; exact ⟨(x, y), rfl, keep fun ⟨_, c, _⟩ => k8 c⟩
  by_cases kk : (rmG h r).events[i].key = id
  rotate_left
  ·
   rw [Wt k8, Wf kk]; exact ⟨(x, y), rfl, keep fun ⟨_, _, c, _⟩ => kk c⟩
  by_cases kp : pj i > 0
  rotate_left
  ·
   rw [Wt k8, Wt kk, Wf kp]; exact ⟨(x, y), rfl, keep fun ⟨c0, _, _, c⟩ => kp (by rw [hpj i c0]; exact c)⟩
  have hc : cand i := ⟨hi, k8, kk, by rw [← hpj i hi]; exact kp⟩
  rw [Wt k8, Wt kk, Wt kp]
  rcases hI with ⟨a1, a2⟩ | ⟨j, hj, a1, a2, a3, a4⟩
  ·
   obtain ⟨rfl, rfl⟩ := Prod.mk.inj a1
   refine ⟨((rmG h r).events[i].id, pj i), rfl, .inr ⟨i, hi, by omega, hc, rfl, fun j' hj' hc' => ?_⟩⟩
   rcases Nat.lt_or_ge j' i with g | g
   ·
    exact absurd hc' (a2 j' g)
   ·
    obtain rfl : j' = i := by omega
    exact Int.le_refl _
  ·
   obtain ⟨e1, e2⟩ := Prod.mk.inj a3
   have hid := ((q.right.ev _ (Wm hj)).id).1
   rw [Wf (by omega : ¬ x = 0)]
   by_cases hlt : pj i < y
   ·
    rw [Wt hlt]
    refine ⟨((rmG h r).events[i].id, pj i), rfl, .inr ⟨i, hi, by omega, hc, rfl, fun j' hj' hc' => ?_⟩⟩
    rcases Nat.lt_or_ge j' i with g | g
    ·
     have := a4 j' g hc'; omega
    ·
     obtain rfl : j' = i := by omega
     exact Int.le_refl _
   ·
    rw [Wf hlt]
    refine ⟨(x, y), rfl, .inr ⟨j, hj, by omega, a2, a3, fun j' hj' hc' => ?_⟩⟩
    rcases Nat.lt_or_ge j' i with g | g
    ·
     exact a4 j' g hc'
    ·
     obtain rfl : j' = i := by omega
     omega) (by
  rintro ⟨x, y⟩ hI
  simp only [Z8b]
  rw [q.wrap, q.gr, Wb, dnlt, Wv]
  refine ⟨x, rfl, ?_⟩
  rcases hI with ⟨a1, a2⟩ | ⟨j, hj, a1, a2, a3, a4⟩
  ·
   exact .inl ⟨(Prod.mk.inj a1).1, a2⟩
  ·
   exact .inr ⟨j, hj, a2, (Prod.mk.inj a3).1, a4⟩) (s := (0, 0)) (.inl ⟨rfl, fun j hj => by omega⟩)
 rw [e1, Wb]
 simp only [Z88]
 congr 1
 -- the first one in the stream
 have key : ∀ i, i < h.stream.length → hidP h r id i = true → ∃ j, j < (rmG h r).events.length ∧ cand j ∧ pj j = (i : Int) + 1 := fun i hi hp => by
  unfold hidP at hp
  simp only [Bool.and_eq_true, decide_eq_true_eq] at hp
  obtain ⟨k0, hk0, _, p2, p3, p4⟩ := Ypq u q hi hp.1
  have hpk : posP (prs h.stream) (r, (rmG h r).events[k0].id) = (i : Int) + 1 := by rw [p2, p3]; exact p4
  exact ⟨k0, hk0, ⟨hk0, by rw [p2]; exact hp.2.1, by rw [p2]; exact hp.2.2, by omega⟩, by rw [hpj k0 hk0]; exact hpk⟩
 unfold hidB
 rcases e2 with ⟨rfl, a2⟩ | ⟨j, hj, ⟨_, c1, c2, c3⟩, rfl, a4⟩
 ·
  have hf : (List.range h.stream.length).find? (hidP h r id) = none := List.find?_eq_none.2 fun i hi hp => by
   obtain ⟨j, hj, hc, _⟩ := key i (by simpa using hi) hp
   exact a2 j hj hc
  rw [hf]
 ·
  obtain ⟨i, i1, i2, i3, i4, i5⟩ := Ypr u q hj c3
  have hp : hidP h r id i = true := by
   unfold hidP
   rw [i4, Wt i2, Wt c1, Wt c2]; rfl
  have hf : (List.range h.stream.length).find? (hidP h r id) = some i := List.find?_range_eq_some.2 ⟨hp, by simpa using i1, fun i' hi' => by
   by_cases hq : hidP h r id i' = true
   ·
    obtain ⟨j', hj', hc', hpj'⟩ := key i' (by omega) hq
    have := a4 j' hj' hc'
    rw [hpj', hpj j hj, i5] at this
    omega
   ·
    simpa using hq⟩
  rw [hf]
  exact i3.symm

theorem Ypt {h : Ya4} (u : Yod h) {r : Int} (id : Int) (hr : 1 ≤ r ∧ r ≤ 3) : decide (hidB h r id > 0) = decide (hidB h r id ≠ 0) := by
 obtain ⟨k, q⟩ := u.room hr
 have : 0 ≤ hidB h r id := by
  unfold hidB
  cases hf : (List.range h.stream.length).find? (hidP h r id) with
  | none => exact Int.le_refl 0
  | some i =>
   have h1 := List.mem_of_find?_eq_some hf
   have h2 := List.find?_some hf
   unfold hidP at h2
   simp only [Bool.and_eq_true, decide_eq_true_eq] at h2
   obtain ⟨v1, v2, v3⟩ := u.event q (Ypk (by simpa using h1) h2.1)
   have := ((q.right.ev _ v2).id).1
   simp only
   omega
 rw [Bool.eq_iff_iff]; simp; omega

theorem Ypu {h : Ya4} (u : Yod h) {r : Int} (hr : 1 ≤ r ∧ r ≤ 3) {k : Nat} (hk : k < (rmG h r).events.length) : Z8f (wOf h) r (k : Int) = some (shE h r (rmG h r).events[k]) := by
 obtain ⟨j, q⟩ := u.room hr
 have hpl := (q.right.walk.prev (id := (rmG h r).events[k].id) (List.mem_map.2 ⟨_, Wm hk, rfl⟩)).1
 have hev : evD (rmG h r).events (rmG h r).events[k].id = (rmG h r).events[k] := by unfold evD; rw [(q.right.fits.up.plc hk).2]; rfl
 rw [hev] at hpl
 have hh := Yps u (rmG h r).events[k].id hr
 have hn := Ypt u (rmG h r).events[k].id hr
 unfold Z8f
 rw [q.wrap, q.gr, Wb, Yfg hk, Wb, Ykx _ (by omega), Wb, hh, Wb, hn]
 simp only [Z8e, beqd]
 unfold shE
 by_cases k7 : (rmG h r).events[k].kind = 7
 ·
  rw [Wt k7]
  by_cases hz : hidB h r (rmG h r).events[k].id = 0
  ·
   rw [Wf (fun x => x hz), if_neg fun x => x.2 hz]; rfl
  ·
   rw [Wt hz, if_pos ⟨.inl k7, hz⟩]; rfl
 ·
  rw [Wf k7]
  by_cases k4 : (rmG h r).events[k].kind = 4
  ·
   rw [Wt k4]
   by_cases hz : hidB h r (rmG h r).events[k].id = 0
   ·
    rw [Wf (fun x => x hz), if_neg fun x => x.2 hz]; rfl
   ·
    rw [Wt hz, if_pos ⟨.inr k4, hz⟩]; rfl
  ·
   rw [Wf k4, if_neg fun x => x.1.elim k7 k4]; rfl
end Go.Proofs.YtnoknphekhclcaaGreatDoor
namespace Go.Proofs.YtnoknphekhclcaaGreatDoor
open Go Go.Abs

end Go.Proofs.YtnoknphekhclcaaGreatDoor
namespace Go.Proofs.YtnoknphekhclcaaGreatDoor
open Go Go.Abs

section
variable {α : Type} (mk : Int → α → α) (w : α → Nat)
variable {mk w}
end


def Ypv (p : List Ya3) : Prop := p.length ≤ 1048576 ∧ ∀ g ∈ p, Yls g.events ∧ Yls g.parked

structure SmH (h : Ya4) : Prop where
 rg : Ypv h.rooms
 sl : h.stream.length ≤ 1048576
end Go.Proofs.YtnoknphekhclcaaGreatDoor
namespace Go.Proofs.YtnoknphekhclcaaGreatDoor
open Go Go.Abs


theorem Ypw {t x r : ByteArray} {i : Nat} (hi : i + x.size ≤ t.size) (h : Y2e t (i : Int) ((i + x.size : Nat) : Int) = some r) : (r.toList == x.toList) = Go.Lib.occAt t.data.toList x.data.toList i := by
 unfold Y2e at h
 rw [if_pos ⟨by omega, by omega, by omega⟩] at h
 obtain rfl := Wj h
 have ht : t.data.toList.length = t.size := Array.length_toList
 have hx : x.data.toList.length = x.size := Array.length_toList
 rw [Go.Lib.occAt_iff_take _ _ _ (by rw [hx, ht]; exact hi), ByteArray.toList_eq, ByteArray.toList_eq, hx, ByteArray.data_extract, Array.toList_extract, List.extract_eq_take_drop]
 rw [Int.toNat_natCast, Int.toNat_natCast, show i + x.size - i = x.size by omega]

theorem Ypx (t x : ByteArray) (ht : t.size ≤ 1000000) (h1 : 1 ≤ x.size) (hx : x.size ≤ 10) : Z7o t x = some (Go.Lib.contains t.data.toList x.data.toList) := by
 have lt : t.data.toList.length = t.size := Array.length_toList
 have lx : x.data.toList.length = x.size := Array.length_toList
 unfold Z7o
 obtain ⟨o, e1, e2⟩ := Yff (τ := Int) (ω := Bool ⊕ Unit) (σ := Unit) (step := Z7n t x) (n := t.size + 1 - x.size) (fun _ j => j) (fun i _ => ∀ j, j < i → Go.Lib.occAt t.data.toList x.data.toList j = false) (fun o => (o = .inl true ∧ Go.Lib.contains t.data.toList x.data.toList = true) ∨ (o = .inr () ∧ Go.Lib.contains t.data.toList x.data.toList = false)) (by omega) (by
  intro i _ hi hI
  have hw : IntKind.i64.wrap ((i : Int) + (x.size : Int)) = ((i + x.size : Nat) : Int) := by rw [Y4w (by omega) (by omega)]; omega
  have hs : Y2e t (i : Int) ((i + x.size : Nat) : Int) = some (t.extract i (i + x.size)) := by
   unfold Y2e
   rw [if_pos ⟨by omega, by omega, by omega⟩, Int.toNat_natCast, Int.toNat_natCast]
  unfold Z7n
  rw [hw, Wt (by omega : ((i + x.size : Nat) : Int) ≤ (t.size : Int)), Wu, hs, Wb, Ypw (by omega) hs, Y4w (by omega) (by omega)]
  cases ho : Go.Lib.occAt t.data.toList x.data.toList i with
  | true =>
   refine .inr ⟨_, rfl, .inl ⟨rfl, ?_⟩⟩
   unfold Go.Lib.contains
   rw [Go.Lib.index_first (by rw [lt]; omega) ho hI]
   exact Wt (by omega)
  | false =>
   refine .inl ⟨(), rfl, fun j hj => ?_⟩
   by_cases hji : j = i
   ·
    rw [hji]; exact ho
   ·
    exact hI j (by omega)) (by
  intro _ hI
  have hw : IntKind.i64.wrap (((t.size + 1 - x.size : Nat) : Int) + (x.size : Int)) = ((t.size + 1 - x.size + x.size : Nat) : Int) := by rw [Y4w (by omega) (by omega)]; omega
  unfold Z7n
  rw [hw, Wf (by omega : ¬ ((t.size + 1 - x.size + x.size : Nat) : Int) ≤ (t.size : Int)), Wv]
  refine ⟨_, rfl, .inr ⟨rfl, ?_⟩⟩
  unfold Go.Lib.contains
  rw [Go.Lib.index_none fun j hj => ?_]
  ·
   rfl
  ·
   cases ho : Go.Lib.occAt t.data.toList x.data.toList j with
   | false => rfl
   | true =>
    rcases Go.Lib.occAt_room ho with h | h
    ·
     rw [lx, lt] at h
     rw [hI j (by omega)] at ho; cases ho
    ·
     rw [h] at lx; simp at lx; omega) (s := ()) (fun j hj => absurd hj (Nat.not_lt_zero _))
 rw [show iter (Z7n t x) big 0 = some o from e1, Wb]
 rcases e2 with ⟨rfl, h⟩ | ⟨rfl, h⟩ <;> rw [h] <;> rfl


theorem Ypy {e : Y9z} (h : Yg4 e = true) (hk : e.kind = 7 ∨ e.kind = 4) : e.text.size ≤ 1000000 := by
 have hb := Yg5 e
 rw [h] at hb
 by_cases hc : e.text.size ≤ 1000000
 ·
  exact hc
 ·
  exfalso
  unfold Z1z Z1r Z1s Z1t Z1u Z1v Z1w Z1x Z1y at hb
  have hd : decide ((e.text.size : Int) ≤ 30) = false := Wf (by omega)
  rcases hk with hk | hk <;> simp [hk, hd, Yfm, Yfk, Yfl] at hb <;> omega

theorem Ypz (h : Ya4) (r : Int) (e : Y9z) (ht : e.text.size ≤ 1000000) : (shE h r e).event.text.size ≤ 1000000 := by
 unfold shE
 split
 ·
  show ByteArray.empty.size ≤ 1000000; decide
 ·
  exact ht


end Go.Proofs.YtnoknphekhclcaaGreatDoor
namespace Go.Proofs.YtnoknphekhclcaaGreatDoor
open Go Go.Abs


theorem Yq0 {τ ω : Type} {step : τ → Option (τ ⊕ ω)} {x y : τ} {o : ω} (h1 : step x = some (.inl y)) (h2 : step y = some (.inr o)) : iter step big x = some o := by
 obtain ⟨k, hk⟩ : ∃ k, big = k + 1 + 1 := ⟨2 ^ 64 - 2, by decide⟩
 rw [hk, iter, h1]
 simp [iter, h2]

theorem Yq1 {n : Int} (h : 1 ≤ n ∧ n ≤ 6) : ∃ t : ByteArray, Z7k n = some t ∧ Zj1 n = some t ∧ t.size = 1 := by
 have key : ∀ n : Nat, 1 ≤ n → n ≤ 6 → ∃ t : ByteArray, Z7k n = some t ∧ Zj1 n = some t ∧ t.size = 1 := by
  intro n h1 h2
  refine ⟨⟨#[UInt8.ofNat (48 + n)]⟩, ?_, ?_, rfl⟩
  ·
   have e : iter (fun z21 : Int × ByteArray => Z7j z21.1 z21.2) big ((n : Int), ByteArray.empty) = some ⟨#[UInt8.ofNat (48 + n)]⟩ := by
    have hc : n = 1 ∨ n = 2 ∨ n = 3 ∨ n = 4 ∨ n = 5 ∨ n = 6 := by omega
    rcases hc with rfl | rfl | rfl | rfl | rfl | rfl <;> exact Yq0 (y := (0, _)) rfl rfl
   unfold Z7k
   rw [show ((n : Int) == 0) = false by rw [beqd]; exact Wf (by omega), Wv, e, Wb]
   unfold Z7h Z7g
   rw [Wf (by omega : ¬ (n : Int) < 0), Wv]
  ·
   unfold Zj1 Ziz
   rw [Y4x (Wt (by omega)), Wb, Wb, Int.toNat_natCast, Go.Lib.decDigits, dif_pos (by omega)]
 obtain ⟨m, rfl⟩ := Int.eq_ofNat_of_zero_le (by omega : 0 ≤ n)
 exact key m (by omega) (by omega)


def Yq2 (user : Int) : ByteArray := ByteArray.mk #[64] ++ (Z7k user).getD ByteArray.empty
theorem Yq3 {user : Int} (hu : 1 ≤ user ∧ user ≤ 6) : Z7k user = some ((Z7k user).getD ByteArray.empty) ∧ Zj1 user = some ((Z7k user).getD ByteArray.empty) ∧ (Yq2 user).size = 2 ∧ chk (decide ((ByteArray.mk #[64]).size + ((Z7k user).getD ByteArray.empty).size ≤ 9223372036854775807)) = some () := by
 obtain ⟨t, h1, h2, h3⟩ := Yq1 hu
 unfold Yq2
 rw [h1, Option.getD_some]
 refine ⟨rfl, h2, ?_, Y4x (Wt ?_)⟩
 ·
  rw [ByteArray.size_append, h3]; rfl
 ·
  rw [h3]; decide

theorem Yq4 (t x : ByteArray) (ht : t.size ≤ 1000000) : Zj3 t x = some (Go.Lib.contains t.data.toList x.data.toList) := by
 unfold Zj3
 rw [Y4x (Wt (by omega)), Wb]

theorem Yq5 (h : Ya4) (r : Int) (e : Y9z) : (shE h r e).event.room = e.room := by
 unfold shE; split <;> rfl

theorem Yq6 {h : Ya4} (u : Yod h) {r : Int} (hr : 1 ≤ r ∧ r ≤ 3) {e : Y9z} (he : e ∈ (rmG h r).events) (h7 : e.kind = 7) : (shE h r e).event.room = r ∧ (shE h r e).event.text.size ≤ 1000000 := by
 obtain ⟨k, q⟩ := u.room hr
 refine ⟨?_, Ypz h r e (Ypy (q.right.ev e he).body (.inl h7))⟩
 obtain ⟨g, hg, hge⟩ : ∃ (j : Nat) (hj : j < h.rooms.length), h.rooms[j] = rmG h r := List.mem_iff_getElem.1 q.mem
 have := (u.rooms g hg).1.ev
 rw [hge] at this
 rw [Yq5, (this e he).2, q.room]

end Go.Proofs.YtnoknphekhclcaaGreatDoor
namespace Go.Proofs.YtnoknphekhclcaaGreatDoor
open Go Go.Abs


theorem Yq7 {h : Ya4} (u : Yod h) (m : Ya2) (r at_ : Int) : (newI h m r at_).length ≤ 120 := Nat.le_trans (List.length_filter_le _ _) (Yp4 u m.user r)

theorem Yq8 {h : Ya4} (u : Yod h) (m : Ya2) {r at_ : Int} (hr : 1 ≤ r ∧ r ≤ 3) {j : Nat} (hj : j ∈ newI h m r at_) :
  ∃ (k0 : Nat) (hk0 : k0 < (rmG h r).events.length), plc (rmG h r).events (spA h j).id = k0 ∧ (rmG h r).events[k0] = evA h r j ∧ (shE h r (evA h r j)).event.room = r ∧ (shE h r (evA h r j)).event.text.size ≤ 1000000 := by
 obtain ⟨h1, h2⟩ := List.mem_filter.1 hj
 obtain ⟨m1, m2, _⟩ := Yp3 h1
 obtain ⟨k, q⟩ := u.room hr
 obtain ⟨k0, hk0, p1, p2, _⟩ := Ypq u q m1 m2
 have h7 : (evA h r j).kind = 7 := by
  unfold newB at h2
  exact Wo (Bool.and_eq_true_iff.1 h2).1
 obtain ⟨a1, a2⟩ := Yq6 u hr (e := evA h r j) (by rw [← p2]; exact Wm hk0) h7
 exact ⟨k0, hk0, p1, p2, a1, a2⟩

def calB (h : Ya4) (user r : Int) (j : Nat) : Bool := Go.Lib.contains (shE h r (evA h r j)).event.text.data.toList (Yq2 user).data.toList
def calI (h : Ya4) (r : Int) (j : Nat) : Int := (shE h r (evA h r j)).event.id

theorem Yq9 {h : Ya4} (u : Yod h) (m : Ya2) (hu : 1 ≤ m.user ∧ m.user ≤ 6) {r : Int} (hr : 1 ≤ r ∧ r ≤ 3) (at_ : Int) :
  iter (fun z : List Int × Int => Z8j m r (wOf h, true) ((newI h m r at_).map fun i => plc (rmG h r).events (spA h i).id) z.1 z.2) big ([], 0) = some (((newI h m r at_).filter (calB h m.user r)).map (calI h r)) := by
 have hn := Yq7 u m r at_
 obtain ⟨c1, _, c3, c4⟩ := Yq3 hu
 have := Yfx (l := newI h m r at_) (step := fun z : List Int × Int => Z8j m r (wOf h, true) ((newI h m r at_).map fun i => plc (rmG h r).events (spA h i).id) z.1 z.2) (fun q j => (q, j)) (fun q => q) (fun q j => if calB h m.user r j = true then q ++ [calI h r j] else q) (fun i q => q.length ≤ i) (by omega) (fun i q hi hq => by
  obtain ⟨k0, hk0, p1, p2, _, a2⟩ := Yq8 u m hr (Wm hi)
  refine ⟨?_, by split <;> first | omega | (rw [List.length_append, List.length_singleton]; omega)⟩
  simp only [Z8j]
  rw [List.length_map, dlt hi, Wu, Ymr _ hi, Wb, p1, Ypu u hr hk0, Wb, p2, c1, Wb, c4, Wb]
  have hc : Z7o (shE h r (evA h r (newI h m r at_)[i])).event.text (ByteArray.mk #[64] ++ (Z7k m.user).getD ByteArray.empty) = some (calB h m.user r (newI h m r at_)[i]) := Ypx _ (Yq2 m.user) a2 (by omega) (by omega)
  rw [hc, Wb, chk8 (by simp; omega), Wb]
  simp only [Z8i, Yfh hi (by omega : (newI h m r at_).length < 9223372036854775807)]
  cases calB h m.user r (newI h m r at_)[i] <;> rfl)
  (fun q _ => by simp only [Z8j]; rw [List.length_map, dnlt, Wv]) (s := []) (by simp)
 rw [this.1, Yp5, List.nil_append]

theorem Yqa {h : Ya4} (u : Yod h) (m : Ya2) (hu : 1 ≤ m.user ∧ m.user ≤ 6) {r : Int} (hr : 1 ≤ r ∧ r ≤ 3) (at_ : Int) :
  iter (fun z : List Int × Int => Zk4 m ((newI h m r at_).map fun i => shE h r (evA h r i)) z.1 z.2) big ([], 0) = some (((newI h m r at_).filter (calB h m.user r)).map (calI h r)) := by
 have hn := Yq7 u m r at_
 obtain ⟨_, c2, c3, c4⟩ := Yq3 hu
 have := Yfx (l := newI h m r at_) (step := fun z : List Int × Int => Zk4 m ((newI h m r at_).map fun i => shE h r (evA h r i)) z.1 z.2) (fun q j => (q, j)) (fun q => q) (fun q j => if calB h m.user r j = true then q ++ [calI h r j] else q) (fun i q => q.length ≤ i) (by omega) (fun i q hi hq => by
  obtain ⟨k0, hk0, p1, p2, _, a2⟩ := Yq8 u m hr (Wm hi)
  refine ⟨?_, by split <;> first | omega | (rw [List.length_append, List.length_singleton]; omega)⟩
  simp only [Zk4]
  rw [List.length_map, dlt hi, Wu, Ymr _ hi, Wb, c2, Wb, c4, Wb]
  have hc : Zj3 (shE h r (evA h r (newI h m r at_)[i])).event.text (ByteArray.mk #[64] ++ (Z7k m.user).getD ByteArray.empty) = some (calB h m.user r (newI h m r at_)[i]) := Yq4 _ (Yq2 m.user) a2
  rw [hc, Wb, chk8 (by simp; omega), Wb]
  simp only [Zk3, Yfh hi (by omega : (newI h m r at_).length < 9223372036854775807)]
  cases calB h m.user r (newI h m r at_)[i] <;> rfl)
  (fun q _ => by simp only [Zk4]; rw [List.length_map, dnlt, Wv]) (s := []) (by simp)
 rw [this.1, Yp5, List.nil_append]

theorem Yqb {h : Ya4} (hf : Ynp h) (m : Ya2) (hm : m.at_.length ≤ 1048576) (r : Int) : ∃ v, Z8l h m r = some v ∧ Zk6 h m r = some v ∧ v.length ≤ 120 := by
 obtain ⟨b, b1, b2, b3⟩ := Yof hf
 obtain ⟨m1, m2⟩ := Ypc m hm
 unfold Z8l Zk6
 rw [b2, b3, Wb, Wb]
 cases b with
 | false => exact ⟨_, rfl, rfl, by simp⟩
 | true =>
  have u := b1 rfl
  simp only [Wu]
  unfold Z7c
  rw [m1, m2, Yfk, Yfo]
  simp only [Wb]
  cases hmb : marB m with
  | false => exact ⟨_, rfl, rfl, by simp⟩
  | true =>
   obtain ⟨k1, k2, k3⟩ := Ypb hmb
   simp only [Wu]
   by_cases hr : 1 ≤ r ∧ r ≤ 3
   rotate_left
   ·
    rw [Wf hr]; exact ⟨_, rfl, rfl, by simp⟩
   rw [Wt hr]
   obtain ⟨k, q⟩ := u.room hr
   have hlt := q.lt
   have h3 := u.three
   have hka : k < m.at_.length := by omega
   have ha : getI m.at_ (IntKind.i64.wrap (r - 1)) = some m.at_[k] := by rw [q.wrap]; exact Yfg hka
   simp only [Bool.not_true, Z8k, Zk5, Wv]
   rw [Ypo u m hr ha (k3 _ (Wm hka)), Ypp u m hr ha, Wb, Wb, Yqa u m k1 hr, Yq9 u m k1 hr, Wb, Wb]
   refine ⟨_, rfl, rfl, ?_⟩
   rw [List.length_map]
   exact Nat.le_trans (List.length_filter_le _ _) (Yq7 u m r _)
end Go.Proofs.YtnoknphekhclcaaGreatDoor
