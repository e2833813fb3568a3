/- Plain laws for the graphs: who is ahead of whom; depths rise. -/
import Derived.Test.YtnoknphekhclcaaGreatDoorEGO
set_option autoImplicit false
set_option linter.unusedVariables false
set_option linter.unusedSimpArgs false
namespace Go.Proofs.YtnoknphekhclcaaGreatDoor
open Go Go.Abs

inductive Bf (l : List Y9t) (a : Int) : List Int → List Int → Bool → Prop
 | nil (seen : List Int) : Bf l a seen [] false
 | hit (seen r : List Int) : Bf l a seen (a :: r) true
 | skip (seen r : List Int) (id : Int) (b : Bool) : id ≠ a → id ∈ seen → Bf l a seen r b → Bf l a seen (id :: r) b
 | more (seen r : List Int) (id : Int) (b : Bool) : id ≠ a → id ∉ seen → Bf l a (id :: seen) (r ++ (evD l id).prev) b → Bf l a seen (id :: r) b

theorem Bf.det {l : List Y9t} {a : Int} {seen todo : List Int} {b1 b2 : Bool} (h1 : Bf l a seen todo b1) (h2 : Bf l a seen todo b2) : b1 = b2 := by
 induction h1 with
 | nil => cases h2; rfl
 | hit => cases h2 <;> first | rfl | contradiction
 | skip _ _ _ _ n1 m1 _ ih =>
  cases h2 with
  | hit => exact absurd rfl n1
  | skip _ _ _ _ _ _ h => exact ih h
  | more _ _ _ _ _ m2 _ => exact absurd m1 m2
 | more _ _ _ _ n1 m1 _ ih =>
  cases h2 with
  | hit => exact absurd rfl n1
  | skip _ _ _ _ _ m2 _ => exact absurd m2 m1
  | more _ _ _ _ _ _ h => exact ih h

def Yl4 (l : List Y9t) (seen : List Int) : Nat := l.countP fun e => !decide (e.id ∈ seen)
theorem Yl5 {l : List Y9t} {seen : List Int} {id : Int} (hi : id ∈ l.map (·.id)) (hn : id ∉ seen) : Yl4 l (id :: seen) < Yl4 l seen := by
 have key : ∀ l : List Y9t, Yl4 l (id :: seen) ≤ Yl4 l seen ∧ (id ∈ l.map (·.id) → Yl4 l (id :: seen) < Yl4 l seen) := by
  intro l
  unfold Yl4
  induction l with
  | nil => simp
  | cons e l ih =>
   obtain ⟨i1, i2⟩ := ih
   by_cases he : e.id = id
   ·
    rw [List.countP_cons_of_neg (by simp [he]), List.countP_cons_of_pos (by simp [he, hn])]
    exact ⟨by omega, fun _ => by omega⟩
   ·
    by_cases hs : e.id ∈ seen
    ·
     rw [List.countP_cons_of_neg (by simp [hs]), List.countP_cons_of_neg (by simp [hs])]
     refine ⟨i1, fun h => i2 ?_⟩
     simp only [List.map_cons, List.mem_cons] at h
     exact h.resolve_left fun h => he h.symm
    ·
     rw [List.countP_cons_of_pos (by simp [hs, he]), List.countP_cons_of_pos (by simp [hs])]
     refine ⟨by omega, fun h => ?_⟩
     simp only [List.map_cons, List.mem_cons] at h
     have := i2 (h.resolve_left fun h => he h.symm)
     omega
 exact (key l).2 hi
theorem Yl6 (l : List Y9t) (seen : List Int) : Yl4 l seen ≤ l.length := List.countP_le_length

structure Walk (g : Y9y) : Prop where
 fits : Fits g.events
 ev : ∀ e ∈ g.events, EvOk e

theorem Walk.prev {g : Y9y} (h : Walk g) {id : Int} (hi : id ∈ g.events.map (·.id)) : (evD g.events id).prev.length ≤ 4 ∧ ∀ p ∈ (evD g.events id).prev, p ∈ g.events.map (·.id) := by
 obtain ⟨_, h2, _⟩ := Ykx hi h.fits.up
 refine ⟨(h.ev _ h2).prev.1, fun p hp => ?_⟩
 obtain ⟨e, he, hid⟩ := Ygu.1 (h.fits.whole _ h2 p hp)
 exact List.mem_map.2 ⟨e, he, hid⟩

theorem Yl7 {l : List Y9t} {id : Int} : hasE l id = true ↔ id ∈ l.map (·.id) := by rw [Ygu, List.mem_map]

theorem Zmt {g : Y9y} (h : Walk g) (a : Int) {e : Y9t} (he : e ∈ g.events) : ∃ b, Zgb g a e = some b ∧ Bf g.events a [] e.prev b := by
 have hfl := h.fits.len
 have hev : evD g.events e.id = e := by unfold evD; rw [h.fits.up.evAt_mem he]; rfl
 have hpe := h.prev (List.mem_map.2 ⟨e, he, rfl⟩)
 rw [hev] at hpe
 unfold Zgb
 have hcl : Zg5 e.prev = some e.prev := by unfold Zg5; rw [chk8 (by omega)]; rfl
 rw [hcl, Wb]
 obtain ⟨o, h1, h2⟩ := Y4z (step := fun z : List (Int × Bool) × List Int × Int => Zga g a z.1 z.2.1 z.2.2) (p := fun o : Bool ⊕ Unit => ∃ b, Bf g.events a [] e.prev b ∧ ((o = .inl true ∧ b = true) ∨ (o = .inr () ∧ b = false)))
  (fun k (z : List (Int × Bool) × List Int × Int) => ∃ (seen : List Int) (at_ : Nat), z.2.2 = (at_ : Int) ∧ at_ ≤ z.2.1.length ∧ (∀ id, Option.getD (mget z.1 id) false = true ↔ id ∈ seen) ∧ (∀ id ∈ z.2.1, id ∈ g.events.map (·.id)) ∧ z.2.1.length + 5 * Yl4 g.events seen ≤ 400 ∧ (∀ b, Bf g.events a seen (z.2.1.drop at_) b → Bf g.events a [] e.prev b) ∧ k = (z.2.1.length - at_) + 5 * Yl4 g.events seen) (by
  rintro k ⟨m, q, x⟩ ⟨seen, at_, hx, hat, hm, hq, hb, hB, hk⟩
  simp only at hx hat hm hq hb hB hk
  subst hx
  simp only [Zga]
  by_cases hlt : at_ < q.length
  ·
   rw [dlt hlt, Wu, Yfr hlt, Wb, beqd]
   rw [List.drop_eq_getElem_cons hlt] at hB
   have hqi := hq _ (Wm hlt)
   generalize q[at_] = id at hB hqi
   by_cases ha : id = a
   ·
    left
    rw [Wt ha, Wu]
    subst ha
    exact ⟨_, rfl, true, hB _ (.hit _ _), .inl ⟨rfl, rfl⟩⟩
   ·
    right
    rw [Wf ha, Wv]
    simp only [Zg9, Yfs hlt (by omega : q.length < 9223372036854775807)]
    by_cases hs : Option.getD (mget m id) false = true
    ·
     rw [hs, Wu]
     exact ⟨_, k - 1, rfl, by omega, seen, at_ + 1, rfl, by simp only; omega, hm, hq, hb, fun b h => hB b (.skip _ _ _ _ ha ((hm id).1 hs) h), by simp only; omega⟩
    ·
     rw [Bool.eq_false_iff.2 hs, Wv, c_at _ _ h.fits.up (by omega), Wb]
     have hns : id ∉ seen := fun h => hs ((hm id).2 h)
     have hp := h.prev hqi
     have hu := Yl5 hqi hns
     have e1 : (evAt g.events id).getD zEv = evD g.events id := rfl
     rw [e1, chk8 (by show q.length + (evD g.events id).prev.length < 1000000000; omega), Wb]
     refine ⟨_, (q.length + (evD g.events id).prev.length - (at_ + 1)) + 5 * Yl4 g.events (id :: seen), rfl, by omega, id :: seen, at_ + 1, rfl, by simp; omega, fun id' => ?_, fun id' hid => ?_, by simp; omega, fun b h => hB b ?_, by simp⟩
     ·
      rw [Y6g]
      by_cases h3 : id' = id
      ·
       rw [if_pos h3]; simp [h3]
      ·
       rw [if_neg h3, hm]; simp [h3]
     ·
      rcases List.mem_append.1 hid with hid | hid
      ·
       exact hq _ hid
      ·
       exact hp.2 _ hid
     ·
      refine .more _ _ _ _ ha hns ?_
      simp only at h
      rwa [List.drop_append_of_le_length (by omega)] at h
  ·
   left
   obtain rfl : at_ = q.length := by omega
   rw [dnlt, Wv]
   rw [List.drop_length] at hB
   exact ⟨_, rfl, false, hB _ (.nil _), .inr ⟨rfl, rfl⟩⟩) big (e.prev.length + 5 * Yl4 g.events []) ([], e.prev, 0) ⟨[], 0, rfl, by simp, by simp [mget], hpe.2, by have := Yl6 g.events []; simp only; omega, by simp, by simp⟩ (Yfm (by have := Yl6 g.events []; omega))
 obtain ⟨b, hb, h2⟩ := h2
 rw [h1, Wb]
 rcases h2 with ⟨rfl, rfl⟩ | ⟨rfl, rfl⟩
 ·
  exact ⟨true, rfl, hb⟩
 ·
  exact ⟨false, rfl, hb⟩

theorem Yl8 (e : Y9t) (h : e.prev.length < 1000000) : Z5o e = some e := by
 unfold Z5o
 rw [chk8 (by simp; omega), Wb]
 rfl

theorem Yl9 {g : Y9y} (hl : g.events.length < 1000000) {e : Y9t} {id : Int} (he : evAt g.events id = some e) (hp : e.prev.length < 1000000) : Z5q g id = some e := by
 unfold Z5q
 obtain ⟨h1, h2⟩ := Yjn he
 rw [Ygo _ _ (by omega), Wb, Wf (by omega), Wv, h1, Wb, Yl8 _ hp]; rfl

theorem Zmu {g : Y9y} (h : Walk g) (a : Int) (ha : a ∈ g.events.map (·.id)) {e : Y9t} (he : e ∈ g.events) : ∃ b, Z5v g a e.id = some b ∧ Bf g.events a [] e.prev b := by
 have hfl := h.fits.len
 have hee := h.fits.up.evAt_mem he
 have hev : evD g.events e.id = e := by unfold evD; rw [hee]; rfl
 have hpe := h.prev (List.mem_map.2 ⟨e, he, rfl⟩)
 rw [hev] at hpe
 unfold Z5v
 rw [Ygo _ _ (by omega), Wb, Ygq, Yl7.2 ha, Ygo _ _ (by omega), Wb, Ygq, Ygt he]
 simp only [Bool.not_true, Wv, Z5u]
 rw [Y4x (Wt ⟨by omega, by omega⟩), Wb, Yl9 (by omega) hee (by omega), Wb, chk8 (by simp; omega), Wb, Int.toNat_natCast, List.nil_append]
 obtain ⟨o, h1, h2⟩ := Y4z (step := fun z : List Bool × List Int => Z5t g a z.1 z.2) (p := fun o : Bool ⊕ Unit => ∃ b, Bf g.events a [] e.prev b ∧ ((o = .inl true ∧ b = true) ∨ (o = .inr () ∧ b = false)))
  (fun k (z : List Bool × List Int) => ∃ (seen : List Int), z.1.length = g.events.length ∧ (∀ id ∈ g.events.map (·.id), getI z.1 (plc g.events id) = some (decide (id ∈ seen))) ∧ (∀ id ∈ z.2, id ∈ g.events.map (·.id)) ∧ z.2.length + 5 * Yl4 g.events seen ≤ 400 ∧ (∀ b, Bf g.events a seen z.2 b → Bf g.events a [] e.prev b) ∧ k = z.2.length + 5 * Yl4 g.events seen) (by
  rintro k ⟨m, q⟩ ⟨seen, hml, hm, hq, hb, hB, hk⟩
  simp only at hml hm hq hb hB hk
  simp only [Z5t]
  cases q with
  | nil =>
   left
   exact ⟨_, rfl, false, hB _ (.nil _), .inr ⟨rfl, rfl⟩⟩
  | cons id r =>
   have hqi := hq id (by simp)
   obtain ⟨i1, i2, i3⟩ := Ykx hqi h.fits.up
   rw [Wt (by simp <;> omega), Wu, show (0 : Int) = ((0 : Nat) : Int) from rfl, Yfr (by simp), Wb, Y4x (Wt (by simp <;> omega)), Wb, Ygo _ _ (by omega), Wb]
   simp only [List.getElem_cons_zero, List.length_cons] at hk hb ⊢
   rw [beqd]
   by_cases ha : id = a
   ·
    left
    rw [Wt ha, Wu]
    subst ha
    exact ⟨_, rfl, true, hB _ (.hit _ _), .inl ⟨rfl, rfl⟩⟩
   ·
    right
    rw [Wf ha, Wv, hm id hqi, Wb]
    by_cases hs : id ∈ seen
    ·
     rw [Wt hs, Wu]
     exact ⟨_, k - 1, rfl, by omega, seen, hml, hm, fun id' h => hq id' (by simp at h; simp [h]), by simp; omega, fun b h => hB b (.skip _ _ _ _ ha hs (by simpa using h)), by simp; omega⟩
    ·
     have hp := h.prev hqi
     have hu := Yl5 hqi hs
     rw [Wf hs, Wv, (Yjn i1).1, Wb, chk8 (by simp; omega), Wb]
     refine ⟨_, r.length + (evD g.events id).prev.length + 5 * Yl4 g.events (id :: seen), rfl, by omega, id :: seen, by simp [hml], fun id' hid => ?_, fun id' hid => ?_, by simp; omega, fun b h => hB b (.more _ _ _ _ ha hs (by simpa using h)), by simp⟩
     ·
      obtain ⟨p, hpl, p1, p2, p3⟩ := Ygr (Yl7.2 hid)
      obtain ⟨p', hpl', p1', p2', p3'⟩ := Ygr (Yl7.2 hqi)
      rw [p1, p1', Int.toNat_natCast]
      have hm' := hm id' hid
      rw [p1] at hm'
      by_cases h3 : id' = id
      ·
       subst h3
       obtain rfl : p = p' := by omega
       rw [Yfr (by simp; omega)]
       simp
      ·
       have hne : p' ≠ p := fun h => by subst h; exact h3 (p2.symm.trans p2')
       rw [Yfr (by omega)] at hm'
       rw [Yfr (by simp; omega), List.getElem_set_ne hne]
       rw [hm']
       simp [h3]
     ·
      simp at hid
      rcases hid with hid | hid
      ·
       exact hq _ (by simp [hid])
      ·
       exact hp.2 _ hid) big (e.prev.length + 5 * Yl4 g.events []) (List.replicate g.events.length false, e.prev) ⟨[], by simp, fun id hid => by
   obtain ⟨p, hpl, p1, _, _⟩ := Ygr (Yl7.2 hid)
   rw [p1, Yfr (by simpa using hpl)]; simp, hpe.2, by have := Yl6 g.events []; simp only; omega, by simp, by simp⟩ (Yfm (by have := Yl6 g.events []; omega))
 obtain ⟨b, hb, h2⟩ := h2
 rw [h1, Wb]
 rcases h2 with ⟨rfl, rfl⟩ | ⟨rfl, rfl⟩
 ·
  exact ⟨true, rfl, hb⟩
 ·
  exact ⟨false, rfl, hb⟩

theorem Bf.none {g : Y9y} (h : Walk g) {a : Int} (ha : a ∉ g.events.map (·.id)) {seen todo : List Int} {b : Bool} (hb : Bf g.events a seen todo b) (ht : ∀ id ∈ todo, id ∈ g.events.map (·.id)) : b = false := by
 induction hb with
 | nil => rfl
 | hit => exact absurd (ht a (by simp)) ha
 | skip _ _ _ _ _ _ _ ih => exact ih fun id hid => ht id (by simp [hid])
 | more _ r id _ _ _ _ ih =>
  refine ih fun id' hid => ?_
  rcases List.mem_append.1 hid with hid | hid
  ·
   exact ht id' (by simp [hid])
  ·
   exact (h.prev (ht id (by simp))).2 _ hid

theorem Yla {g : Y9y} (h : Walk g) (a : Int) {e : Y9t} (he : e ∈ g.events) : ∃ b, Z5v g a e.id = some b ∧ Zgb g a e = some b := by
 obtain ⟨b, h1, h2⟩ := Zmt h a he
 by_cases ha : a ∈ g.events.map (·.id)
 ·
  obtain ⟨b', h3, h4⟩ := Zmu h a ha he
  have := h2.det h4
  subst this
  exact ⟨b, h3, h1⟩
 ·
  have hpe := h.prev (List.mem_map.2 ⟨e, he, rfl⟩)
  have hev : evD g.events e.id = e := by unfold evD; rw [h.fits.up.evAt_mem he]; rfl
  rw [hev] at hpe
  have := h2.none h ha hpe.2
  subst this
  refine ⟨false, ?_, h1⟩
  have hfl := h.fits.len
  unfold Z5v
  rw [Ygo _ _ (by omega), Wb, Ygq, Bool.eq_false_iff.2 (fun hh => ha (Yl7.1 hh))]
  rfl


def Cons (l : List Y9t) (d : List Int) : Prop := ∀ (i : Nat) (hi : i < l.length), d.getD i 0 > 0 → own l d l[i] = d.getD i 0

theorem Ylb {l : List Y9t} {d : List Int} {e : Y9t} (h : own l d e > 0) : e.prev.all (fun p => decide (dOf l d p > 0)) = true := by
 unfold own at h
 split at h
 ·
  assumption
 ·
  omega

theorem Ylc {f g : Int → Int → Int} : ∀ {l : List Int} {m : Int}, (∀ m, ∀ p ∈ l, f m p = g m p) → l.foldl f m = l.foldl g m
 | [], _, _ => rfl
 | p :: l, m, h => by rw [List.foldl_cons, List.foldl_cons, h m p (by simp)]; exact Ylc fun m q hq => h m q (by simp [hq])

theorem Yld {l : List Y9t} {d : List Int} (hd : d.length = l.length) (hw : Whole l) {i : Nat} {v : Int} (h0 : d.getD i 0 = 0) {e : Y9t} (he : e ∈ l) (h : own l d e > 0) : own l (d.set i v) e = own l d e := by
 have hp := Ylb h
 have hsame : ∀ p ∈ e.prev, dOf l (d.set i v) p = dOf l d p := fun p hp' => by
  have h1 := Wo (List.all_eq_true.1 hp p hp')
  obtain ⟨k, hk, k1, _, _⟩ := Ygr (hw e he p hp')
  unfold dOf at h1 ⊢
  rw [k1] at h1 ⊢
  have hkd : k < d.length := by omega
  rw [Yfr hkd] at h1
  rw [Yfr (by simpa using hkd), Yfr hkd]
  by_cases hik : i = k
  ·
   subst hik
   simp only [List.getD_eq_getElem?_getD, We hkd, Option.getD_some] at h0
   simp only [Option.getD_some] at h1
   omega
  ·
   rw [List.getElem_set_ne hik]
 unfold own
 have e1 : e.prev.all (fun p => decide (dOf l (d.set i v) p > 0)) = e.prev.all (fun p => decide (dOf l d p > 0)) := by
  rw [Bool.eq_iff_iff, List.all_eq_true, List.all_eq_true]
  constructor
  ·
   intro h2 p hp'; have := h2 p hp'; rwa [hsame p hp'] at this
  ·
   intro h2 p hp'; rw [hsame p hp']; exact h2 p hp'
 rw [e1, Ylc fun m p hp' => by rw [hsame p hp']]

theorem Cons.upd {l : List Y9t} {d : List Int} {c i : Nat} (hw : Whole l) (hb : Bd l c d) (hi : i < l.length) (h : Cons l d) : Cons l (updD l d i) := by
 rcases Yhg hb hi with h1 | ⟨h1, h2, h3, _⟩
 ·
  rw [h1]; exact h
 ·
  rw [h3]
  have e2 : l.getD i zEv = l[i] := by simp [hi]
  rw [e2] at h2 ⊢
  intro j hj hpos
  have hjd : j < d.length := by rw [hb.len]; exact hj
  have hid : i < d.length := by rw [hb.len]; exact hi
  by_cases hij : i = j
  ·
   subst hij
   rw [Yld hb.len hw h1 (Wm hi) h2]
   simp [hid]
  ·
   have e3 : (d.set i (own l d l[i])).getD j 0 = d.getD j 0 := by
    simp only [List.getD_eq_getElem?_getD, List.getElem?_set_ne hij]
   rw [e3] at hpos ⊢
   have h4 := h j hj hpos
   rw [Yld hb.len hw h1 (Wm hj) (by omega)]
   exact h4

theorem Cons.sweep {l : List Y9t} {d : List Int} {c : Nat} (hw : Whole l) (hb : Bd l c d) (h : Cons l d) : Cons l (sweep l d) := by
 unfold Go.Proofs.YtnoknphekhclcaaGreatDoor.sweep
 suffices key : ∀ (r : List Nat) (c : Nat) (d : List Int), (∀ i ∈ r, i < l.length) → Bd l c d → Cons l d → Cons l (r.foldl (updD l) d) from key _ c d (fun i hi => by simpa using hi) hb h
 intro r
 induction r with
 | nil => intro c d _ _ h; exact h
 | cons i r ih =>
  intro c d hr hb h
  rw [List.foldl_cons]
  exact ih (c + 1) _ (fun j hj => hr j (by simp [hj])) (Yhc hw hb (hr i (by simp))) (h.upd hw hb (hr i (by simp)))

theorem Yle {l : List Y9t} (hf : Fits l) : Cons l (Yh8 l) := by
 unfold Yh8
 have hz : Bd l 0 (List.replicate l.length 0) := ⟨by simp, fun x hx => by rw [List.eq_of_mem_replicate hx]; simp⟩
 have key : ∀ k, k ≤ l.length → Cons l (Yh7 l k (List.replicate l.length 0)) := by
  intro k
  induction k with
  | zero =>
   intro _ i hi h
   simp [Yh7, hi] at h
  | succ k ih =>
   intro hk
   exact (ih (by omega)).sweep hf.whole (Yhk hf hz k (by omega))
 exact key _ (Nat.le_refl _)

theorem Ylf (a b : Int) : a ≤ mx2 a b ∧ b ≤ mx2 a b := by unfold mx2; split <;> omega
theorem Ylg {l : List Y9t} (hf : Fits l) (hd : Deep l) {e : Y9t} (he : e ∈ l) {p : Int} (hp : p ∈ e.prev) : dOf l (Yh8 l) p < dOf l (Yh8 l) e.id := by
 obtain ⟨i, hi, rfl⟩ := List.mem_iff_getElem.1 he
 have hb := (Yhe hf).2
 have hid : i < (Yh8 l).length := by rw [hb.len]; exact hi
 have e1 : dOf l (Yh8 l) l[i].id = (Yh8 l)[i] := by
  unfold dOf
  rw [(hf.up.plc hi).1, Yfr hid]; rfl
 have e2 : (Yh8 l).getD i 0 = (Yh8 l)[i] := by simp [hid]
 have hpos := hd _ (Wm hid)
 have hc := Yle hf i hi (by rw [e2]; exact hpos)
 rw [e2] at hc
 rw [e1]
 have ha := Ylb (l := l) (d := Yh8 l) (e := l[i]) (by omega)
 unfold own at hc
 rw [if_pos ha] at hc
 have hmx : ∀ (ps : List Int) (m : Int), p ∈ ps → dOf l (Yh8 l) p ≤ ps.foldl (fun m p => mx2 m (dOf l (Yh8 l) p)) m := by
  intro ps
  have hmono : ∀ (ps : List Int) (m : Int), m ≤ ps.foldl (fun m p => mx2 m (dOf l (Yh8 l) p)) m := by
   intro ps
   induction ps with
   | nil => intro m; exact Int.le_refl _
   | cons q ps ih => intro m; rw [List.foldl_cons]; have := ih (mx2 m (dOf l (Yh8 l) q)); have := (Ylf m (dOf l (Yh8 l) q)).1; omega
  induction ps with
  | nil => intro m h; cases h
  | cons q ps ih =>
   intro m h
   rw [List.foldl_cons]
   rcases List.mem_cons.1 h with rfl | h
   ·
    have := hmono ps (mx2 m (dOf l (Yh8 l) p)); have := (Ylf m (dOf l (Yh8 l) p)).2; omega
   ·
    exact ih _ h
 have := hmx _ 0 hp
 omega
end Go.Proofs.YtnoknphekhclcaaGreatDoor
namespace Go.Proofs.YtnoknphekhclcaaGreatDoor
open Go Go.Abs

theorem Ylh {τ1 τ2 ω1 ω2 σ1 σ2 : Type} {step1 : τ1 → Option (τ1 ⊕ ω1)} {step2 : τ2 → Option (τ2 ⊕ ω2)} {n : Nat} (emb1 : σ1 → Int → τ1) (emb2 : σ2 → Int → τ2) (I : Nat → σ1 → σ2 → Prop) (Q : ω1 → ω2 → Prop) (hn : n < 9223372036854775807)
  (h1 : ∀ (i : Nat) (s : σ1) (t : σ2), i < n → I i s t → ∃ s' t', step1 (emb1 s i) = some (.inl (emb1 s' ((i + 1 : Nat) : Int))) ∧ step2 (emb2 t i) = some (.inl (emb2 t' ((i + 1 : Nat) : Int))) ∧ I (i + 1) s' t')
  (h2 : ∀ s t, I n s t → ∃ o o', step1 (emb1 s n) = some (.inr o) ∧ step2 (emb2 t n) = some (.inr o') ∧ Q o o') {s : σ1} {t : σ2} (h0 : I 0 s t) :
  ∃ o o', iter step1 big (emb1 s 0) = some o ∧ iter step2 big (emb2 t 0) = some o' ∧ Q o o' := by
 have key : ∀ m i k : Nat, ∀ s t, i + m = n → m < k → I i s t → ∃ o o', iter step1 k (emb1 s i) = some o ∧ iter step2 k (emb2 t i) = some o' ∧ Q o o' := by
  intro m
  induction m with
  | zero =>
   intro i k s t hm hk hi
   obtain ⟨k, rfl⟩ : ∃ k', k = k' + 1 := ⟨k - 1, by omega⟩
   obtain rfl : i = n := by omega
   obtain ⟨o, o', e1, e2, hq⟩ := h2 s t hi
   exact ⟨o, o', by rw [iter, e1]; rfl, by rw [iter, e2]; rfl, hq⟩
  | succ m ih =>
   intro i k s t hm hk hi
   obtain ⟨k, rfl⟩ : ∃ k', k = k' + 1 := ⟨k - 1, by omega⟩
   obtain ⟨s', t', e1, e2, hi'⟩ := h1 i s t (by omega) hi
   obtain ⟨o, o', f1, f2, hq⟩ := ih (i + 1) k s' t' (by omega) (by omega) hi'
   exact ⟨o, o', by rw [iter, e1]; exact f1, by rw [iter, e2]; exact f2, hq⟩
 exact key n 0 big s t (by omega) (Yfm (by omega)) h0


theorem Yli {l : List Y9t} {k : Nat} (hk : k < l.length) : idPl l (k : Int) = l[k].id := by unfold idPl; simp [hk]
theorem Ylj {l : List Y9t} (hf : Fits l) {k : Nat} (hk : k < l.length) : dd (Yh8 l) (k : Int) = dOf l (Yh8 l) l[k].id := by
 have hb := (Yhe hf).2
 have hkd : k < (Yh8 l).length := by rw [hb.len]; exact hk
 unfold dd dOf
 rw [(hf.up.plc hk).1, Yfr hkd]
 simp [hkd]

theorem Ylk {l : List Y9t} (hf : Fits l) {k : Nat} (hk : k < l.length) : (k : Int) ∈ Yig l := by
 refine (Yii hf).2.1.mem_iff.2 ?_
 unfold idt
 exact List.mem_map.2 ⟨k, List.mem_range'_1.2 ⟨by omega, by omega⟩, rfl⟩

theorem Yll {l : List Y9t} (hf : Fits l) : (Yih l).length = l.length := by unfold Yih; rw [List.length_map, Yik hf]
theorem Ylm {l : List Y9t} (hf : Fits l) {id : Int} : id ∈ Yih l ↔ id ∈ l.map (·.id) := by
 unfold Yih
 rw [List.mem_map, List.mem_map]
 constructor
 ·
  rintro ⟨x, hx, rfl⟩
  obtain ⟨k, rfl, hk⟩ := Yij hf hx
  exact ⟨l[k], Wm hk, (Yli hk).symm⟩
 ·
  rintro ⟨e, he, rfl⟩
  obtain ⟨k, hk, rfl⟩ := List.mem_iff_getElem.1 he
  exact ⟨(k : Int), Ylk hf hk, Yli hk⟩
theorem Yln {l : List Y9t} (hf : Fits l) : (Yih l).Nodup := by
 unfold Yih
 rw [List.nodup_iff_pairwise_ne, List.pairwise_map]
 refine List.Pairwise.imp_of_mem (fun {a b} ha hb hab he => ?_) (Yii hf).2.2
 obtain ⟨i, rfl, hi⟩ := Yij hf ha
 obtain ⟨j, rfl, hj⟩ := Yij hf hb
 rw [Yli hi, Yli hj] at he
 obtain rfl := hf.up.inj hi hj he
 unfold Lt2 at hab; omega

theorem Ylo {l : List Y9t} {i : Nat} (h1 : i < (Yig l).length) (h2 : i < (Yih l).length) : (Yih l)[i] = idPl l (Yig l)[i] := List.getElem_map _
theorem Ylp {l : List Y9t} (hf : Fits l) (hd : Deep l) {i : Nat} (hi : i < (Yih l).length) {e : Y9t} (he : evAt l (Yih l)[i] = some e) {p : Int} (hp : p ∈ e.prev) : p ∈ (Yih l).take i := by
 obtain ⟨hel, hid⟩ := Ygv he
 obtain ⟨f, hfl, hfid⟩ := Ygu.1 (hf.whole e hel p hp)
 obtain ⟨k, hk, rfl⟩ := List.mem_iff_getElem.1 hfl
 obtain ⟨u, hu, huk⟩ := List.mem_iff_getElem.1 (Ylk hf hk)
 have hlt := Ylg hf hd hel hp
 have hil : i < (Yig l).length := by rw [Yik hf]; rw [Yll hf] at hi; exact hi
 obtain ⟨x, hx, hxl⟩ := Yij hf (Wm hil)
 have e1 : (Yih l)[i] = l[x].id := by
  rw [Ylo hil hi, hx, Yli hxl]
 have d1 := Ylj hf hxl
 have d2 := Ylj hf hk
 rw [← e1, ← hid] at d1
 rw [hfid] at d2
 have hui : u < i := by
  rcases Nat.lt_trichotomy u i with h | h | h
  ·
   exact h
  ·
   subst h
   rw [hx] at huk
   have : x = k := by omega
   subst this
   omega
  ·
   have := List.pairwise_iff_getElem.1 (Yii hf).2.2 i u hil hu h
   rw [hx, huk] at this
   unfold Lt2 at this; omega
 have hul : u < (Yih l).length := by omega
 have e2 : (Yih l)[u] = p := by
  rw [Ylo hu hul, huk, Yli hk, hfid]
 have : ((Yih l).take i)[u]'(by simp; omega) = p := by simp [e2]
 rw [← this]
 exact Wm _


def Ylq (g : Y9y) (a : Int) (e : Y9t) : Bool := (Zgb g a e).getD false
def Ylr (g : Y9y) (s : List Ya0) (e : Y9t) : Int := if alw g s e = 0 ∧ e.kind = 8 ∧ Ylq g e.key e = false then 6 else alw g s e
def Yls (g : Y9y) (s : List Ya0) (e : Y9t) : List Ya0 := if Ylr g s e = 0 ∧ e.kind ≤ 6 then putE s e else s

theorem Ylt {g : Y9y} (hu : Up2 g.events) {s : List Ya0} (hs : StOk g.events s) {e : Y9t} (he : e ∈ g.events) : StOk g.events (Yls g s e) := by
 unfold Yls
 split
 ·
  exact hs.put (hu.evAt_mem he)
 ·
  exact hs

structure Ylu (g : Y9y) (ls : Int → List Ya0) (B A : List (Int × List Ya0)) (R : List (Int × Int)) (ah bh : List (List Ya0)) (cd : List Int) (e : Y9t) : Prop where
 ok : StOk g.events (Yl1 g (e.prev.map ls))
 mB : mget B e.id = some (Yl1 g (e.prev.map ls))
 mR : mget R e.id = some (Ylr g (Yl1 g (e.prev.map ls)) e)
 mA : mget A e.id = some (Yls g (Yl1 g (e.prev.map ls)) e)
 ga : getI ah (plc g.events e.id) = some (Yl1 g (e.prev.map ls))
 gc : getI cd (plc g.events e.id) = some (Ylr g (Yl1 g (e.prev.map ls)) e)
 gb : getI bh (plc g.events e.id) = some (Yls g (Yl1 g (e.prev.map ls)) e)

def behI (A : List (Int × List Ya0)) (id : Int) : List Ya0 := Option.getD (mget A id) []

structure Ylv (g : Y9y) : Prop where
 fits : Fits g.events
 ev : ∀ e ∈ g.events, EvOk e
 deep : Deep g.events
theorem GOk.right {g : Y9y} (h : GOk g) : Ylv g := ⟨h.fits, fun e he => (h.ev e he).1, h.deep⟩
theorem Ylv.walk {g : Y9y} (h : Ylv g) : Walk g := ⟨h.fits, h.ev⟩

theorem Ylw {g : Y9y} (h : Ylv g) (a : Int) {e : Y9t} (he : e ∈ g.events) : Z5v g a e.id = some (Ylq g a e) ∧ Zgb g a e = some (Ylq g a e) := by
 obtain ⟨b, h1, h2⟩ := Yla h.walk a he
 unfold Ylq
 rw [h1, h2]
 exact ⟨rfl, rfl⟩

theorem Ylx {α : Type} {l : List α} {k j : Nat} {v : α} (hk : k < l.length) : getI (l.set k v) (j : Int) = if j = k then some v else getI l (j : Int) := by
 have h0 : (0 : Int) ≤ (j : Int) := by omega
 simp only [getI, h0, if_true, Int.toNat_natCast]
 by_cases h : j = k
 ·
  subst h; rw [if_pos rfl, List.getElem?_set_self hk]
 ·
  rw [if_neg h, List.getElem?_set_ne (by omega)]

theorem Zmv {h : Ya4} (hr : Ylv h.graph) (hk : Yl2 h) {e : Y9t} (he : e ∈ h.graph.events) (hpl : ∀ p ∈ e.prev, StOk h.graph.events (behI h.after p)) :
  Zgg h e = some (mset h.before e.id (Yl1 h.graph (e.prev.map (behI h.after))), mset h.after e.id (Yls h.graph (Yl1 h.graph (e.prev.map (behI h.after))) e), mset h.refused e.id (Ylr h.graph (Yl1 h.graph (e.prev.map (behI h.after))) e)) := by
 have hp4 := (hr.ev e he).prev.1
 have hst : Zdn h e.prev = some (e.prev.map (behI h.after)) := by
  unfold Zdn
  have := Yg8 (l := e.prev) (step := fun z : List (List Ya0) × Int => Zdm h e.prev z.1 z.2) (fun q j => (q, j)) (fun q => q) (fun q p => q ++ [behI h.after p]) (fun i q => q.length = i) (by omega) (fun i q hi hq => by
   refine ⟨?_, by simp [hq]⟩
   simp only [Zdm]
   rw [dlt hi, Wu, Yfr hi, Wb, Yj4 (by simp; omega), Wb, Yfs hi (by omega)]; rfl)
   (fun q _ => by simp only [Zdm]; rw [dnlt, Wv]) (s := []) rfl
  have e1 : ∀ (r : List Int) (q : List (List Ya0)), r.foldl (fun q p => q ++ [behI h.after p]) q = q ++ r.map (behI h.after) := by
   intro r
   induction r with
   | nil => intro q; simp
   | cons p r ih => intro q; rw [List.foldl_cons, ih]; simp
  rw [this.1, e1]; rfl
 have hm : Mrg h.graph (e.prev.map (behI h.after)) := ⟨hr.fits, hr.ev, hr.deep, fun s hs => by obtain ⟨p, hp, rfl⟩ := List.mem_map.1 hs; exact hpl p hp, by simp; omega⟩
 obtain ⟨_, c2, c3⟩ := Yl3 hm hk
 unfold Zgg
 rw [hst, Wb, c2, Wb, (Yjy (hm.sts c3) (hr.ev e he).ask).2, Wb, (Ylw hr _ he).2, beqd, beqd]
 have hsl := hm.slen c3
 generalize Yl1 h.graph (e.prev.map (behI h.after)) = s at c3 hsl
 have hid := (hr.ev e he).id.1
 have hput := Yji c3.up (Ya0.mk e.kind e.key e.id) (by simp only; omega) (by omega)
 simp only [Zgf, Zge, Zgd, Wb, hput, Y6h, beqd]
 unfold Yls Ylr putE
 by_cases h1 : alw h.graph s e = 0
 ·
  by_cases h2 : e.kind = 8
  ·
   cases h3 : Ylq h.graph e.key e with
   | false => simp [h1, h2]
   | true => simp [h1, h2]
  ·
   by_cases h4 : e.kind ≤ 6
   ·
    simp [h1, h2, h4]
   ·
    simp [h1, h2, h4]
 ·
  simp [h1]
end Go.Proofs.YtnoknphekhclcaaGreatDoor
namespace Go.Proofs.YtnoknphekhclcaaGreatDoor
open Go Go.Abs

theorem Yly {α β : Type} (f : α → β) : ∀ (r : List α) (q : List β), r.foldl (fun q p => q ++ [f p]) q = q ++ r.map f
 | [], q => by simp
 | p :: r, q => by rw [List.foldl_cons, Yly f r]; simp

theorem Zmw {g : Y9y} (hr : Ylv g) {od : List Int} {ah bh : List (List Ya0)} {cd : List Int} (ls : Int → List Ya0) {i : Nat} (hi : i < od.length) (hil : i < g.events.length) {k : Nat} (hk : k < g.events.length) (hid : od[i] = g.events[k].id)
  (la : ah.length = g.events.length) (lb : bh.length = g.events.length) (lc : cd.length = g.events.length) (hpl : ∀ p ∈ g.events[k].prev, StOk g.events (ls p) ∧ getI bh (plc g.events p) = some (ls p)) :
  Z64 g (Yh8 g.events) od ah bh cd (i : Int) = some (.inl (ah.set k (Yl1 g (g.events[k].prev.map ls)), bh.set k (Yls g (Yl1 g (g.events[k].prev.map ls)) g.events[k]), cd.set k (Ylr g (Yl1 g (g.events[k].prev.map ls)) g.events[k]), ((i + 1 : Nat) : Int))) := by
 have hfl := hr.fits.len
 have he : g.events[k] ∈ g.events := Wm hk
 have hev := hr.ev _ he
 have hp4 := hev.prev.1
 have hplc := (hr.fits.up.plc hk).1
 simp only [Z64]
 rw [dlt hil, Wu, Yfr hi, Wb, hid, Ygo _ _ (by omega), Wb, hplc, Yfr hk, Wb]
 generalize g.events[k] = e at *
 have h7 := Yg8 (l := e.prev) (step := fun z : List (List Ya0) × Int => Z63 g bh e z.1 z.2) (fun q j => (q, j)) (fun q => q) (fun q p => q ++ [ls p]) (fun i q => q.length = i) (by omega) (fun i q hi hq => by
  refine ⟨?_, by simp [hq]⟩
  simp only [Z63]
  rw [dlt hi, Wu, Yfr hi, Wb, Ygo _ _ (by omega), Wb, (hpl _ (Wm hi)).2, Wb, Yj4 (by simp; omega), Wb, Yfs hi (by omega)])
  (fun q _ => by simp only [Z63]; rw [dnlt, Wv]) (s := []) rfl
 rw [h7.1, Yly, Wb, List.nil_append]
 have hm : Mrg g (e.prev.map ls) := ⟨hr.fits, hr.ev, hr.deep, fun s hs => by obtain ⟨p, hp, rfl⟩ := List.mem_map.1 hs; exact (hpl p hp).1, by simp; omega⟩
 -- any history that knows the depths
 have hkn : Yl2 (Ya4.mk g (g.events.map fun e => (e.id, dmR g.events e)) [] [] []) := by
  intro e' he'
  have key : ∀ l : List Y9t, e' ∈ l → mget (l.map fun e => (e.id, dmR g.events e)) e'.id = some (dmR g.events e') := by
   intro l
   induction l with
   | nil => intro h; cases h
   | cons f l ih =>
    intro h
    simp only [List.map_cons, mget]
    by_cases hf : e'.id = f.id
    ·
     rw [if_pos hf]
     unfold dmR
     rw [hf]
    ·
     rw [if_neg hf]
     rcases List.mem_cons.1 h with rfl | h
     ·
      exact absurd rfl hf
     ·
      exact ih h
  exact key _ he'
 obtain ⟨c1, _, c3⟩ := Yl3 (h := Ya4.mk g (g.events.map fun e => (e.id, dmR g.events e)) [] [] []) hm hkn
 simp only at c1 c3
 simp only [Z62]
 rw [c1, Wb, Yfr (by omega : k < ah.length), Wb, Int.toNat_natCast, Ylx (by omega), if_pos rfl, Wb, (Yjy (hm.sts c3) hev.ask).1, Wb, Yfr (by omega : k < cd.length), Wb, Ylx (by omega), if_pos rfl, Wb, (Ylw hr _ he).1, beqd, beqd]
 have hsl := hm.slen c3
 generalize Yl1 g (e.prev.map ls) = s at c3 hsl
 have hput := Yj7 c3.up (Ya0.mk e.kind e.key e.id) (by omega)
 have w1 : IntKind.i64.wrap ((i : Int) + 1) = ((i + 1 : Nat) : Int) := Yfs hil (by omega)
 simp only [Z61, Z60, Z5z, Z5y, Int.toNat_natCast, hput, List.nil_append]
 rw [Yj4 (by simp; omega)]
 have hgb : ∀ v : List Ya0, getI (bh.set k v) (k : Int) = some v := fun v => by rw [Ylx (by omega), if_pos rfl]
 have hgc : ∀ v : Int, getI (cd.set k v) (k : Int) = some v := fun v => by rw [Ylx (by omega), if_pos rfl]
 have hgb0 := Yfr (by omega : k < bh.length)
 simp only [Wb, hgb, hgc, hgb0, w1, List.set_set, beqd]
 unfold Yls Ylr putE
 by_cases h1 : alw g s e = 0
 ·
  by_cases h2 : e.kind = 8
  ·
   cases h3 : Ylq g e.key e with
   | false => simp [h1, h2, hgc]
   | true => simp [h1, h2, hgc]
  ·
   by_cases h4 : e.kind ≤ 6
   ·
    simp [h1, h2, h4, hgc]
   ·
    simp [h1, h2, h4, hgc]
 ·
  simp [h1, hgc]

structure Both (g : Y9y) (h : Ya4) (w : Ya1) : Prop where
 graph : h.graph = g
 depth : Yl2 h
 depths : w.depths = Yh8 g.events
 la : w.ahead.length = g.events.length
 lb : w.behind.length = g.events.length
 lc : w.code.length = g.events.length
 all : ∀ e ∈ g.events, Ylu g (behI h.after) h.before h.after h.refused w.ahead w.behind w.code e

theorem Ylz {A : List (Int × List Ya0)} {id p : Int} {t : List Ya0} (h : p ≠ id) : behI (mset A id t) p = behI A p := by
 unfold behI; rw [Y6g, if_neg h]

theorem Ym0 {g : Y9y} (hr : Ylv g) : ∃ h w, Zgm g = some h ∧ Z66 g = some w ∧ Both g h w := by
 have hfl := hr.fits.len
 obtain ⟨e0, hb⟩ := Yhe hr.fits
 have hol := Yll hr.fits
 -- the depths
 obtain ⟨m, hm1, hm2⟩ : ∃ m, iter (fun z : List (Int × Int) × Int => Zgl g (Yh8 g.events, decide (Yhf (Yh8 g.events) = 0)) z.1 z.2) big ([], 0) = some m ∧ ∀ e ∈ g.events, mget m e.id = some (dmR g.events e) := by
  obtain ⟨o, h1, h2⟩ := Yfp (τ := List (Int × Int) × Int) (ω := List (Int × Int)) (σ := List (Int × Int)) (step := fun z : List (Int × Int) × Int => Zgl g (Yh8 g.events, decide (Yhf (Yh8 g.events) = 0)) z.1 z.2) (n := g.events.length) (fun s j => (s, j))
   (fun i s => ∀ (j : Nat) (hj : j < g.events.length), j < i → mget s g.events[j].id = some (dmR g.events g.events[j])) (fun o => ∀ (j : Nat) (hj : j < g.events.length), mget o g.events[j].id = some (dmR g.events g.events[j])) (by omega) (by
   intro i s hi hI
   have hid : i < (Yh8 g.events).length := by rw [hb.len]; exact hi
   refine ⟨mset s g.events[i].id (Yh8 g.events)[i], ?_, fun j hj hji => ?_⟩
   ·
    simp only [Zgl]
    rw [dlt hi, Wu, Yfr hi, Wb, Yfr hid, Wb, Yfs hi (by omega)]
   ·
    rw [Y6g]
    by_cases he : g.events[j].id = g.events[i].id
    ·
     rw [if_pos he]
     obtain rfl := hr.fits.up.inj hj hi he
     unfold dmR dOf
     rw [(hr.fits.up.plc hj).1, Yfr hid]; rfl
    ·
     rw [if_neg he]
     exact hI j hj (by
      rcases Nat.lt_or_ge j i with h | h
      ·
       exact h
      ·
       obtain rfl : j = i := by omega
       exact absurd rfl he)) (by
   intro s hI
   simp only [Zgl]
   rw [dnlt, Wv]
   exact ⟨s, rfl, fun j hj => hI j hj hj⟩) (s := []) (fun j hj h => by omega)
  refine ⟨o, h1, fun e he => ?_⟩
  obtain ⟨j, hj, rfl⟩ := List.mem_iff_getElem.1 he
  exact h2 j hj
 -- the states
 have hpos : ∀ i, (hi : i < (Yih g.events).length) → ∃ k, ∃ hk : k < g.events.length, (Yih g.events)[i] = g.events[k].id := fun i hi => by
  obtain ⟨e, he, h1⟩ := List.mem_map.1 ((Ylm hr.fits).1 (Wm hi))
  obtain ⟨k, hk, rfl⟩ := List.mem_iff_getElem.1 he
  exact ⟨k, hk, h1.symm⟩
 obtain ⟨⟨B, A, R⟩, ⟨ah, bh, cd⟩, q1, q2, la, lb, lc, hall⟩ := Ylh (step1 := fun z : List (Int × List Ya0) × List (Int × List Ya0) × List (Int × Int) × Int => Zgj g m (Yih g.events) z.1 z.2.1 z.2.2.1 z.2.2.2) (step2 := fun z : List (List Ya0) × List (List Ya0) × List Int × Int => Z64 g (Yh8 g.events) (Yih g.events) z.1 z.2.1 z.2.2.1 z.2.2.2) (n := g.events.length)
  (fun (s : List (Int × List Ya0) × List (Int × List Ya0) × List (Int × Int)) j => (s.1, s.2.1, s.2.2, j)) (fun (s : List (List Ya0) × List (List Ya0) × List Int) j => (s.1, s.2.1, s.2.2, j))
  (fun i s t => t.1.length = g.events.length ∧ t.2.1.length = g.events.length ∧ t.2.2.length = g.events.length ∧ ∀ e ∈ g.events, e.id ∈ (Yih g.events).take i → Ylu g (behI s.2.1) s.1 s.2.1 s.2.2 t.1 t.2.1 t.2.2 e)
  (fun (s : List (Int × List Ya0) × List (Int × List Ya0) × List (Int × Int)) (t : List (List Ya0) × List (List Ya0) × List Int) => t.1.length = g.events.length ∧ t.2.1.length = g.events.length ∧ t.2.2.length = g.events.length ∧ ∀ e ∈ g.events, Ylu g (behI s.2.1) s.1 s.2.1 s.2.2 t.1 t.2.1 t.2.2 e) (by omega) (by
  rintro i ⟨B, A, R⟩ ⟨ah, bh, cd⟩ hi ⟨la, lb, lc, hI⟩
  simp only at la lb lc hI ⊢
  have hio : i < (Yih g.events).length := by omega
  obtain ⟨k, hk, hid⟩ := hpos i hio
  have he : g.events[k] ∈ g.events := Wm hk
  have hevat : evAt g.events (Yih g.events)[i] = some g.events[k] := by rw [hid]; exact (hr.fits.up.plc hk).2
  have hprev : ∀ p ∈ g.events[k].prev, ∃ f ∈ g.events, f.id = p ∧ p ∈ (Yih g.events).take i := fun p hp => by
   obtain ⟨f, hf, hfid⟩ := Ygu.1 (hr.fits.whole _ he p hp)
   exact ⟨f, hf, hfid, Ylp hr.fits hr.deep hio hevat hp⟩
  have hknow : ∀ p ∈ g.events[k].prev, StOk g.events (behI A p) ∧ getI bh (plc g.events p) = some (behI A p) := fun p hp => by
   obtain ⟨f, hf, hfid, ht⟩ := hprev p hp
   subst hfid
   have hk := hI f hf ht
   have e1 : behI A f.id = Yls g (Yl1 g (f.prev.map (behI A))) f := by
    show Option.getD (mget A f.id) [] = _
    rw [hk.mA]; rfl
   rw [e1]
   exact ⟨Ylt hr.fits.up hk.ok hf, hk.gb⟩
  have hks : Yl2 (Ya4.mk g m B A R) := hm2
  have s1 := Zmv (h := Ya4.mk g m B A R) hr hks he (fun p hp => (hknow p hp).1)
  have s2 := Zmw hr (od := Yih g.events) (ah := ah) (bh := bh) (cd := cd) (behI A) hio hi hk hid la lb lc hknow
  have hm : Mrg g (g.events[k].prev.map (behI A)) := ⟨hr.fits, hr.ev, hr.deep, fun s hs => by obtain ⟨p, hp, rfl⟩ := List.mem_map.1 hs; exact (hknow p hp).1, by have := (hr.ev _ he).prev.1; simp; omega⟩
  have hsok := (Yl3 (h := Ya4.mk g m B A R) hm hks).2.2
  simp only at s1 hsok
  refine ⟨(mset B g.events[k].id (Yl1 g (g.events[k].prev.map (behI A))), mset A g.events[k].id (Yls g (Yl1 g (g.events[k].prev.map (behI A))) g.events[k]), mset R g.events[k].id (Ylr g (Yl1 g (g.events[k].prev.map (behI A))) g.events[k])), (ah.set k (Yl1 g (g.events[k].prev.map (behI A))), bh.set k (Yls g (Yl1 g (g.events[k].prev.map (behI A))) g.events[k]), cd.set k (Ylr g (Yl1 g (g.events[k].prev.map (behI A))) g.events[k])), ?_, s2, by simp [la], by simp [lb], by simp [lc], ?_⟩
  ·
   simp only [Zgj]
   rw [dlt hio, Wu, Yfr hio, Wb, c_at _ _ hr.fits.up (by omega), hevat, Wb]
   simp only [Option.getD_some]
   rw [s1, Wb, Yfs hio (by omega)]
  ·
   intro e hem het
   have hself : ∀ p ∈ g.events[k].prev, p ≠ g.events[k].id := fun p hp => ((hr.ev _ he).prev.2.1 p hp).2.2
   have hpk := (hr.fits.up.plc hk).1
   by_cases hek : e = g.events[k]
   ·
    subst hek
    have e1 : g.events[k].prev.map (behI (mset A g.events[k].id (Yls g (Yl1 g (g.events[k].prev.map (behI A))) g.events[k]))) = g.events[k].prev.map (behI A) := List.map_congr_left fun p hp => Ylz (hself p hp)
    refine ⟨?_, ?_, ?_, ?_, ?_, ?_, ?_⟩
    ·
     simp only [e1]; exact hsok
    ·
     simp only [e1]; rw [Y6g, if_pos rfl]
    ·
     simp only [e1]; rw [Y6g, if_pos rfl]
    ·
     simp only [e1]; rw [Y6g, if_pos rfl]
    ·
     simp only [e1]; rw [hpk, Ylx (by omega), if_pos rfl]
    ·
     simp only [e1]; rw [hpk, Ylx (by omega), if_pos rfl]
    ·
     simp only [e1]; rw [hpk, Ylx (by omega), if_pos rfl]
   ·
    have hne : e.id ≠ g.events[k].id := fun h => hek (by
     obtain ⟨j, hj, rfl⟩ := List.mem_iff_getElem.1 hem
     obtain rfl := hr.fits.up.inj hj hk h
     rfl)
    have het' : e.id ∈ (Yih g.events).take i := by
     rw [List.take_add_one, We hio, hid] at het
     rcases List.mem_append.1 het with h | h
     ·
      exact h
     ·
      simp at h; exact absurd h hne
    obtain ⟨j, hj, hji, hje⟩ := Yhw het'
    have hpn : ∀ p ∈ e.prev, p ≠ g.events[k].id := fun p hp hpe => by
     have h1 := Ylp hr.fits hr.deep hj (e := e) (by rw [hje]; exact hr.fits.up.evAt_mem hem) hp
     obtain ⟨u, hu, huj, hue⟩ := Yhw h1
     have : u = i := by
      have hnd := Yln hr.fits
      exact (List.getElem_inj (h₀ := hu) (h₁ := hio) hnd).1 (by rw [hue, hpe, hid])
     omega
    have e1 : e.prev.map (behI (mset A g.events[k].id (Yls g (Yl1 g (g.events[k].prev.map (behI A))) g.events[k]))) = e.prev.map (behI A) := List.map_congr_left fun p hp => Ylz (hpn p hp)
    have hK := hI e hem het'
    obtain ⟨ke, hke, hkp, _, _⟩ := Ygr (Ygt hem)
    have hkk : ke ≠ k := fun h => by
     subst h
     have := hr.fits.up.plc hke
     obtain ⟨j2, hj2, hje2⟩ := List.mem_iff_getElem.1 hem
     have h3 := (hr.fits.up.plc hj2).1
     rw [hje2, hkp] at h3
     have : j2 = ke := by omega
     subst this
     exact hek hje2.symm
    refine ⟨?_, ?_, ?_, ?_, ?_, ?_, ?_⟩
    ·
     simp only [e1]; exact hK.ok
    ·
     simp only [e1]; rw [Y6g, if_neg hne]; exact hK.mB
    ·
     simp only [e1]; rw [Y6g, if_neg hne]; exact hK.mR
    ·
     simp only [e1]; rw [Y6g, if_neg hne]; exact hK.mA
    ·
     simp only [e1]; rw [hkp, Ylx (by omega), if_neg hkk, ← hkp]; exact hK.ga
    ·
     simp only [e1]; rw [hkp, Ylx (by omega), if_neg hkk, ← hkp]; exact hK.gc
    ·
     simp only [e1]; rw [hkp, Ylx (by omega), if_neg hkk, ← hkp]; exact hK.gb) (by
  rintro ⟨B, A, R⟩ ⟨ah, bh, cd⟩ ⟨la, lb, lc, hI⟩
  simp only at la lb lc hI
  refine ⟨(B, A, R), (ah, bh, cd), ?_, ?_, la, lb, lc, fun e he => hI e he ?_⟩
  ·
   simp only [Zgj]
   rw [hol, dnlt, Wv]
  ·
   simp only [Z64]
   rw [dnlt, Wv]
  ·
   rw [List.take_of_length_le (by omega)]
   exact (Ylm hr.fits).2 (List.mem_map.2 ⟨e, he, rfl⟩)) (s := ([], [], [])) (t := (List.replicate g.events.length [], List.replicate g.events.length [], List.replicate g.events.length 0)) ⟨by simp, by simp, by simp, fun e _ h => by simp at h⟩
 simp only at q1 q2 la lb lc hall
 refine ⟨Ya4.mk g m B A R, Ya1.mk (Yh8 g.events) ah bh cd, ?_, ?_, rfl, hm2, rfl, la, lb, lc, hall⟩
 ·
  unfold Zgm
  rw [Yhl hr.fits, Wb, hm1, Wb]
  simp only [Zgk, Zgi]
  rw [Yil hr.fits, Wb, q1]; rfl
 ·
  unfold Z66
  rw [e0, Wb, Y4x (Wt ⟨by omega, by omega⟩), Wb, Wb, Y4x (Wt ⟨by omega, by omega⟩), Wb]
  simp only [Z65, Z5x, Int.toNat_natCast]
  rw [Yit hr.fits hr.deep, Wb, q2]; rfl
end Go.Proofs.YtnoknphekhclcaaGreatDoor
namespace Go.Proofs.YtnoknphekhclcaaGreatDoor
open Go Go.Abs

def refB (h : Ya4) (id : Int) : Bool := decide (Option.getD (mget h.refused id) 0 = 0)

theorem Both.code {g : Y9y} {h : Ya4} {w : Ya1} (hb : Both g h w) {e : Y9t} (he : e ∈ g.events) : ∃ c, getI w.code (plc g.events e.id) = some c ∧ Option.getD (mget h.refused e.id) 0 = c := by
 have hk := hb.all e he
 exact ⟨_, hk.gc, by rw [hk.mR]; rfl⟩
theorem Both.behind {g : Y9y} {h : Ya4} {w : Ya1} (hb : Both g h w) (hr : Ylv g) {e : Y9t} (he : e ∈ g.events) : getI w.behind (plc g.events e.id) = some (behI h.after e.id) ∧ StOk g.events (behI h.after e.id) := by
 have hk := hb.all e he
 have e1 : behI h.after e.id = Yls g (Yl1 g (e.prev.map (behI h.after))) e := by
  show Option.getD (mget h.after e.id) [] = _
  rw [hk.mA]; rfl
 rw [e1]
 exact ⟨hk.gb, Ylt hr.fits.up hk.ok he⟩
theorem Both.ahead {g : Y9y} {h : Ya4} {w : Ya1} (hb : Both g h w) {e : Y9t} (he : e ∈ g.events) : getI w.ahead (plc g.events e.id) = some (behI h.before e.id) ∧ StOk g.events (behI h.before e.id) := by
 have hk := hb.all e he
 have e1 : behI h.before e.id = Yl1 g (e.prev.map (behI h.after)) := by
  show Option.getD (mget h.before e.id) [] = _
  rw [hk.mB]; rfl
 rw [e1]
 exact ⟨hk.ga, hk.ok⟩

theorem Ylv.sts {g : Y9y} (hr : Ylv g) {s : List Ya0} (hs : StOk g.events s) : Sts g s := (Mrg.mk (ls := []) hr.fits hr.ev hr.deep (fun s hs => by cases hs) (by simp)).sts hs

end Go.Proofs.YtnoknphekhclcaaGreatDoor
namespace Go.Proofs.YtnoknphekhclcaaGreatDoor
open Go Go.Abs


theorem Ym1 (p : List Int) (n : Int) (hp : p.length ≤ maxLen) (h0 : 0 ≤ n) (hn : n ≤ 1048576) : ∃ r, Z1 p n = some r ∧ ((0 ≤ r ∧ r ≤ n ∧ p.length ≤ 1048576) ∨ r = -1) := by
 simp only [maxLen] at hp
 unfold Z1
 rw [Y4w (by omega) (by omega)]
 by_cases h : n - (p.length : Int) < 0
 ·
  rw [Wt h]; exact ⟨_, rfl, .inr rfl⟩
 ·
  rw [Wf h]; exact ⟨_, rfl, .inl ⟨by omega, by omega, by omega⟩⟩

structure EvIn (e : Y9t) : Prop where
 text : e.text.size ≤ maxLen
 prev : e.prev.length ≤ maxLen

theorem Ym2 (e : Y9t) (n : Int) (he : EvIn e) (h0 : 0 ≤ n) (hn : n ≤ 1048576) : ∃ r, Z3 e n = some r ∧ ((0 ≤ r ∧ r ≤ n ∧ e.prev.length ≤ 1048576 ∧ e.text.size ≤ 1048576) ∨ r = -1) := by
 have ht := he.text
 simp only [maxLen] at ht
 unfold Z3
 rw [Y4w (by omega) (by omega)]
 by_cases h : n - (e.text.size : Int) < 0
 ·
  rw [Wt h]; exact ⟨_, rfl, .inr rfl⟩
 ·
  rw [Wf h, Wv]
  obtain ⟨r, h1, h2⟩ := Ym1 e.prev (n - (e.text.size : Int)) he.prev (by omega) (by omega)
  rw [h1, Wb]
  rcases h2 with ⟨h2, h3, h4⟩ | rfl
  ·
   rw [Wf (by omega)]; exact ⟨_, rfl, .inl ⟨h2, by omega, h4, by omega⟩⟩
  ·
   exact ⟨_, rfl, .inr rfl⟩

def Ym3 (l : List Y9t) : Prop := l.length ≤ 1048576 ∧ ∀ e ∈ l, e.prev.length ≤ 1048576 ∧ e.text.size ≤ 1048576

theorem Ym4 (p : List Y9t) (n : Int) (hl : p.length ≤ maxLen) (hp : ∀ e ∈ p, EvIn e) (h0 : 0 ≤ n) (hn : n ≤ 1048576) : ∃ r, Z7 p n = some r ∧ ((0 ≤ r ∧ r + p.length ≤ n ∧ Ym3 p) ∨ r = -1) := by
 simp only [maxLen] at hl
 unfold Z7
 rw [Y4w (by omega) (by omega)]
 by_cases h : n - (p.length : Int) < 0
 ·
  rw [Wt h]; exact ⟨_, rfl, .inr rfl⟩
 ·
  rw [Wf h, Wv]
  obtain ⟨o, h1, h2⟩ := Yfq (τ := Int × Int) (ω := Int ⊕ Int) (σ := Int) (step := fun z : Int × Int => Z6 p z.1 z.2) (n := p.length) (fun s j => (s, j))
   (fun i s => 0 ≤ s ∧ s + p.length ≤ n ∧ ∀ (j : Nat) (hj : j < p.length), j < i → p[j].prev.length ≤ 1048576 ∧ p[j].text.size ≤ 1048576) (fun o => o = .inl (-1) ∨ ∃ r, o = .inr r ∧ 0 ≤ r ∧ r + p.length ≤ n ∧ Ym3 p) (by omega) (by
   rintro i s hi ⟨hs0, hsn, hI⟩
   obtain ⟨r, e1, e2⟩ := Ym2 p[i] s (hp _ (Wm hi)) hs0 (by omega)
   simp only [Z6]
   rw [dlt hi, Wu, Yfr hi, Wb, e1, Wb, Yfs hi (by omega)]
   rcases e2 with ⟨e2, e3, e4⟩ | rfl
   ·
    rw [Wf (by omega), Wv]
    refine .inl ⟨r, rfl, e2, by omega, fun j hj hji => ?_⟩
    rcases Nat.lt_or_ge j i with h | h
    ·
     exact hI j hj h
    ·
     obtain rfl : j = i := by omega
     exact e4
   ·
    exact .inr ⟨_, rfl, .inl rfl⟩) (by
   rintro s ⟨hs0, hsn, hI⟩
   simp only [Z6]
   rw [dnlt, Wv]
   refine ⟨_, rfl, .inr ⟨s, rfl, hs0, hsn, by omega, fun e he => ?_⟩⟩
   obtain ⟨j, hj, rfl⟩ := List.mem_iff_getElem.1 he
   exact hI j hj hj) (s := n - (p.length : Int)) ⟨by omega, by omega, fun j hj h => by omega⟩
  rw [h1, Wb]
  rcases h2 with rfl | ⟨r, rfl, h3⟩
  ·
   exact ⟨_, rfl, .inr rfl⟩
  ·
   exact ⟨_, rfl, .inl h3⟩

structure GIn (g : Y9u) : Prop where
 el : g.events.length ≤ maxLen
 pl : g.parked.length ≤ maxLen
 ev : ∀ e ∈ g.events, EvIn e
 pv : ∀ e ∈ g.parked, EvIn e

theorem Ym5 (g : Y9u) (n : Int) (hg : GIn g) (h0 : 0 ≤ n) (hn : n ≤ 1048576) : ∃ r, Z9 g n = some r ∧ ((0 ≤ r ∧ r + (g.events.length + g.parked.length : Nat) ≤ n ∧ Ym3 g.events ∧ Ym3 g.parked) ∨ r = -1) := by
 unfold Z9
 obtain ⟨r, h1, h2⟩ := Ym4 g.events n hg.el hg.ev h0 hn
 rw [h1, Wb]
 rcases h2 with ⟨h2, h3, h4⟩ | rfl
 ·
  rw [Wf (by omega), Wv]
  obtain ⟨r', h5, h6⟩ := Ym4 g.parked r hg.pl hg.pv h2 (by omega)
  rw [h5, Wb]
  rcases h6 with ⟨h6, h7, h8⟩ | rfl
  ·
   rw [Wf (by omega)]; exact ⟨_, rfl, .inl ⟨h6, by omega, h4, h8⟩⟩
  ·
   exact ⟨_, rfl, .inr rfl⟩
 ·
  exact ⟨_, rfl, .inr rfl⟩


theorem Ym6 {α β : Type} {xs : List α} {z : β} (f : α → β) {step : List β × Int → Option ((List β × Int) ⊕ List β)} (hl : xs.length < 9223372036854775807)
  (h1 : ∀ (i : Nat) (s : List β) (hi : i < xs.length), s.length = xs.length → step (s, (i : Int)) = some (.inl (s.set i (f xs[i]), ((i + 1 : Nat) : Int)))) (h2 : ∀ s : List β, step (s, (xs.length : Int)) = some (.inr s)) :
  iter step big (List.replicate xs.length z, 0) = some (xs.map f) := by
 obtain ⟨o, e1, rfl⟩ := Yfp (τ := List β × Int) (ω := List β) (σ := List β) (step := step) (n := xs.length) (fun s j => (s, j)) (fun i s => s = (xs.take i).map f ++ List.replicate (xs.length - i) z) (fun o => o = xs.map f) hl (by
  rintro i s hi rfl
  refine ⟨_, h1 i _ hi (by simp; omega), ?_⟩
  have e0 : List.replicate (xs.length - i) z = z :: List.replicate (xs.length - (i + 1)) z := by
   rw [show xs.length - i = (xs.length - (i + 1)) + 1 by omega, List.replicate_succ]
  have e1 : xs.take (i + 1) = xs.take i ++ [xs[i]] := by rw [List.take_add_one, We hi]; rfl
  rw [e0, Yhn (X := (xs.take i).map f) (u := z) (Y := List.replicate (xs.length - (i + 1)) z) rfl (by simp; omega), e1, List.map_append, List.append_assoc]
  rfl) (by
  rintro s rfl
  exact ⟨_, h2 _, by simp⟩) (s := List.replicate xs.length z) (by simp)
 exact e1

theorem Ym7 (p : List Int) (hp : p.length ≤ 1048576) : Zt p = some p := by
 unfold Zt
 rw [Y4x (Wt ⟨by omega, by omega⟩), Wb, Int.toNat_natCast]
 rw [Ym6 (xs := p) (fun x => x) (by omega) (fun i s hi hs => by
  simp only [Zs]
  rw [dlt hi, Wu, Yfr hi, Wb, Yfr (by omega : i < s.length), Wb, Yfs hi (by omega), Int.toNat_natCast]) (fun s => by simp only [Zs]; rw [dnlt, Wv])]
 simp [Zr]

theorem Ym8 (e : Y9t) (hp : e.prev.length ≤ 1048576) : Zv e = some e := by
 unfold Zv
 rw [Ym7 _ hp]; rfl

theorem Ym9 (p : List Y9t) (hp : Ym3 p) : Zz p = some p := by
 have hl := hp.1
 unfold Zz
 rw [Y4x (Wt ⟨by omega, by omega⟩), Wb, Int.toNat_natCast]
 rw [Ym6 (xs := p) (fun x => x) (by omega) (fun i s hi hs => by
  simp only [Zy]
  rw [dlt hi, Wu, Yfr hi, Wb, Ym8 _ (hp.2 _ (Wm hi)).1, Wb, Yfr (by omega : i < s.length), Wb, Yfs hi (by omega), Int.toNat_natCast]) (fun s => by simp only [Zy]; rw [dnlt, Wv])]
 simp [Zx]

def toG (g : Y9u) : Y9y := Y9y.mk g.room g.events g.parked
theorem Yma (g : Y9u) (he : Ym3 g.events) (hp : Ym3 g.parked) : Z12 g = some (toG g) := by
 unfold Z12
 rw [Ym9 _ he, Wb, Ym9 _ hp]; rfl

theorem Ymb {g : Y9u} (he : Ym3 g.events) (hp : Ym3 g.parked) : Fine (toG g) := ⟨he.1, hp.1, fun e h => (he.2 e h).1, fun e h => (hp.2 e h).1⟩


theorem Ymc (p : List Int) (hp : p.length ≤ 1048576) : Zln p p = some true := by
 unfold Zln
 rw [bned, Wt rfl]
 simp only [Bool.not_true, Wv]
 rw [Yg7 (l := p) (fun _ => true) (.inl false) (.inr ()) (by omega) (fun i hi => by
  simp only [Zlm]
  rw [dlt hi, Wu, Yfr hi, Wb, Wb, bned, Wt rfl, Yfs hi (by omega)]; rfl) (by simp only [Zlm]; rw [dnlt, Wv])]
 rw [show (p.all fun _ => true) = true by simp]; rfl

theorem Ymd (e : Y9t) (hp : e.prev.length ≤ 1048576) : Zlp e e = some true := by
 unfold Zlp
 rw [Ymc _ hp]
 simp

theorem Yme (p : List Y9t) (hp : Ym3 p) : Zlt p p = some true := by
 have hl := hp.1
 unfold Zlt
 rw [bned, Wt rfl]
 simp only [Bool.not_true, Wv]
 rw [Yg7 (l := p) (fun _ => true) (.inl false) (.inr ()) (by omega) (fun i hi => by
  simp only [Zls]
  rw [dlt hi, Wu, Yfr hi, Wb, Wb, Ymd _ (hp.2 _ (Wm hi)).1, Wb, Yfs hi (by omega)]; rfl) (by simp only [Zls]; rw [dnlt, Wv])]
 rw [show (p.all fun _ => true) = true by simp]; rfl

theorem Ymf (g : Y9y) (he : Ym3 g.events) (hp : Ym3 g.parked) : Zlv g g = some true := by
 unfold Zlv
 rw [Yme _ he, Yme _ hp]
 simp


end Go.Proofs.YtnoknphekhclcaaGreatDoor
namespace Go.Proofs.YtnoknphekhclcaaGreatDoor
open Go Go.Abs


def accT (l : List Y9t) (T : Int → Bool) : List Int := (l.map (·.id)).filter T
def endT (l : List Y9t) (T : Int → Bool) (x : Int) : Bool := (accT l T).all fun id => !decide (x ∈ (evD l id).prev)
def endsT (l : List Y9t) (T : Int → Bool) : List Int := (accT l T).filter (endT l T)

theorem Ymg {l : List Y9t} (h : Up2 l) : UpI (l.map (·.id)) := by
 show (l.map (·.id)).Pairwise (· < ·)
 rw [List.pairwise_map]; exact h

theorem Ymh {h : Ya4} (hr : Ylv h.graph) : Zgr h = some (accT h.graph.events (refB h)) := by
 have hfl := hr.fits.len
 unfold Zgr
 have := Yg8 (l := h.graph.events) (step := fun z : List Int × Int => Zgq h z.1 z.2) (fun q j => (q, j)) (fun q => q) (fun q e => if refB h e.id = true then q ++ [e.id] else q) (fun i q => q.length ≤ i) (by omega) (fun i q hi hq => by
  refine ⟨?_, by split <;> first | omega | (rw [List.length_append, List.length_singleton]; omega)⟩
  simp only [Zgq, Zgp]
  rw [dlt hi, Wu, Yfr hi, Wb, Yfs hi (by omega), chk8 (by simp; omega), beqd]
  unfold refB
  by_cases hc : Option.getD (mget h.refused h.graph.events[i].id) 0 = 0
  ·
   rw [Wt hc]; rfl
  ·
   rw [Wf hc]; rfl)
  (fun q _ => by simp only [Zgq]; rw [dnlt, Wv]) (s := []) (by simp)
 rw [this.1, Wb]
 have key : ∀ (l : List Y9t) (q : List Int), l.foldl (fun q e => if refB h e.id = true then q ++ [e.id] else q) q = q ++ (l.map (·.id)).filter (refB h) := by
  intro l
  induction l with
  | nil => intro q; simp
  | cons e l ih =>
   intro q
   rw [List.foldl_cons, ih]
   cases hc : refB h e.id with
   | true => rw [if_pos rfl, List.map_cons, List.filter_cons_of_pos hc]; simp
   | false => rw [if_neg (by simp), List.map_cons, List.filter_cons_of_neg (by simp [hc])]
 rw [key]; rfl

theorem Ymi {l : List Int} (hl : UpI l) (hn : l.length < 1000000) : Zii l = some l := by
 unfold Zii
 by_cases h2 : (l.length : Int) < 2
 ·
  rw [Wt h2]; rfl
 ·
  rw [Wf h2, Wv, Y50 (o := .inr ()) (fun m (x : Int) => ∃ i : Nat, x = i ∧ 1 ≤ i ∧ i ≤ l.length ∧ m = l.length - i) ?_ (m := l.length - 1) (x := 1) ⟨1, rfl, by omega, by omega, rfl⟩ (Yfm (by omega))]
  ·
   rfl
  ·
   rintro m x ⟨i, rfl, h1, hi, rfl⟩
   simp only [Zih]
   by_cases hil : i < l.length
   ·
    right
    have hm : i - 1 < l.length := by omega
    have := List.pairwise_iff_getElem.1 hl (i - 1) i hm hil (by omega)
    rw [dlt hil, Wu, Yfr hil, Wb, Yft (by omega) (by omega), Yfr hm, Wb, beqd, Wf (by omega), Wv, Yfs hil (by omega)]
    exact ⟨_, l.length - (i + 1), rfl, by omega, i + 1, rfl, by omega, by omega, rfl⟩
   ·
    left
    obtain rfl : i = l.length := by omega
    rw [dnlt, Wv]

theorem Zmx {l ids : List Int} (hl : UpI l) (hn : ids.Nodup) (hm : ∀ x, x ∈ ids ↔ x ∈ l) : List.mergeSort ids (fun x y => decide (x ≤ y)) = l := by
 have hp : ids.Perm l := (List.perm_ext_iff_of_nodup hn (hl.imp fun {a b} h => by omega)).2 hm
 exact List.Perm.eq_of_pairwise (le := fun a b => decide (a ≤ b) = true) (fun a b _ _ h1 h2 => by simp at h1 h2; omega) (List.pairwise_mergeSort (fun a b c h1 h2 => by simp at h1 h2 ⊢; omega) (fun a b => by simp; omega) ids) (hl.imp fun {a b} h => by simp; omega) ((List.mergeSort_perm ids _).trans hp)

theorem Ymj {l ids : List Int} (hl : UpI l) (hn : ids.Nodup) (hm : ∀ x, x ∈ ids ↔ x ∈ l) (hlen : l.length < 1000000) : Zil ids = some l := by
 have hpl : ids.length = l.length := ((List.perm_ext_iff_of_nodup hn (hl.imp fun {a b} h => by omega)).2 hm).length_eq
 unfold Zil
 rw [Y4x (Wt (by omega)), Wb, Zmx hl hn hm, Ymi hl hlen]; rfl

theorem Ymk (e : Y9t) (l : List Int) (hl : l.length < 1000000) (he : e.prev.length < 1000000) : Ziw l e = some (l.filter fun x => !decide (x ∈ e.prev)) := by
 have hc : ∀ x, Zin x e = some (decide (x ∈ e.prev)) := fun x => by unfold Zin; rw [Ygd _ _ (by omega)]; rfl
 unfold Ziw Zir
 rw [Yga (Yg5 (l := l) (step := Ziq l e) (fun x => decide (x ∈ e.prev)) (by omega) (fun i hi => by
  simp only [Ziq]
  rw [dlt hi, Wu, Yfr hi, Wb, hc, Wb, Yfs hi (by omega)]
  cases decide (l[i] ∈ e.prev) <;> rfl) (by simp only [Ziq]; rw [dnlt, Wv])) (fun _ => rfl) rfl, Wb]
 unfold idxP
 cases hf : l.findIdx? (fun x => decide (x ∈ e.prev)) with
 | none =>
  rw [List.findIdx?_eq_none_iff] at hf
  rw [beqd, Wt rfl, Wu]
  exact congrArg some (List.filter_eq_self.2 fun x hx => by simp [hf x hx]).symm
 | some k =>
  obtain ⟨hk, hkp, hkn⟩ := List.findIdx?_eq_some_iff_getElem.1 hf
  simp only
  rw [beqd, Wf (by omega), Wv, Yfs hk (by omega)]
  -- the rest
  have hpre : (l.take k).filter (fun x => !decide (x ∈ e.prev)) = l.take k := List.filter_eq_self.2 fun x hx => by
   obtain ⟨j, hj, hjk, rfl⟩ := Yhw hx
   have := hkn j hjk
   simpa using this
  obtain ⟨⟨o1, o2⟩, e1, w, hw1, hw2, hw3, hw4⟩ := Y4z (step := fun z : List Int × Int × Int => Ziv e z.1 z.2.1 z.2.2) (p := fun o : List Int × Int => ∃ w : Nat, o.2 = (w : Int) ∧ w ≤ l.length ∧ o.1.length = l.length ∧ o.1.take w = l.filter fun x => !decide (x ∈ e.prev))
   (fun m (z : List Int × Int × Int) => ∃ (w i : Nat), z.2.1 = (w : Int) ∧ z.2.2 = (i : Int) ∧ w < i ∧ i ≤ l.length ∧ z.1.length = l.length ∧ z.1.take w = (l.take i).filter (fun x => !decide (x ∈ e.prev)) ∧ z.1.drop i = l.drop i ∧ m = l.length - i) (by
   rintro m ⟨q, x, y⟩ ⟨w, i, hx, hy, hwi, hi, hq, ht, hd, rfl⟩
   simp only at hx hy hq ht hd
   subst hx hy
   simp only [Ziv, Ziu]
   by_cases hil : i < l.length
   ·
    right
    have hiq : i < q.length := by omega
    have hwq : w < q.length := by omega
    have hqi : q[i] = l[i] := by
     have h1 : (q.drop i)[0]? = (l.drop i)[0]? := by rw [hd]
     simpa [hiq, hil] using h1
    have etk : l.take (i + 1) = l.take i ++ [l[i]] := by rw [List.take_add_one, We hil]; rfl
    rw [dlt hiq, Wu, Yfr hiq, Wb, hc, Wb, hqi, Yfr hwq, Yfs hiq (by omega)]
    have hd' : ∀ v : Int, (q.set w v).drop (i + 1) = l.drop (i + 1) := fun v => by
     rw [List.drop_set_of_lt (by omega)]
     have := congrArg (List.drop 1) hd
     rwa [List.drop_drop, List.drop_drop] at this
    by_cases hp : l[i] ∈ e.prev
    ·
     rw [Wt hp, Wu]
     refine ⟨_, l.length - (i + 1), rfl, by omega, w, i + 1, rfl, rfl, by omega, by omega, hq, ?_, ?_, rfl⟩
     ·
      rw [etk, List.filter_append, List.filter_cons_of_neg (by simp [hp]), List.filter_nil, List.append_nil]; exact ht
     ·
      have := congrArg (List.drop 1) hd
      rwa [List.drop_drop, List.drop_drop] at this
    ·
     rw [Wf hp, Wv, Wb, Int.toNat_natCast, Yfs hwq (by omega)]
     refine ⟨_, l.length - (i + 1), rfl, by omega, w + 1, i + 1, rfl, rfl, by omega, by omega, by simp [hq], ?_, hd' _, rfl⟩
     simp only
     rw [etk, List.filter_append, List.filter_cons_of_pos (by simp [hp]), List.filter_nil, ← ht, List.take_add_one, List.getElem?_set_self hwq]
     rw [List.take_set_of_le (Nat.le_refl _)]; rfl
   ·
    left
    obtain rfl : i = l.length := by omega
    rw [Wf (by omega), Wv]
    refine ⟨_, rfl, w, rfl, by omega, hq, ?_⟩
    rw [List.take_length] at ht
    exact ht) big (l.length - (k + 1)) (l, (k : Int), ((k + 1 : Nat) : Int)) ⟨k, k + 1, rfl, rfl, by omega, by omega, rfl, by
    rw [List.take_add_one, We hk, List.filter_append, hpre]
    simp at hkp
    simp [hkp], rfl, rfl⟩ (Yfm (by omega))
  rw [e1, Wb]
  simp only at hw1 hw2 hw3 hw4
  subst hw1
  simp only [Zit, Int.toNat_natCast]
  rw [Y4x (Wt (by omega)), Wb, Y4x (Wt (by omega)), Wb, Y4x (Wt (by simp; omega)), Wb]
  congr 1
  rw [← hw4, List.take_append_of_le_length (by simp; omega), List.take_take, Nat.min_self]

theorem Yml {l : List Y9t} (hf : Fits l) (T : Int → Bool) : UpI (accT l T) := (Ymg hf.up).filter _
theorem Ymm {l : List Y9t} (hf : Fits l) (T : Int → Bool) : (accT l T).length ≤ 60 := by
 have := List.length_filter_le T (l.map (·.id))
 rw [List.length_map] at this
 have := hf.len
 unfold accT; omega
theorem Ymn {l : List Y9t} {T : Int → Bool} {id : Int} (hi : id ∈ endsT l T) : id ∈ l.map (·.id) := (List.mem_filter.1 (List.mem_filter.1 hi).1).1
theorem Ymo {l : List Y9t} (hf : Fits l) (T : Int → Bool) : (endsT l T).length ≤ 60 := Nat.le_trans (List.length_filter_le _ _) (Ymm hf T)

theorem Ymp {h : Ya4} (hr : Ylv h.graph) {ids : List Int} {T : Int → Bool} (hn : ids.Nodup) (hm : ∀ x, x ∈ ids ↔ x ∈ accT h.graph.events T) : Zj1 h ids = some (endsT h.graph.events T) := by
 have hfl := hr.fits.len
 have hup := Yml hr.fits T
 have hal := Ymm hr.fits T
 have hil : ids.length = (accT h.graph.events T).length := ((List.perm_ext_iff_of_nodup hn (hup.imp fun {a b} h => by omega)).2 hm).length_eq
 unfold Zj1
 have hcl : Zg5 ids = some ids := by unfold Zg5; rw [chk8 (by omega)]; rfl
 rw [hcl, Wb, Ymj hup hn hm (by omega), Wb]
 have := Yg8 (l := ids) (step := fun z : List Int × Int => Zj0 h ids z.1 z.2) (fun q j => (q, j)) (fun q => q) (fun q id => q.filter fun x => !decide (x ∈ (evD h.graph.events id).prev)) (fun _ q => q.length ≤ 60) (by omega) (fun i q hi hq => by
  refine ⟨?_, Nat.le_trans (List.length_filter_le _ _) hq⟩
  have hmi : ids[i] ∈ h.graph.events.map (·.id) := (List.mem_filter.1 ((hm _).1 (Wm hi))).1
  have hp := (hr.walk.prev hmi).1
  simp only [Zj0]
  rw [dlt hi, Wu, Yfr hi, Wb, c_at _ _ hr.fits.up (by omega), Wb]
  show (Ziw q (evD h.graph.events ids[i])).bind _ = _
  rw [Ymk _ _ (by omega) (by omega), Wb, Yfs hi (by omega)])
  (fun q _ => by simp only [Zj0]; rw [dnlt, Wv]) (s := accT h.graph.events T) hal
 rw [this.1, Wb]
 simp only [Ziz]
 congr 1
 have key : ∀ (r q : List Int), r.foldl (fun q id => q.filter fun x => !decide (x ∈ (evD h.graph.events id).prev)) q = q.filter fun x => r.all fun id => !decide (x ∈ (evD h.graph.events id).prev) := by
  intro r
  induction r with
  | nil => intro q; exact (List.filter_eq_self.2 fun x _ => rfl).symm
  | cons id r ih =>
   intro q
   rw [List.foldl_cons, ih, List.filter_filter]
   congr 1
   funext x
   simp [Bool.and_comm]
 rw [key]
 unfold endsT
 congr 1
 funext x
 unfold endT
 rw [Bool.eq_iff_iff, List.all_eq_true, List.all_eq_true]
 exact ⟨fun h id hid => h id ((hm id).2 hid), fun h id hid => h id ((hm id).1 hid)⟩

def Ymq (l : List Y9t) (T : Int → Bool) : List Bool := l.map fun e => T e.id

theorem Ymr {g : Y9y} {h : Ya4} {w : Ya1} (hb : Both g h w) (hr : Ylv g) : w.code.map (fun c => decide (c = 0)) = Ymq h.graph.events (refB h) := by
 unfold Ymq
 rw [hb.graph]
 refine List.ext_getElem (by simp [hb.lc]) fun i h1 h2 => ?_
 simp only [List.length_map] at h1 h2
 simp only [List.getElem_map]
 obtain ⟨c, k1, k2⟩ := hb.code (Wm h2)
 rw [(hr.fits.up.plc h2).1, Yfr h1] at k1
 cases k1
 unfold refB
 rw [k2]

theorem Yms {w : Ya1} {step : List Bool × Int → Option ((List Bool × Int) ⊕ List Bool)} (hl : w.code.length < 1000000)
  (h1 : ∀ (l : List Bool) (i : Nat), step (l, (i : Int)) = cond (decide ((i : Int) < (l.length : Int))) ((getI w.code (i : Int)).bind fun e12 => (getI l (i : Int)).bind fun e14 => some (.inl ((List.set l (Int.toNat (i : Int)) (e12 == 0)), (IntKind.i64.wrap ((i : Int) + 1))))) (some (.inr l))) :
  iter step big (List.replicate w.code.length false, 0) = some (w.code.map fun c => decide (c = 0)) := by
 obtain ⟨o, e1, rfl⟩ := Yfp (τ := List Bool × Int) (ω := List Bool) (σ := List Bool) (step := step) (n := w.code.length) (fun s j => (s, j)) (fun i s => s = (w.code.take i).map (fun c => decide (c = 0)) ++ List.replicate (w.code.length - i) false) (fun o => o = w.code.map fun c => decide (c = 0)) (by omega) (by
  rintro i s hi rfl
  have e0 : List.replicate (w.code.length - i) false = false :: List.replicate (w.code.length - (i + 1)) false := by
   rw [show w.code.length - i = (w.code.length - (i + 1)) + 1 by omega, List.replicate_succ]
  have etk : w.code.take (i + 1) = w.code.take i ++ [w.code[i]] := by rw [List.take_add_one, We hi]; rfl
  refine ⟨_, ?_, rfl⟩
  rw [h1, Wt (by simp; omega), Wu, Yfr hi, Wb, e0, Yhm (X := (w.code.take i).map fun c => decide (c = 0)) rfl (by simp; omega), Wb, Int.toNat_natCast, Yhn (X := (w.code.take i).map fun c => decide (c = 0)) rfl (by simp; omega), Yfs hi (by omega), etk, beqd, List.map_append, List.append_assoc]
  rfl) (by
  rintro s rfl
  refine ⟨_, ?_, rfl⟩
  rw [h1, Wf (by simp), Wv]
  simp) (s := List.replicate w.code.length false) (by simp)
 exact e1

theorem Ymt {α β : Type} (f : α → β) {l : List α} {i : Nat} (hi : i < l.length) : getI (l.map f) (i : Int) = some (f l[i]) := by
 rw [Yfr (by simpa using hi)]; simp

theorem Ymu {g : Y9y} (hr : Ylv g) (T : Int → Bool) : Z6h g (Ymq g.events T) = some (endsT g.events T) := by
 have hfl := hr.fits.len
 unfold Z6h
 -- whether one stands behind an event
 have inner1 : ∀ (i k : Nat) (hi : i < g.events.length) (hk : k < g.events.length) (b : Bool), iter (fun z : Bool × Int => Z6e g (Ymq g.events T) (i : Int) (k : Int) z.1 z.2) big (b, 0) = some (b && (!T g.events[k].id || !decide (g.events[i].id ∈ g.events[k].prev))) := by
  intro i k hi hk b
  have hpl := hr.fits.plen _ (Wm hk)
  have ht : getI (Ymq g.events T) (k : Int) = some (T g.events[k].id) := Ymt _ hk
  cases hrk : T g.events[k].id with
  | false =>
   rw [Y50 (o := b) (fun m (z : Bool × Int) => z = (b, 0)) ?_ (m := 0) rfl (Yfm (by omega))]
   ·
    simp
   ·
    rintro m z rfl
    left
    simp only [Z6e, Z6d]
    rw [ht, Wb, hrk]; rfl
  | true =>
   have := Yg8 (l := g.events[k].prev) (step := fun z : Bool × Int => Z6e g (Ymq g.events T) (i : Int) (k : Int) z.1 z.2) (fun q j => (q, j)) (fun q => q) (fun q p => q && !decide (p = g.events[i].id)) (fun _ _ => True) hpl (fun j q hj _ => by
    refine ⟨?_, trivial⟩
    simp only [Z6e, Z6d, Z6c]
    rw [ht, Wb, hrk, Wu, Yfr hk, Wb, dlt hj, Wu, Yfr hi, Yfs hj hpl]
    cases q with
    | false => rfl
    | true =>
     simp only [Wu, Wb]
     rw [Yfr hj, Wb, bned]; rfl)
    (fun q _ => by
     simp only [Z6e, Z6d]
     rw [ht, Wb, hrk, Wu, Yfr hk, Wb, dnlt, Wv]) (s := b) trivial
   rw [this.1]
   congr 1
   have key : ∀ (ps : List Int) (q : Bool), ps.foldl (fun q p => q && !decide (p = g.events[i].id)) q = (q && !decide (g.events[i].id ∈ ps)) := by
    intro ps
    induction ps with
    | nil => intro q; simp
    | cons p ps ih =>
     intro q
     rw [List.foldl_cons, ih]
     by_cases hp : p = g.events[i].id
     ·
      simp [hp]
     ·
      simp [hp, show ¬ g.events[i].id = p from fun h => hp h.symm]
   rw [key]; simp
 have inner2 : ∀ (i : Nat) (hi : i < g.events.length) (b : Bool), iter (fun z : Bool × Int => Z6f g (Ymq g.events T) (i : Int) z.1 z.2) big (b, 0) = some (b && endT g.events T g.events[i].id) := by
  intro i hi b
  have := Yg8 (l := g.events) (step := fun z : Bool × Int => Z6f g (Ymq g.events T) (i : Int) z.1 z.2) (fun q j => (q, j)) (fun q => q) (fun q e => q && (!T e.id || !decide (g.events[i].id ∈ e.prev))) (fun _ _ => True) (by omega) (fun k q hk _ => by
   refine ⟨?_, trivial⟩
   simp only [Z6f]
   rw [dlt hk, Wu, inner1 i k hi hk, Wb]
   simp only [Z6b]
   rw [Yfs hk (by omega)])
   (fun q _ => by simp only [Z6f]; rw [dnlt, Wv]) (s := b) trivial
  rw [this.1]
  congr 1
  have key : ∀ (l : List Y9t) (q : Bool), l.foldl (fun q e => q && (!T e.id || !decide (g.events[i].id ∈ e.prev))) q = (q && l.all fun e => (!T e.id || !decide (g.events[i].id ∈ e.prev))) := by
   intro l
   induction l with
   | nil => intro q; simp
   | cons e l ih => intro q; rw [List.foldl_cons, ih, List.all_cons, Bool.and_assoc]
  rw [key]
  congr 1
  unfold endT accT
  rw [Bool.eq_iff_iff, List.all_eq_true, List.all_eq_true]
  constructor
  ·
   intro h1 id hid
   obtain ⟨h2, h3⟩ := List.mem_filter.1 hid
   obtain ⟨_, e2, e3⟩ := Ykx h2 hr.fits.up
   have := h1 _ e2
   rw [e3, h3] at this
   simpa using this
  ·
   intro h1 e he
   cases h3 : T e.id with
   | false => rfl
   | true =>
    have := h1 e.id (List.mem_filter.2 ⟨List.mem_map.2 ⟨e, he, rfl⟩, h3⟩)
    have e1 : evD g.events e.id = e := by unfold evD; rw [hr.fits.up.evAt_mem he]; rfl
    rw [e1] at this
    simpa using this
 have := Yg8 (l := g.events) (step := fun z : List Int × Int => Z6g g (Ymq g.events T) z.1 z.2) (fun q j => (q, j)) (fun q => q) (fun q e => if (T e.id && endT g.events T e.id) = true then q ++ [e.id] else q) (fun i q => q.length ≤ i) (by omega) (fun i q hi hq => by
  refine ⟨?_, by split <;> first | omega | (rw [List.length_append, List.length_singleton]; omega)⟩
  have ht : getI (Ymq g.events T) (i : Int) = some (T g.events[i].id) := Ymt _ hi
  simp only [Z6g]
  rw [dlt hi, Wu, ht, Wb, inner2 i hi, Wb]
  simp only [Z6a, Z69]
  rw [Yfr hi, Yfs hi (by omega), Wb, chk8 (by simp; omega)]
  cases (T g.events[i].id && endT g.events T g.events[i].id) <;> rfl)
  (fun q _ => by simp only [Z6g]; rw [dnlt, Wv]) (s := []) (by simp)
 rw [this.1, Wb]
 simp only [Z68]
 congr 1
 unfold endsT accT
 rw [List.filter_filter]
 have key : ∀ (l : List Y9t) (q : List Int), l.foldl (fun q e => if (T e.id && endT g.events T e.id) = true then q ++ [e.id] else q) q = q ++ (l.map (·.id)).filter fun x => endT g.events T x && T x := by
  intro l
  induction l with
  | nil => intro q; simp
  | cons e l ih =>
   intro q
   rw [List.foldl_cons, ih]
   cases hc : T e.id && endT g.events T e.id with
   | true => rw [if_pos rfl, List.map_cons, List.filter_cons_of_pos (by rw [Bool.and_comm]; exact hc)]; simp
   | false => rw [if_neg (by simp), List.map_cons, List.filter_cons_of_neg (by rw [Bool.and_comm, hc]; simp)]
 rw [key]; rfl


def nowT (g : Y9y) (h : Ya4) (T : Int → Bool) : List Ya0 := Yl1 g ((endsT g.events T).map (behI h.after))

theorem Ymv {h : Ya4} (l : List Int) (hl : l.length < 1000000) : Zj7 h l = some (l.map (behI h.after)) := by
 unfold Zj7
 have := Yg8 (l := l) (step := fun z : List (List Ya0) × Int => Zj6 h l z.1 z.2) (fun q j => (q, j)) (fun q => q) (fun q p => q ++ [behI h.after p]) (fun i q => q.length = i) (by omega) (fun i q hi hq => by
  refine ⟨?_, by simp [hq]⟩
  simp only [Zj6]
  rw [dlt hi, Wu, Yfr hi, Wb, Yj4 (by simp; omega), Wb, Yfs hi (by omega)]; rfl)
  (fun q _ => by simp only [Zj6]; rw [dnlt, Wv]) (s := []) rfl
 rw [this.1, Yly]; rfl

theorem Both.endsT {g : Y9y} {h : Ya4} {w : Ya1} (hb : Both g h w) (hr : Ylv g) (T : Int → Bool) : Mrg g ((endsT g.events T).map (behI h.after)) := by
 refine ⟨hr.fits, hr.ev, hr.deep, fun s hs => ?_, by have := Ymo hr.fits T; simp; omega⟩
 obtain ⟨id, hid, rfl⟩ := List.mem_map.1 hs
 have hm := Ymn hid
 obtain ⟨_, e2, e3⟩ := Ykx hm hr.fits.up
 have := (hb.behind hr e2).2
 rwa [e3] at this

theorem Ymw : @Zjn = @Zg3 := rfl

theorem Ymx {g : Y9y} {h : Ya4} {w : Ya1} (hb : Both g h w) (hr : Ylv g) (T : Int → Bool) : (Zj7 h (endsT g.events T)).bind (fun r => (Zjn h r).bind fun r' => some r') = some (nowT g h T) ∧ StOk g.events (nowT g h T) := by
 have hgr := hb.graph
 have hm := hb.endsT hr T
 have hel := Ymo hr.fits T
 rw [Ymv _ (by omega), Wb]
 have hm' : Mrg h.graph ((endsT g.events T).map (behI h.after)) := by rw [hgr]; exact hm
 obtain ⟨_, c2, c3⟩ := Yl3 hm' hb.depth
 rw [Ymw, c2, hgr]
 rw [hgr] at c3
 exact ⟨rfl, c3⟩

theorem Ymy {g : Y9y} {h : Ya4} {w : Ya1} (hb : Both g h w) (hr : Ylv g) (T : Int → Bool) : Z6p g w (Ymq g.events T) = some (nowT g h T) := by
 have hgr := hb.graph
 have hel := Ymo hr.fits T
 have hfl := hr.fits.len
 unfold Z6p
 rw [Ymu hr, Wb]
 have := Yg8 (l := endsT g.events T) (step := fun z : List (List Ya0) × Int => Z6o g w (endsT g.events T) z.1 z.2) (fun q j => (q, j)) (fun q => q) (fun q p => q ++ [behI h.after p]) (fun i q => q.length = i) (by omega) (fun i q hi hq => by
  refine ⟨?_, by simp [hq]⟩
  have hm := Ymn (Wm hi)
  obtain ⟨_, e2, e3⟩ := Ykx hm hr.fits.up
  have hbe := (hb.behind hr e2).1
  rw [e3] at hbe
  simp only [Z6o]
  rw [dlt hi, Wu, Yfr hi, Wb, Ygo _ _ (by omega), Wb, hbe, Wb, Yj4 (by simp; omega), Wb, Yfs hi (by omega)])
  (fun q _ => by simp only [Z6o]; rw [dnlt, Wv]) (s := []) rfl
 rw [this.1, Yly, Wb]
 simp only [Z6n, List.nil_append]
 have hm' : Mrg h.graph ((endsT g.events T).map (behI h.after)) := by rw [hgr]; exact hb.endsT hr T
 obtain ⟨c1, _, _⟩ := Yl3 hm' hb.depth
 rw [hb.depths, ← hgr]
 rw [hgr] at c1 ⊢
 rw [c1]
 rfl

theorem Ymz {g : Y9y} {h : Ya4} {w : Ya1} (hb : Both g h w) (hr : Ylv g) : Z6l w = some (Ymq g.events (refB h)) := by
 have hfl := hr.fits.len
 have hlc := hb.lc
 unfold Z6l
 rw [Y4x (Wt (by omega)), Wb, Int.toNat_natCast]
 rw [Yms (by omega) (fun l i => by simp only [Z6k]), Wb]
 have := Ymr hb hr
 rw [hb.graph] at this
 rw [this]; rfl
end Go.Proofs.YtnoknphekhclcaaGreatDoor
namespace Go.Proofs.YtnoknphekhclcaaGreatDoor
open Go Go.Abs


theorem Yn0 {α σ τ ω : Type} {l : List α} {step : τ → Option (τ ⊕ ω)} (emb : σ → Int → τ) (fin : σ → ω) (bad : ω) (p : Nat → Bool) (g : σ → α → σ) (I : Nat → σ → Prop) (hl : l.length < 9223372036854775807)
  (h1 : ∀ (i : Nat) (s : σ) (hi : i < l.length), I i s → (∀ j, j < i → p j = true) → step (emb s i) = some (cond (p i) (.inl (emb (g s l[i]) ((i + 1 : Nat) : Int))) (.inr bad)) ∧ (p i = true → I (i + 1) (g s l[i])))
  (h2 : ∀ s, I l.length s → step (emb s l.length) = some (.inr (fin s))) {s : σ} (h0 : I 0 s) :
  ((∀ i, i < l.length → p i = true) ∧ iter step big (emb s 0) = some (fin (l.foldl g s)) ∧ I l.length (l.foldl g s)) ∨ ((∃ i, i < l.length ∧ p i = false) ∧ iter step big (emb s 0) = some bad) := by
 have key : ∀ m i k : Nat, ∀ s, i + m = l.length → m < k → I i s → (∀ j, j < i → p j = true) →
   ((∀ i, i < l.length → p i = true) ∧ iter step k (emb s i) = some (fin ((l.drop i).foldl g s)) ∧ I l.length ((l.drop i).foldl g s)) ∨ ((∃ i, i < l.length ∧ p i = false) ∧ iter step k (emb s i) = some bad) := by
  intro m
  induction m with
  | zero =>
   intro i k s hm hk hi hp
   obtain ⟨k, rfl⟩ : ∃ k', k = k' + 1 := ⟨k - 1, by omega⟩
   obtain rfl : i = l.length := by omega
   rw [iter, h2 s hi, List.drop_length]
   exact .inl ⟨hp, rfl, hi⟩
  | succ m ih =>
   intro i k s hm hk hi hp
   obtain ⟨k, rfl⟩ : ∃ k', k = k' + 1 := ⟨k - 1, by omega⟩
   have hil : i < l.length := by omega
   obtain ⟨e1, e2⟩ := h1 i s hil hi hp
   cases hpi : p i with
   | false =>
    rw [hpi] at e1
    exact .inr ⟨⟨i, hil, hpi⟩, by rw [iter, e1]; rfl⟩
   | true =>
    rw [hpi] at e1
    rw [iter, e1, List.drop_eq_getElem_cons hil, List.foldl_cons]
    exact ih (i + 1) k _ (by omega) (by omega) (e2 hpi) fun j hj => by
     rcases Nat.lt_or_ge j i with h | h
     ·
      exact hp j h
     ·
      obtain rfl : j = i := by omega
      exact hpi
 have := key l.length 0 big s (by omega) (Yfm (by omega)) h0 fun j hj => by omega
 simpa using this


abbrev Pr := Int × Int
def pr (x : Y9v) : Pr := (x.room, x.id)
def prs (l : List Y9v) : List Pr := l.map pr
def posP (l : List Pr) (y : Pr) : Int := if y ∈ l then (l.idxOf y : Int) + 1 else 0

theorem Yn1 (l : List Pr) (a y : Pr) : posP (l ++ [a]) y = if y ∈ l then posP l y else if y = a then (l.length : Int) + 1 else 0 := by
 unfold posP
 by_cases h : y ∈ l
 ·
  rw [if_pos h, if_pos h, if_pos (by simp [h]), List.idxOf_append, if_pos h]
 ·
  rw [if_neg h]
  by_cases ha : y = a
  ·
   subst ha
   rw [if_pos (by simp), if_pos rfl, List.idxOf_append, if_neg h]
   simp
  ·
   rw [if_neg (by simp [h, ha]), if_neg ha]
theorem Yn2 {l : List Pr} {y : Pr} : 0 < posP l y ↔ y ∈ l := by
 unfold posP
 by_cases h : y ∈ l
 ·
  rw [if_pos h]; exact ⟨fun _ => h, fun _ => by omega⟩
 ·
  rw [if_neg h]; exact ⟨fun x => by omega, fun x => absurd x h⟩
theorem Yn3 {l : List Pr} {y : Pr} {i : Nat} (hi : i ≤ l.length) : y ∈ l.take i ↔ y ∈ l ∧ l.idxOf y < i := by
 constructor
 ·
  intro h
  refine ⟨List.mem_of_mem_take h, ?_⟩
  have e : l = l.take i ++ l.drop i := (List.take_append_drop i l).symm
  have h2 := List.idxOf_lt_length_of_mem h
  rw [List.length_take] at h2
  rw [e, List.idxOf_append, if_pos h]
  omega
 ·
  rintro ⟨h, hlt⟩
  have h1 := List.idxOf_lt_length_of_mem h
  have : l[l.idxOf y] = y := List.getElem_idxOf h1
  rw [List.mem_take_iff_getElem]
  exact ⟨l.idxOf y, by omega, this⟩
theorem Yn4 {l : List Pr} {y : Pr} {i : Nat} (hi : i ≤ l.length) : y ∈ l.take i ↔ 0 < posP l y ∧ posP l y ≤ i := by
 rw [Yn3 hi, Yn2]
 unfold posP
 constructor
 ·
  rintro ⟨h, hlt⟩; rw [if_pos h]; exact ⟨h, by omega⟩
 ·
  rintro ⟨h, hlt⟩; rw [if_pos h] at hlt; exact ⟨h, by omega⟩
theorem Yn5 {α : Type} {l : List α} (h : l.Nodup) {i j : Nat} (hi : i < l.length) (hj : j < l.length) (e : l[i] = l[j]) : i = j := by
 have hp := List.pairwise_iff_getElem.1 (List.nodup_iff_pairwise_ne.1 h)
 rcases Nat.lt_trichotomy i j with h1 | h1 | h1
 ·
  exact absurd e (hp i j hi hj h1)
 ·
  exact h1
 ·
  exact absurd e.symm (hp j i hj hi h1)
theorem Yn6 {l : List Pr} (h : l.Nodup) {i : Nat} (hi : i < l.length) : l.idxOf l[i] = i := by
 have hm : l[i] ∈ l := Wm hi
 have h1 := List.idxOf_lt_length_of_mem hm
 have e : l[l.idxOf l[i]] = l[i] := List.getElem_idxOf h1
 exact Yn5 h h1 hi e
theorem Yn7 {l : List Pr} : l.Nodup ↔ ∀ (i : Nat) (hi : i < l.length), l[i] ∉ l.take i := by
 constructor
 ·
  intro h i hi hm
  have := (Yn3 (by omega)).1 hm
  rw [Yn6 h hi] at this
  omega
 ·
  intro h
  rw [List.nodup_iff_pairwise_ne, List.pairwise_iff_getElem]
  intro i j hi hj hij e
  exact h j hj (by rw [List.mem_take_iff_getElem]; exact ⟨i, by omega, e⟩)

theorem Yn8 : ∀ {a l : List Pr}, a.Nodup → (∀ x ∈ a, x ∈ l) → a.length ≤ l.length
 | [], _, _, _ => Nat.zero_le _
 | x :: a, l, hn, hs => by
  simp only [List.nodup_cons] at hn
  have hx : x ∈ l := hs x (by simp)
  have := Yn8 (l := l.erase x) hn.2 fun y hy => (List.mem_erase_of_ne (fun e => hn.1 (by rw [← e]; exact hy))).2 (hs y (by simp [hy]))
  rw [List.length_erase_of_mem hx] at this
  have : 0 < l.length := List.length_pos_of_mem hx
  simp only [List.length_cons]; omega
theorem Yn9 {a l : List Pr} (hn : a.Nodup) (hs : ∀ x ∈ a, x ∈ l) (hl : l.length ≤ a.length) : ∀ x ∈ l, x ∈ a := by
 intro x hx
 by_cases h : x ∈ a
 ·
  exact h
 ·
  have := Yn8 (a := x :: a) (l := l) (List.nodup_cons.2 ⟨h, hn⟩) fun y hy => by
   rcases List.mem_cons.1 hy with rfl | hy
   ·
    exact hx
   ·
    exact hs y hy
  simp only [List.length_cons] at this
  omega


def Yna : Ya4 := ⟨⟨0, [], []⟩, [], [], [], []⟩
def hiG (g : Y9y) : Ya4 := (Zgm g).getD Yna
def knG (g : Y9y) : Ya1 := (Z66 g).getD ⟨[], [], [], []⟩
theorem Ynb {g : Y9y} (hr : Ylv g) : Zgm g = some (hiG g) ∧ Z66 g = some (knG g) ∧ Both g (hiG g) (knG g) := by
 obtain ⟨h, w, h1, h2, h3⟩ := Ym0 hr
 unfold hiG knG
 rw [h1, h2]
 exact ⟨rfl, rfl, h3⟩

def okB (g : Y9y) (id : Int) : Bool := refB (hiG g) id
def posG (s : List Pr) (g : Y9y) : List Int := g.events.map fun e => posP s (g.room, e.id)
def nowG (g : Y9y) : List Ya0 := nowT g (hiG g) (okB g)
def wOf (h : Y9z) : Ya2 := ⟨h, h.rooms.map knG, h.rooms.map (posG (prs h.stream)), h.rooms.map nowG⟩

theorem Ync {s : List Pr} {g : Y9y} {j : Nat} (hj : j < g.events.length) (h2 : j < (posG s g).length) : (posG s g)[j] = posP s (g.room, g.events[j].id) := List.getElem_map _

theorem Ynd {h : Y9z} {g : Y9y} (hr : Ylv g) (hn : (prs h.stream).Nodup) (hl : h.stream.length ≤ 120) :
  iter (fun z : List Int × Int => Z6v h g z.1 z.2) big (List.replicate g.events.length 0, 0) = some (posG (prs h.stream) g) := by
 have hfl := hr.fits.len
 obtain ⟨o, e1, rfl⟩ := Yfp (τ := List Int × Int) (ω := List Int) (σ := List Int) (step := fun z : List Int × Int => Z6v h g z.1 z.2) (n := h.stream.length) (fun s j => (s, j)) (fun i s => s = posG ((prs h.stream).take i) g) (fun o => o = posG (prs h.stream) g) (by omega) (by
  rintro i s hi rfl
  have hil : i < (prs h.stream).length := by unfold prs; rw [List.length_map]; exact hi
  have eL : (prs h.stream)[i] = (h.stream[i].room, h.stream[i].id) := List.getElem_map pr
  have etk : (prs h.stream).take (i + 1) = (prs h.stream).take i ++ [(h.stream[i].room, h.stream[i].id)] := by rw [List.take_add_one, We hil, eL]; rfl
  have hnot := Yn7.1 hn i hil
  rw [eL] at hnot
  have hw := Yfs hi (by omega : h.stream.length < 9223372036854775807)
  have hlt : ((prs h.stream).take i).length = i := by rw [List.length_take]; omega
  have hskip : (∀ e ∈ g.events, (g.room, e.id) ≠ (h.stream[i].room, h.stream[i].id)) → posG ((prs h.stream).take i) g = posG ((prs h.stream).take (i + 1)) g := fun hx => by
   unfold posG
   refine List.map_congr_left fun e he => ?_
   rw [etk, Yn1]
   by_cases hm : (g.room, e.id) ∈ (prs h.stream).take i
   ·
    rw [if_pos hm]
   ·
    rw [if_neg hm, if_neg (hx e he)]
    unfold posP; rw [if_neg hm]
  simp only [Z6v]
  rw [dlt hi, Wu, Yfr hi, Wb, Ygo _ _ (by omega), Wb, beqd]
  by_cases hroom : h.stream[i].room = g.room
  ·
   rw [Wt hroom, Wu, Ygp]
   cases hh : hasE g.events h.stream[i].id with
   | false =>
    refine ⟨_, by simp only [Z6u, Z6t, Wv]; rw [hw], hskip fun e he ee => ?_⟩
    have : e.id = h.stream[i].id := (Prod.mk.inj ee).2
    have := Ygu.2 ⟨e, he, this⟩
    rw [hh] at this; cases this
   | true =>
    obtain ⟨k, hk, h1, h2, h3⟩ := Ygr hh
    have hkl : k < (posG ((prs h.stream).take i) g).length := by unfold posG; rw [List.length_map]; exact hk
    refine ⟨(posG ((prs h.stream).take i) g).set k ((i + 1 : Nat) : Int), by simp only [Z6u, Z6t, Wu]; rw [h1, Yfr hkl, Wb, Int.toNat_natCast, hw], ?_⟩
    refine List.ext_getElem (by simp [posG]) fun j hj1 hj2 => ?_
    have hj : j < g.events.length := by simpa [posG] using hj2
    have hj0 : j < (posG ((prs h.stream).take i) g).length := by simpa [posG] using hj
    rw [List.getElem_set, Ync hj hj2, Ync hj hj0]
    simp only [etk]
    rw [Yn1]
    by_cases hjk : k = j
    ·
     subst hjk
     have ee : (g.room, g.events[k].id) = (h.stream[i].room, h.stream[i].id) := by rw [h2, hroom]
     rw [if_pos rfl, ee, if_neg hnot, if_pos rfl, hlt]; omega
    ·
     rw [if_neg hjk]
     by_cases hm : (g.room, g.events[j].id) ∈ (prs h.stream).take i
     ·
      rw [if_pos hm]
     ·
      rw [if_neg hm, if_neg (fun ee => hjk (hr.fits.up.inj hk hj (by rw [h2]; exact (Prod.mk.inj ee).2.symm)))]
      unfold posP; rw [if_neg hm]
  ·
   rw [Wf hroom, Wv]
   exact ⟨_, by simp only [Z6u, Z6t, Wv]; rw [hw], hskip fun e he ee => hroom (Prod.mk.inj ee).1.symm⟩) (by
  rintro s rfl
  simp only [Z6v]
  rw [dnlt, Wv]
  exact ⟨_, rfl, by rw [show h.stream.length = (prs h.stream).length by simp [prs], List.take_length]⟩) (s := List.replicate g.events.length 0) (by
  show List.replicate g.events.length 0 = posG [] g
  exact List.ext_getElem (by simp [posG]) fun j h1 h2 => by simp [posG, posP])
 exact e1

theorem Yne {h : Y9z} (hr : ∀ g ∈ h.rooms, Ylv g) (hn : (prs h.stream).Nodup) (hl : h.stream.length ≤ 120) (h3 : h.rooms.length = 3) : Z6x h = some (wOf h) := by
 unfold Z6x
 have := Yg8 (l := h.rooms) (step := fun z : List Ya1 × List (List Int) × List (List Ya0) × Int => Z6w h z.1 z.2.1 z.2.2.1 z.2.2.2) (fun (q : List Ya1 × List (List Int) × List (List Ya0)) j => (q.1, q.2.1, q.2.2, j)) (fun q => q)
  (fun q g => (q.1 ++ [knG g], q.2.1 ++ [posG (prs h.stream) g], q.2.2 ++ [nowG g])) (fun i q => q.1.length = i ∧ q.2.1.length = i ∧ q.2.2.length = i) (by omega) (fun i q hi ⟨q1, q2, q3⟩ => by
  refine ⟨?_, by simp [q1], by simp [q2], by simp [q3]⟩
  have hg := hr _ (Wm hi)
  have hfl := hg.fits.len
  obtain ⟨b1, b2, b3⟩ := Ynb hg
  have hp := Ynd hg hn hl
  simp only [Z6w]
  rw [dlt hi, Wu, Yfr hi, Wb, b2, Wb, Y4x (Wt (by simp; omega)), Wb, Ymz b3 hg, Wb, Ymy b3 hg, Wb, Yj4 (by simp; omega), Wb, Y4x (Wt (by omega)), Wb, Int.toNat_natCast, hp, Wb]
  simp only [Z6s]
  rw [Yj4 (by simp; omega), Wb, Yfs hi (by omega)]
  rfl)
  (fun q _ => by simp only [Z6w]; rw [dnlt, Wv]) (s := ([], [], [])) ⟨rfl, rfl, rfl⟩
 rw [this.1, Wb]
 have key : ∀ (l : List Y9y) (q : List Ya1 × List (List Int) × List (List Ya0)), l.foldl (fun q g => (q.1 ++ [knG g], q.2.1 ++ [posG (prs h.stream) g], q.2.2 ++ [nowG g])) q = (q.1 ++ l.map knG, q.2.1 ++ l.map (posG (prs h.stream)), q.2.2 ++ l.map nowG) := by
  intro l
  induction l with
  | nil => intro q; simp
  | cons g l ih => intro q; rw [List.foldl_cons, ih]; simp
 rw [key]
 simp only [List.nil_append, Z6r]
 rfl
end Go.Proofs.YtnoknphekhclcaaGreatDoor
namespace Go.Proofs.YtnoknphekhclcaaGreatDoor
open Go Go.Abs

def inS (s : List Pr) (g : Y9y) (e : Y9t) : Bool := decide (0 < posP s (g.room, e.id))
def strE (s : List Pr) (g : Y9y) (e : Y9t) : Bool := (okB g e.id == inS s g e) && (!inS s g e || e.prev.all fun p => decide (posP s (g.room, p) < posP s (g.room, e.id)))
def Ynf (s : List Pr) (g : Y9y) : Nat := (g.events.filter (inS s g)).length
def Yng (s : List Pr) (l : List Y9y) : Nat := (l.map (Ynf s)).sum

theorem Ynh (s : List Pr) (g : Y9y) : ∀ (l : List Y9t) (m : Int), l.foldl (fun m e => if inS s g e = true then m + 1 else m) m = m + (l.filter (inS s g)).length
 | [], m => by simp
 | e :: l, m => by
  rw [List.foldl_cons, Ynh s g l]
  cases h : inS s g e with
  | true => rw [if_pos rfl, List.filter_cons_of_pos h, List.length_cons]; omega
  | false => rw [if_neg (by simp), List.filter_cons_of_neg (by simp [h])]
theorem Yni (s : List Pr) : ∀ (l : List Y9y) (m : Int), l.foldl (fun m g => m + (Ynf s g : Int)) m = m + (Yng s l : Nat)
 | [], m => by simp [Yng]
 | g :: l, m => by
  rw [List.foldl_cons, Yni s l]
  unfold Yng
  rw [List.map_cons, List.sum_cons]
  omega

def atB {α : Type} (l : List α) (p : α → Bool) (i : Nat) : Bool := if h : i < l.length then p l[i] else true
theorem Ynj {α : Type} {l : List α} {p : α → Bool} {i : Nat} (h : i < l.length) : atB l p i = p l[i] := by unfold atB; rw [dif_pos h]
theorem Ynk {α : Type} {l : List α} {p : α → Bool} : (∀ i, i < l.length → atB l p i = true) ↔ l.all p = true := Yg6
theorem Ynl {α : Type} {l : List α} {p : α → Bool} (h : ∃ i, i < l.length ∧ atB l p i = false) : l.all p = false := by
 obtain ⟨i, hi, hb⟩ := h
 rw [Bool.eq_false_iff]
 intro ha
 have := Ynk.2 ha i hi
 rw [hb] at this; cases this

theorem Ynm {s : List Pr} {g : Y9y} (hr : Ylv g) {k : Nat} (hk : k < g.events.length) :
  iter (Z74 g (k : Int) (posG s g) (posP s (g.room, g.events[k].id))) big 0 = some (cond (!inS s g g.events[k] || g.events[k].prev.all fun p => decide (posP s (g.room, p) < posP s (g.room, g.events[k].id))) (.inr ()) (.inl false)) := by
 have hpl := hr.fits.plen _ (Wm hk)
 have hfl := hr.fits.len
 cases hin : inS s g g.events[k] with
 | false =>
  have h0 : decide (posP s (g.room, g.events[k].id) > 0) = false := hin
  rw [Y50 (o := .inr ()) (fun m (x : Int) => x = 0 ∧ m = 0) ?_ (m := 0) ⟨rfl, rfl⟩ (Yfm (by omega))]
  ·
   rfl
  ·
   rintro m x ⟨rfl, rfl⟩
   left
   simp only [Z74]
   rw [Yfr hk, Wb, h0]
   cases decide ((0 : Int) < (g.events[k].prev.length : Int)) <;> rfl
 | true =>
  have h0 : decide (posP s (g.room, g.events[k].id) > 0) = true := hin
  rw [Yg7 (l := g.events[k].prev) (fun p => decide (posP s (g.room, p) < posP s (g.room, g.events[k].id))) (.inl false) (.inr ()) hpl (fun i hi => by
   obtain ⟨j, hj, j1, j2, _⟩ := Ygr (hr.fits.whole _ (Wm hk) _ (Wm hi))
   have hjl : j < (posG s g).length := by unfold posG; rw [List.length_map]; exact hj
   simp only [Z74]
   rw [Yfr hk, Wb, dlt hi, Wu, h0]
   simp only [Z73]
   rw [Yfr hk, Wu, Wb, Yfr hi, Wb, Ygo _ _ (by omega), Wb, j1, Yfr hjl, Wb, Ync hj, j2, Yfs hi hpl]
   by_cases hc : posP s (g.room, g.events[k].prev[i]) < posP s (g.room, g.events[k].id)
   ·
    rw [Wt hc, Wf (by omega)]; rfl
   ·
    rw [Wf hc, Wt (by omega)]; rfl) (by
   simp only [Z74]
   rw [Yfr hk, Wb, dnlt, Wv]; rfl)]
  rfl

theorem Ynn {g : Y9y} (hr : Ylv g) {k : Nat} (hk : k < g.events.length) : ∃ c, getI (knG g).code (k : Int) = some c ∧ (c == 0) = okB g g.events[k].id := by
 obtain ⟨c, h1, h2⟩ := (Ynb hr).2.2.code (Wm hk)
 rw [(hr.fits.up.plc hk).1] at h1
 refine ⟨c, h1, ?_⟩
 unfold okB refB
 rw [h2, beqd]

theorem Yno {h : Y9z} {i : Nat} (hi : i < h.rooms.length) (hr : Ylv h.rooms[i]) {m : Int} (hm : 0 ≤ m ∧ m ≤ 1000) :
  iter (fun z : Int × Int => Z75 (wOf h) (i : Int) h.rooms[i] z.1 z.2) big (m, 0) = some (cond (h.rooms[i].events.all (strE (prs h.stream) h.rooms[i])) (.inr (m + (Ynf (prs h.stream) h.rooms[i] : Int))) (.inl false)) := by
 have hfl := hr.fits.len
 have g1 : getI (wOf h).rooms (i : Int) = some (knG h.rooms[i]) := Ymt knG hi
 have g2 : getI (wOf h).pos (i : Int) = some (posG (prs h.stream) h.rooms[i]) := Ymt _ hi
 have := Yn0 (l := h.rooms[i].events) (step := fun z : Int × Int => Z75 (wOf h) (i : Int) h.rooms[i] z.1 z.2) (fun q j => (q, j)) (fun q => Sum.inr q) (Sum.inl false) (atB h.rooms[i].events (strE (prs h.stream) h.rooms[i])) (fun m e => if inS (prs h.stream) h.rooms[i] e = true then m + 1 else m) (fun k q => 0 ≤ q ∧ q ≤ 1000 + k) (by omega) (fun k q hk ⟨q1, q2⟩ _ => by
  refine ⟨?_, fun _ => by split <;> omega⟩
  obtain ⟨c, c1, c2⟩ := Ynn hr hk
  have hkl : k < (posG (prs h.stream) h.rooms[i]).length := by unfold posG; rw [List.length_map]; exact hk
  have hp := Ynm (s := prs h.stream) hr hk
  have hw := Yfs hk (by omega : h.rooms[i].events.length < 9223372036854775807)
  have hin : decide (posP (prs h.stream) (h.rooms[i].room, h.rooms[i].events[k].id) > 0) = inS (prs h.stream) h.rooms[i] h.rooms[i].events[k] := rfl
  simp only [Z75]
  rw [dlt hk, Wu, g1, Wb, c1, Wb, g2, Wb, Yfr hkl, Wb, Ync hk, c2, hin, hp, Wb, Ynj hk]
  unfold strE
  cases ho : okB h.rooms[i] h.rooms[i].events[k].id == inS (prs h.stream) h.rooms[i] h.rooms[i].events[k] with
  | false => rfl
  | true =>
   rw [Wu, Bool.true_and]
   cases hc : (!inS (prs h.stream) h.rooms[i] h.rooms[i].events[k] || h.rooms[i].events[k].prev.all fun p => decide (posP (prs h.stream) (h.rooms[i].room, p) < posP (prs h.stream) (h.rooms[i].room, h.rooms[i].events[k].id))) with
   | false => rfl
   | true =>
    simp only [Wu, Z72, Z71]
    rw [hin, hw, Y4w (n := q + 1) (by omega) (by omega)]
    cases inS (prs h.stream) h.rooms[i] h.rooms[i].events[k] <;> rfl)
  (fun q _ => by simp only [Z75]; rw [dnlt, Wv]) (s := m) ⟨hm.1, by omega⟩
 rcases this with ⟨a1, a2, _⟩ | ⟨a1, a2⟩
 ·
  rw [a2, Ynk.1 a1, Ynh]; rfl
 ·
  rw [a2, Ynl a1]; rfl

theorem Ynp {s : List Pr} {g : Y9y} (hr : Ylv g) : Ynf s g ≤ 60 := Nat.le_trans (List.length_filter_le _ _) hr.fits.len

theorem Ynq {h : Y9z} (hr : ∀ g ∈ h.rooms, Ylv g) (h3 : h.rooms.length = 3) (hl : h.stream.length ≤ 120) :
  Z77 (wOf h) = some ((h.rooms.all fun g => g.events.all (strE (prs h.stream) g)) && decide (Yng (prs h.stream) h.rooms = h.stream.length)) := by
 unfold Z77
 have := Yn0 (l := h.rooms) (step := fun z : Int × Int => Z76 (wOf h) z.1 z.2) (fun q j => (q, j)) (fun q => Sum.inr q) (Sum.inl false) (atB h.rooms fun g => g.events.all (strE (prs h.stream) g)) (fun m g => m + (Ynf (prs h.stream) g : Int)) (fun k q => 0 ≤ q ∧ q ≤ 60 * k) (by omega) (fun k q hk ⟨q1, q2⟩ _ => by
  have hg := hr _ (Wm hk)
  have hml := Ynp (s := prs h.stream) hg
  refine ⟨?_, fun _ => by omega⟩
  have hev := Yno (h := h) hk hg (m := q) ⟨q1, by omega⟩
  have g0 : getI (wOf h).h.rooms (k : Int) = some h.rooms[k] := Yfr hk
  have hw := Yfs hk (by omega : h.rooms.length < 9223372036854775807)
  have hd : decide ((k : Int) < ((wOf h).h.rooms.length : Int)) = true := dlt hk
  simp only [Z76]
  rw [hd, Wu, g0, Wb, hev, Wb, Ynj hk]
  cases h.rooms[k].events.all (strE (prs h.stream) h.rooms[k]) with
  | false => rfl
  | true => simp only [Wu, Z70]; rw [hw])
  (fun q _ => by
   have hd : decide ((h.rooms.length : Int) < ((wOf h).h.rooms.length : Int)) = false := dnlt _
   simp only [Z76]; rw [hd, Wv]) (s := 0) ⟨by omega, by omega⟩
 rcases this with ⟨a1, a2, _⟩ | ⟨a1, a2⟩
 ·
  rw [a2, Ynk.1 a1, Yni, Wb]
  simp only [Z6z]
  rw [beqd, Bool.true_and]
  congr 1
  rw [Bool.eq_iff_iff]
  simp only [decide_eq_true_eq]
  show (0 + ((Yng (prs h.stream) h.rooms : Nat) : Int) = (h.stream.length : Int)) ↔ _
  omega
 ·
  rw [a2, Ynl a1]; rfl
end Go.Proofs.YtnoknphekhclcaaGreatDoor
namespace Go.Proofs.YtnoknphekhclcaaGreatDoor
open Go Go.Abs

structure Ynr (h : Y9z) : Prop where
 rl : h.rooms.length ≤ 1048576
 sl : h.stream.length ≤ 1048576
 fine : ∀ g ∈ h.rooms, Fine g

def gB (g : Y9y) : Bool := (Z3c g).getD false
theorem Yns {g : Y9y} (hg : Fine g) : Z3c g = some (gB g) ∧ Zc0 g = some (gB g) ∧ (gB g = true ↔ GOk g) := by
 obtain ⟨b, h1, h2, h3⟩ := Yiz hg
 unfold gB
 rw [h1]
 exact ⟨rfl, h2, h3⟩
def rB (l : List Y9y) (i : Nat) : Bool := if h : i < l.length then gB l[i] && decide (l[i].room = (i : Int) + 1) else true
theorem Ynt {l : List Y9y} {i : Nat} (h : i < l.length) : rB l i = (gB l[i] && decide (l[i].room = (i : Int) + 1)) := by unfold rB; rw [dif_pos h]
def Ynu (h : Y9z) : Prop := ∀ (i : Nat) (hi : i < h.rooms.length), GOk h.rooms[i] ∧ h.rooms[i].room = (i : Int) + 1
theorem Ynv {h : Y9z} (hf : Ynr h) : (∀ i, i < h.rooms.length → rB h.rooms i = true) ↔ Ynu h := by
 constructor
 ·
  intro k i hi
  have := k i hi
  rw [Ynt hi, Bool.and_eq_true] at this
  exact ⟨(Yns (hf.fine _ (Wm hi))).2.2.1 this.1, by simpa using this.2⟩
 ·
  intro k i hi
  rw [Ynt hi, Bool.and_eq_true]
  exact ⟨(Yns (hf.fine _ (Wm hi))).2.2.2 (k i hi).1, by simpa using (k i hi).2⟩
theorem Ynu.right {h : Y9z} (k : Ynu h) : ∀ g ∈ h.rooms, Ylv g := fun g hg => by
 obtain ⟨i, hi, rfl⟩ := List.mem_iff_getElem.1 hg
 exact (k i hi).1.right


def zW : Ya2 := ⟨⟨[], []⟩, [], [], []⟩
def OkS (h : Y9z) : Prop := h.rooms.length = 3 ∧ h.stream.length ≤ 120 ∧ Ynu h ∧ (prs h.stream).Nodup ∧ (∀ g ∈ h.rooms, ∀ e ∈ g.events, strE (prs h.stream) g e = true) ∧ Yng (prs h.stream) h.rooms = h.stream.length

theorem Ynw {l : List Y9v} {i : Nat} (hi : i < l.length) (h2 : i < (prs l).length) : (prs l)[i] = (l[i].room, l[i].id) := List.getElem_map pr
theorem Ynx (l : List Y9v) : (prs l).length = l.length := List.length_map pr

theorem eqSp (a b c d : Int) : ((a == b) && ((c == d) && true)) = decide ((b, d) = (a, c)) := by
 rw [Bool.eq_iff_iff]
 simp only [Bool.and_eq_true, beq_iff_eq, and_true, decide_eq_true_eq, Prod.mk.injEq]
 exact ⟨fun x => ⟨x.1.symm, x.2.symm⟩, fun x => ⟨x.1.symm, x.2.symm⟩⟩

theorem Yny {h : Y9z} (hl : h.stream.length ≤ 120) {i : Nat} (hi : i < h.stream.length) :
  iter (Z7b h (i : Int)) big 0 = some (cond (!decide ((h.stream[i].room, h.stream[i].id) ∈ (prs h.stream).take i)) (.inr ()) (.inl (zW, false))) := by
 have hlt : ((prs h.stream).take i).length = i := by rw [List.length_take, Ynx]; omega
 have hgt : ∀ (k : Nat) (hk : k < ((prs h.stream).take i).length), ((prs h.stream).take i)[k] = (h.stream[k].room, h.stream[k].id) := fun k hk => by
  rw [List.getElem_take]; exact Ynw _ _
 rw [Yg7 (l := (prs h.stream).take i) (step := Z7b h (i : Int)) (fun y => !decide (y = (h.stream[i].room, h.stream[i].id))) (.inl (zW, false)) (.inr ()) (by omega) (fun k hk => by
  have hki : k < i := by omega
  simp only [Z7b]
  rw [dlt hki, Wu, Yfr hi, Wb, Yfr (by omega : k < h.stream.length), Wb, hgt k hk, Yfs hki (by omega)]
  rw [eqSp]
  cases decide ((h.stream[k].room, h.stream[k].id) = (h.stream[i].room, h.stream[i].id)) <;> rfl) (by
  simp only [Z7b]
  rw [hlt, dnlt, Wv])]
 congr 2
 rw [Bool.eq_iff_iff, List.all_eq_true]
 simp only [Bool.not_eq_true', decide_eq_false_iff_not]
 constructor
 ·
  exact fun k hm => k _ hm rfl
 ·
  exact fun k y hy e => k (e ▸ hy)

theorem Ynz {h : Y9z} (hf : Ynr h) : ∃ b : Bool, (b = true ↔ OkS h) ∧ Z7h h = some (cond b (wOf h, true) (zW, false)) := by
 have hrl := hf.rl
 have hsl := hf.sl
 unfold Z7h
 by_cases h3 : (h.rooms.length : Int) = 3
 rotate_left
 ·
  refine ⟨false, ⟨fun x => (by cases x), fun x => absurd x.1 (by omega)⟩, ?_⟩
  rw [bned, Wf h3]; rfl
 by_cases hl : (h.stream.length : Int) > 120
 ·
  refine ⟨false, ⟨fun x => (by cases x), fun x => absurd x.2.1 (by omega)⟩, ?_⟩
  rw [bned, Wt h3, Wt hl]; rfl
 rw [bned, Wt h3, Wf hl]
 simp only [Bool.not_true, Wv, Z7g]
 have hl' : h.stream.length ≤ 120 := by omega
 have h3' : h.rooms.length = 3 := by omega
 have := Yn0 (l := h.rooms) (step := fun z : Int => Z7f h z) (fun (_ : Unit) j => j) (fun _ => Sum.inr ()) (Sum.inl (zW, false)) (rB h.rooms) (fun q _ => q) (fun _ _ => True) (by omega) (fun k q hk _ _ => by
  refine ⟨?_, fun _ => trivial⟩
  obtain ⟨b1, _, _⟩ := Yns (hf.fine _ (Wm hk))
  have hw := Yfs hk (by omega : h.rooms.length < 9223372036854775807)
  simp only [Z7f]
  rw [dlt hk, Wu, Yfr hk, Wb, b1, Wb, Ynt hk, hw, bned]
  cases gB h.rooms[k] with
  | false => rfl
  | true =>
   simp only [Wu, Bool.true_and, Z7e, hw]
   by_cases hc : h.rooms[k].room = (k : Int) + 1
   ·
    rw [Wt hc, Wt (by omega)]; rfl
   ·
    rw [Wf hc, Wf (by omega)]; rfl)
  (fun q _ => by simp only [Z7f]; rw [dnlt, Wv]) (s := ()) trivial
 rcases this with ⟨a1, a2, _⟩ | ⟨⟨i, hi, a1⟩, a2⟩
 rotate_left
 ·
  refine ⟨false, ⟨fun x => (by cases x), fun x => ?_⟩, ?_⟩
  ·
   have := (Ynv hf).2 x.2.2.1 i hi
   rw [a1] at this; cases this
  ·
   have a2' : iter (Z7f h) big 0 = some (Sum.inl (zW, false)) := a2
   rw [a2']; rfl
 have hro := (Ynv hf).1 a1
 have a2' : iter (Z7f h) big 0 = some (Sum.inr ()) := a2
 rw [a2', Wb]
 simp only [Z7d]
 -- no repetition
 have := Yn0 (l := prs h.stream) (step := fun z : Int => Z7c h z) (fun (_ : Unit) j => j) (fun _ => Sum.inr ()) (Sum.inl (zW, false)) (fun i => if hi : i < (prs h.stream).length then !decide ((prs h.stream)[i] ∈ (prs h.stream).take i) else true) (fun q _ => q) (fun _ _ => True) (by rw [Ynx]; omega) (fun k q hk _ _ => by
  refine ⟨?_, fun _ => trivial⟩
  have hk' : k < h.stream.length := by rw [Ynx] at hk; exact hk
  have hw := Yfs hk' (by omega : h.stream.length < 9223372036854775807)
  have hd := Yny hl' hk'
  simp only [Z7c]
  rw [dlt hk', Wu, hd, Wb, dif_pos hk, Ynw hk']
  cases decide ((h.stream[k].room, h.stream[k].id) ∈ (prs h.stream).take k) with
  | false => simp only [Bool.not_false, Wu, Z7a]; rw [hw]
  | true => rfl)
  (fun q _ => by simp only [Z7c]; rw [Ynx, dnlt, Wv]) (s := ()) trivial
 rcases this with ⟨n1, n2, _⟩ | ⟨⟨i, hi, n1⟩, n2⟩
 rotate_left
 ·
  refine ⟨false, ⟨fun x => (by cases x), fun x => ?_⟩, ?_⟩
  ·
   rw [dif_pos hi] at n1
   have := Yn7.1 x.2.2.2.1 i hi
   simp [this] at n1
  ·
   have n2' : iter (Z7c h) big 0 = some (Sum.inl (zW, false)) := n2
   rw [n2']; rfl
 have hnd : (prs h.stream).Nodup := Yn7.2 fun i hi => by
  have := n1 i hi
  rw [dif_pos hi] at this
  simpa using this
 have n2' : iter (Z7c h) big 0 = some (Sum.inr ()) := n2
 rw [n2', Wb]
 simp only [Z79]
 rw [Yne hro.right hnd hl' h3', Wb, Ynq hro.right h3' hl', Wb]
 refine ⟨(h.rooms.all fun g => g.events.all (strE (prs h.stream) g)) && decide (Yng (prs h.stream) h.rooms = h.stream.length), ?_, ?_⟩
 ·
  rw [Bool.and_eq_true, List.all_eq_true, decide_eq_true_eq]
  constructor
  ·
   rintro ⟨k1, k2⟩
   exact ⟨h3', hl', hro, hnd, fun g hg e he => List.all_eq_true.1 (k1 g hg) e he, k2⟩
  ·
   rintro ⟨_, _, _, _, k1, k2⟩
   exact ⟨fun g hg => List.all_eq_true.2 fun e he => k1 g hg e he, k2⟩
 ·
  cases (h.rooms.all fun g => g.events.all (strE (prs h.stream) g)) && decide (Yng (prs h.stream) h.rooms = h.stream.length) <;> rfl
end Go.Proofs.YtnoknphekhclcaaGreatDoor
namespace Go.Proofs.YtnoknphekhclcaaGreatDoor
open Go Go.Abs

def zS : Ya5 := ⟨⟨[], []⟩, []⟩
def sOf (h : Y9z) : Ya5 := ⟨h, h.rooms.map hiG⟩
def zG : Y9y := ⟨0, [], []⟩
def rmG (h : Y9z) (r : Int) : Y9y := h.rooms.getD (r - 1).toNat zG
def stX (h : Y9z) (i : Nat) (x : Y9v) : Bool :=
 decide (1 ≤ x.room ∧ x.room ≤ 3) && !decide ((x.room, x.id) ∈ (prs h.stream).take i) && hasE (rmG h x.room).events x.id && okB (rmG h x.room) x.id &&
  (evD (rmG h x.room).events x.id).prev.all fun p => !okB (rmG h x.room) p || decide ((x.room, p) ∈ (prs h.stream).take i)
def stB (h : Y9z) (i : Nat) : Bool := if hi : i < h.stream.length then stX h i h.stream[i] else true
def Yo0 (g : Y9y) : Nat := (accT g.events (okB g)).length
def Yo1 (l : List Y9y) : Nat := (l.map Yo0).sum
theorem Yo2 : ∀ (l : List Y9y) (q : List Ya4 × Int), l.foldl (fun q g => (q.1 ++ [hiG g], q.2 + (Yo0 g : Int))) q = (q.1 ++ l.map hiG, q.2 + (Yo1 l : Nat))
 | [], q => by simp [Yo1]
 | g :: l, q => by
  rw [List.foldl_cons, Yo2 l]
  unfold Yo1
  rw [List.map_cons, List.map_cons, List.sum_cons, List.append_assoc]
  congr 1
  omega

theorem Yo3 {g : Y9y} (hr : Ylv g) : Yo0 g ≤ 60 := Ymm hr.fits _

def OkI (h : Y9z) : Prop := h.rooms.length = 3 ∧ h.stream.length ≤ 120 ∧ Ynu h ∧ (∀ i, i < h.stream.length → stB h i = true) ∧ Yo1 h.rooms = h.stream.length

theorem Yo4 {h : Y9z} (h3 : h.rooms.length = 3) {r : Int} (hr : 1 ≤ r ∧ r ≤ 3) : ∃ (k : Nat) (hk : k < h.rooms.length), r = (k : Int) + 1 ∧ IntKind.i64.wrap (r - 1) = (k : Int) ∧ rmG h r = h.rooms[k] := by
 refine ⟨(r - 1).toNat, by omega, by omega, ?_, ?_⟩
 ·
  rw [Y4w (by omega) (by omega)]; omega
 ·
  unfold rmG
  rw [List.getD_eq_getElem?_getD, We (by omega)]; rfl

theorem Yo5 {g : Y9y} (hg : Ylv g) {m : List (Pr × Bool)} {s : List Pr} {x : Y9v} (hm : ∀ y, Option.getD (pget m y) false = decide (y ∈ s)) (p : Int) :
  Zgw p (hiG g) m x = some (!(!okB g p || decide ((x.room, p) ∈ s))) := by
 unfold Zgw
 rw [beqd]
 show cond (okB g p) _ _ = _
 cases okB g p with
 | false => rfl
 | true => simp only [Wu, Zgv, hm]; simp

theorem Yo6 {g : Y9y} (hg : Ylv g) {m : List (Pr × Bool)} {s : List Pr} {x : Y9v} (hm : ∀ y, Option.getD (pget m y) false = decide (y ∈ s)) (l : List Int) (hl : l.length < 9223372036854775807) :
  Zh2 l (hiG g) m x = some (!l.all fun p => !okB g p || decide ((x.room, p) ∈ s)) := by
 unfold Zh2 Zh0
 rw [Yga (Yg5 (l := l) (step := Zgz l (hiG g) m x) (fun p => !(!okB g p || decide ((x.room, p) ∈ s))) hl (fun i hi => by
  simp only [Zgz]
  rw [dlt hi, Wu, Yfr hi, Wb, Yo5 hg hm, Wb, Yfs hi hl]
  cases (!okB g l[i] || decide ((x.room, l[i]) ∈ s)) <;> rfl) (by simp only [Zgz]; rw [dnlt, Wv])) (fun _ => rfl) rfl, Wb, Yg9, Yku]

theorem Yo7 {h : Y9z} (hro : Ynu h) (h3 : h.rooms.length = 3) (hl : h.stream.length ≤ 120) :
  ((∀ i, i < h.stream.length → stB h i = true) ∧ iter (fun z : List (Pr × Bool) × Int => Zh8 h (h.rooms.map hiG) z.1 z.2) big ([], 0) = some (.inr ())) ∨
  ((∃ i, i < h.stream.length ∧ stB h i = false) ∧ iter (fun z : List (Pr × Bool) × Int => Zh8 h (h.rooms.map hiG) z.1 z.2) big ([], 0) = some (.inl (zS, false))) := by
 have := Yn0 (l := h.stream) (step := fun z : List (Pr × Bool) × Int => Zh8 h (h.rooms.map hiG) z.1 z.2) (fun q j => (q, j)) (fun _ => Sum.inr ()) (Sum.inl (zS, false)) (stB h) (fun m x => pset m (x.room, x.id) true) (fun i m => ∀ y, Option.getD (pget m y) false = decide (y ∈ (prs h.stream).take i)) (by omega) (fun i m hi hm _ => by
  have hil : i < (prs h.stream).length := by rw [Ynx]; exact hi
  have etk : (prs h.stream).take (i + 1) = (prs h.stream).take i ++ [(h.stream[i].room, h.stream[i].id)] := by rw [List.take_add_one, We hil, Ynw hi]; rfl
  refine ⟨?_, fun _ y => ?_⟩
  rotate_left
  ·
   rw [Y8n, etk]
   by_cases hy : y = (h.stream[i].room, h.stream[i].id)
   ·
    rw [if_pos hy, Option.getD_some]; simp [hy]
   ·
    rw [if_neg hy, hm]; simp [hy]
  have hw := Yfs hi (by omega : h.stream.length < 9223372036854775807)
  have hb : stB h i = stX h i h.stream[i] := by unfold stB; rw [dif_pos hi]
  rw [hb]
  simp only [Zh8]
  rw [dlt hi, Wu, Yfr hi, Wb, Yfz, Wb]
  generalize h.stream[i] = x
  unfold stX
  by_cases hx : 1 ≤ x.room ∧ x.room ≤ 3
  rotate_left
  ·
   rw [Wf hx]; rfl
  rw [Wt hx, Wu, hm, Bool.true_and]
  simp only [Zh7]
  cases decide ((x.room, x.id) ∈ (prs h.stream).take i) with
  | true => rfl
  | false =>
   rw [Wv, Bool.not_false, Bool.true_and]
   obtain ⟨k, hk, k1, k2, k3⟩ := Yo4 h3 hx
   have hg := hro.right _ (Wm hk)
   have hfl := hg.fits.len
   have hgr : (hiG h.rooms[k]).graph = h.rooms[k] := (Ynb hg).2.2.graph
   have e1 : Zgt (Ya5.mk h (h.rooms.map hiG)) x.room = some (hiG h.rooms[k]) := by
    unfold Zgt
    rw [k2]
    show (getI (h.rooms.map hiG) (k : Int)).bind _ = _
    rw [Ymt hiG hk]; rfl
   rw [e1, Wb, hgr, c_at _ _ hg.fits.up (by omega), Wb, k3]
   simp only [Zh6]
   cases hh : hasE h.rooms[k].events x.id with
   | false => rfl
   | true =>
    rw [Wu, Bool.true_and, bned]
    show cond (!okB h.rooms[k] x.id) _ _ = _
    cases okB h.rooms[k] x.id with
    | false => rfl
    | true =>
     rw [Bool.not_true, Wv, Bool.true_and]
     have hev : Option.getD (evAt h.rooms[k].events x.id) zEv = evD h.rooms[k].events x.id := rfl
     have hpl := (hg.walk.prev (Yl7.1 hh)).1
     rw [hev, Yo6 hg hm _ (by omega), Wb]
     simp only [Zh5, hw]
     cases (evD h.rooms[k].events x.id).prev.all fun p => !okB h.rooms[k] p || decide ((x.room, p) ∈ (prs h.stream).take i) <;> rfl)
  (fun q _ => by simp only [Zh8]; rw [dnlt, Wv]) (s := []) (fun y => by simp [pget])
 rcases this with ⟨a1, a2, _⟩ | ⟨a1, a2⟩
 ·
  exact .inl ⟨a1, a2⟩
 ·
  exact .inr ⟨a1, a2⟩

theorem Yo8 {h : Y9z} (hf : Ynr h) : ∃ b : Bool, (b = true ↔ OkI h) ∧ Zhd h = some (cond b (sOf h, true) (zS, false)) := by
 have hrl := hf.rl
 have hsl := hf.sl
 unfold Zhd
 by_cases h3 : (h.rooms.length : Int) = 3
 rotate_left
 ·
  refine ⟨false, ⟨fun x => (by cases x), fun x => absurd x.1 (by omega)⟩, ?_⟩
  rw [bned, Wf h3]; rfl
 by_cases hl : (h.stream.length : Int) > 120
 ·
  refine ⟨false, ⟨fun x => (by cases x), fun x => absurd x.2.1 (by omega)⟩, ?_⟩
  rw [bned, Wt h3, Wt hl]; rfl
 rw [bned, Wt h3, Wf hl]
 simp only [Bool.not_true, Wv, Zhc]
 have hl' : h.stream.length ≤ 120 := by omega
 have h3' : h.rooms.length = 3 := by omega
 have := Yn0 (l := h.rooms) (step := fun z : List Ya4 × Int × Int => Zhb h z.1 z.2.1 z.2.2) (fun (q : List Ya4 × Int) j => (q.1, q.2, j)) (fun q => Sum.inr q) (Sum.inl (zS, false)) (rB h.rooms) (fun q g => (q.1 ++ [hiG g], q.2 + (Yo0 g : Int))) (fun i q => q.1.length = i ∧ 0 ≤ q.2 ∧ q.2 ≤ 60 * i) (by omega) (fun k q hk ⟨q1, q2, q3⟩ hp => by
  obtain ⟨_, b2, b3⟩ := Yns (hf.fine _ (Wm hk))
  have hw := Yfs hk (by omega : h.rooms.length < 9223372036854775807)
  have hb := Ynt hk
  refine ⟨?_, fun ht => ?_⟩
  rotate_left
  ·
   rw [hb, Bool.and_eq_true] at ht
   have := Yo3 (b3.1 ht.1).right
   simp only [List.length_append, List.length_singleton]; omega
  simp only [Zhb]
  rw [dlt hk, Wu, Yfr hk, Wb, b2, Wb, hb, hw, bned]
  cases hgB : gB h.rooms[k] with
  | false => rfl
  | true =>
   have hg := (b3.1 hgB).right
   obtain ⟨n1, _, n3⟩ := Ynb hg
   have hle := Yo3 hg
   have hac : Zgr (hiG h.rooms[k]) = some (accT h.rooms[k].events (okB h.rooms[k])) := by
    have := Ymh (h := hiG h.rooms[k]) (by rw [n3.graph]; exact hg)
    rw [n3.graph] at this; exact this
   have hgt : getI (q.1 ++ [hiG h.rooms[k]]) (k : Int) = some (hiG h.rooms[k]) := Yhm (X := q.1) (Y := []) rfl q1.symm
   simp only [Wu, Bool.true_and, Zha]
   by_cases hc : h.rooms[k].room = (k : Int) + 1
   ·
    rw [Wt hc, Wt (by omega), Bool.not_true, Wv, n1, Wb, Y4x (Wt (by simp; omega)), Wb, hgt, Wb, hac, Wb, hw, Y4w (n := q.2 + ((accT h.rooms[k].events (okB h.rooms[k])).length : Int)) (by unfold Yo0 at hle; omega) (by unfold Yo0 at hle; omega)]
    rfl
   ·
    rw [Wf hc, Wf (by omega)]; rfl)
  (fun q _ => by simp only [Zhb]; rw [dnlt, Wv]) (s := ([], 0)) ⟨rfl, by omega, by omega⟩
 rcases this with ⟨a1, a2, _⟩ | ⟨⟨i, hi, a1⟩, a2⟩
 rotate_left
 ·
  refine ⟨false, ⟨fun x => (by cases x), fun x => ?_⟩, ?_⟩
  ·
   have := (Ynv hf).2 x.2.2.1 i hi
   rw [a1] at this; cases this
  ·
   have a2' : iter (fun z : List Ya4 × Int × Int => Zhb h z.1 z.2.1 z.2.2) big ([], 0, 0) = some (Sum.inl (zS, false)) := a2
   rw [a2']; rfl
 have hro := (Ynv hf).1 a1
 rw [Yo2] at a2
 have a2' : iter (fun z : List Ya4 × Int × Int => Zhb h z.1 z.2.1 z.2.2) big ([], 0, 0) = some (Sum.inr (h.rooms.map hiG, 0 + (Yo1 h.rooms : Int))) := a2
 rw [a2', Wb]
 simp only [Zh9]
 rcases Yo7 hro h3' hl' with ⟨s1, s2⟩ | ⟨⟨i, hi, s1⟩, s2⟩
 ·
  rw [s2, Wb]
  simp only [Zh4]
  rw [beqd]
  refine ⟨decide (0 + (Yo1 h.rooms : Int) = (h.stream.length : Int)), ?_, ?_⟩
  ·
   rw [decide_eq_true_eq]
   exact ⟨fun k => ⟨h3', hl', hro, s1, by omega⟩, fun k => by have := k.2.2.2.2; omega⟩
  ·
   cases decide (0 + (Yo1 h.rooms : Int) = (h.stream.length : Int)) <;> rfl
 ·
  rw [s2, Wb]
  exact ⟨false, ⟨fun x => (by cases x), fun x => by have := x.2.2.2.1 i hi; rw [s1] at this; cases this⟩, rfl⟩
end Go.Proofs.YtnoknphekhclcaaGreatDoor
namespace Go.Proofs.YtnoknphekhclcaaGreatDoor
open Go Go.Abs

def accG (g : Y9y) : List Pr := (accT g.events (okB g)).map fun id => (g.room, id)
def accA (l : List Y9y) : List Pr := l.flatMap accG
theorem Yo9 : ∀ l : List Y9y, (accA l).length = Yo1 l
 | [] => rfl
 | g :: l => by
  unfold accA Yo1
  rw [List.flatMap_cons, List.length_append, List.map_cons, List.sum_cons]
  show (accG g).length + (accA l).length = _
  rw [Yo9 l]
  unfold accG Yo0
  rw [List.length_map]; rfl
theorem Yoa {g : Y9y} {y : Pr} : y ∈ accG g ↔ y.1 = g.room ∧ hasE g.events y.2 = true ∧ okB g y.2 = true := by
 unfold accG accT
 rw [List.mem_map]
 constructor
 ·
  rintro ⟨id, h, rfl⟩
  obtain ⟨h1, h2⟩ := List.mem_filter.1 h
  exact ⟨rfl, Yl7.2 h1, h2⟩
 ·
  rintro ⟨h1, h2, h3⟩
  exact ⟨y.2, List.mem_filter.2 ⟨Yl7.1 h2, h3⟩, Prod.ext h1.symm rfl⟩
theorem Ynu.inj {h : Y9z} (k : Ynu h) {g g' : Y9y} (hg : g ∈ h.rooms) (hg' : g' ∈ h.rooms) (e : g.room = g'.room) : g = g' := by
 obtain ⟨i, hi, rfl⟩ := List.mem_iff_getElem.1 hg
 obtain ⟨j, hj, rfl⟩ := List.mem_iff_getElem.1 hg'
 rw [(k i hi).2, (k j hj).2] at e
 obtain rfl : i = j := by omega
 rfl
theorem Yob {h : Y9z} (k : Ynu h) : (accA h.rooms).Nodup := by
 unfold accA
 rw [List.nodup_iff_pairwise_ne, List.pairwise_flatMap]
 constructor
 ·
  intro g hg
  unfold accG
  rw [List.pairwise_map]
  exact (Yml (k.right g hg).fits _).imp fun {a b} h e => by have := (Prod.mk.inj e).2; omega
 ·
  rw [List.pairwise_iff_getElem]
  intro i j hi hj hij x hx y hy e
  have h1 := (Yoa.1 hx).1
  have h2 := (Yoa.1 hy).1
  rw [(k i hi).2] at h1
  rw [(k j hj).2] at h2
  rw [e] at h1
  omega
theorem Yoc {h : Y9z} (k : Ynu h) {g : Y9y} (hg : g ∈ h.rooms) {id : Int} : (g.room, id) ∈ accA h.rooms ↔ hasE g.events id = true ∧ okB g id = true := by
 unfold accA
 rw [List.mem_flatMap]
 constructor
 ·
  rintro ⟨g', h1, h2⟩
  obtain ⟨h3, h4⟩ := Yoa.1 h2
  obtain rfl := k.inj hg h1 h3
  exact h4
 ·
  exact fun h' => ⟨g, hg, Yoa.2 ⟨rfl, h'⟩⟩

theorem Yod {s : List Pr} {g : Y9y} (h : ∀ e ∈ g.events, okB g e.id = inS s g e) : Ynf s g = Yo0 g := by
 unfold Ynf Yo0 accT
 rw [List.filter_map, List.length_map]
 exact congrArg List.length (List.filter_congr fun e he => (h e he).symm)
theorem Yoe {s : List Pr} : ∀ {l : List Y9y}, (∀ g ∈ l, ∀ e ∈ g.events, okB g e.id = inS s g e) → Yng s l = Yo1 l
 | [], _ => rfl
 | g :: l, h => by
  unfold Yng Yo1
  rw [List.map_cons, List.map_cons, List.sum_cons, List.sum_cons, Yod (h g (by simp))]
  have := Yoe (s := s) (l := l) fun g' hg' => h g' (by simp [hg'])
  unfold Yng Yo1 at this
  rw [this]

structure Yof (h : Y9z) : Prop where
 three : h.rooms.length = 3
 slen : h.stream.length ≤ 120
 rooms : Ynu h
 nodup : (prs h.stream).Nodup
 all : ∀ y, y ∈ prs h.stream ↔ y ∈ accA h.rooms

theorem OkI.hub {h : Y9z} (k : OkI h) : Yof h := by
 obtain ⟨h3, hl, hro, hst, hle⟩ := k
 have hX : ∀ (i : Nat) (hi : i < h.stream.length), stX h i h.stream[i] = true := fun i hi => by
  have := hst i hi
  unfold stB at this
  rwa [dif_pos hi] at this
 have hnd : (prs h.stream).Nodup := Yn7.2 fun i hi => by
  have hi' : i < h.stream.length := by rw [Ynx] at hi; exact hi
  have := hX i hi'
  unfold stX at this
  simp only [Bool.and_eq_true] at this
  rw [Ynw hi']
  simpa using this.1.1.1.2
 have hsub : ∀ y ∈ prs h.stream, y ∈ accA h.rooms := fun y hy => by
  obtain ⟨i, hi, rfl⟩ := List.mem_iff_getElem.1 hy
  have hi' : i < h.stream.length := by rw [Ynx] at hi; exact hi
  have := hX i hi'
  unfold stX at this
  simp only [Bool.and_eq_true, decide_eq_true_eq] at this
  obtain ⟨k, hk, k1, _, k3⟩ := Yo4 h3 this.1.1.1.1
  rw [Ynw hi']
  rw [k3] at this
  have hr : h.stream[i].room = h.rooms[k].room := by rw [(hro k hk).2]; exact k1
  rw [hr]
  exact (Yoc hro (Wm hk)).2 ⟨this.1.1.2, this.1.2⟩
 refine ⟨h3, hl, hro, hnd, fun y => ⟨hsub y, Yn9 hnd hsub (by rw [Yo9, Ynx]; omega) y⟩⟩

theorem Yof.inS {h : Y9z} (k : Yof h) {g : Y9y} (hg : g ∈ h.rooms) {e : Y9t} (he : e ∈ g.events) : okB g e.id = inS (prs h.stream) g e := by
 unfold Go.Proofs.YtnoknphekhclcaaGreatDoor.inS
 rw [Bool.eq_iff_iff, decide_eq_true_eq, Yn2, k.all, Yoc k.rooms hg]
 exact ⟨fun h' => ⟨Ygu.2 ⟨e, he, rfl⟩, h'⟩, fun h' => h'.2⟩

theorem Yog {h : Y9z} : OkI h ↔ OkS h := by
 constructor
 ·
  intro k
  have hu := k.hub
  obtain ⟨h3, hl, hro, hst, hle⟩ := k
  refine ⟨h3, hl, hro, hu.nodup, fun g hg e he => ?_, by rw [Yoe fun g hg e he => hu.inS hg he]; exact hle⟩
  unfold strE
  rw [hu.inS hg he]
  cases hin : inS (prs h.stream) g e with
  | false => rfl
  | true =>
   simp only [beq_self_eq_true, Bool.not_true, Bool.false_or, Bool.true_and, List.all_eq_true, decide_eq_true_eq]
   intro p hp
   have hin' : 0 < posP (prs h.stream) (g.room, e.id) := by simpa [inS] using hin
   have hy := Yn2.1 hin'
   obtain ⟨i, hi, hiy⟩ := List.mem_iff_getElem.1 hy
   have hi' : i < h.stream.length := by rw [Ynx] at hi; exact hi
   have hpi : posP (prs h.stream) (g.room, e.id) = (i : Int) + 1 := by
    unfold posP; rw [if_pos hy, ← hiy, Yn6 hu.nodup hi]
   have hx := hst i hi'
   unfold stB at hx
   rw [dif_pos hi'] at hx
   unfold stX at hx
   simp only [Bool.and_eq_true, decide_eq_true_eq] at hx
   rw [Ynw hi'] at hiy
   obtain ⟨e1, e2⟩ := Prod.mk.inj hiy
   obtain ⟨k, hk, k1, _, k3⟩ := Yo4 h3 hx.1.1.1.1
   have hgk : h.rooms[k] = g := hro.inj (Wm hk) hg (by rw [(hro k hk).2, ← k1, e1])
   rw [k3, hgk, e1, e2] at hx
   have hev : evD g.events e.id = e := by unfold evD; rw [(hro.right g hg).fits.up.evAt_mem he]; rfl
   rw [hev] at hx
   have hpp := List.all_eq_true.1 hx.2 p hp
   simp only [Bool.or_eq_true, Bool.not_eq_true', decide_eq_true_eq] at hpp
   rcases hpp with hpp | hpp
   ·
    have : (g.room, p) ∉ prs h.stream := fun hm => by
     have := ((Yoc hro hg).1 ((hu.all _).1 hm)).2
     rw [hpp] at this; cases this
    have h0 : posP (prs h.stream) (g.room, p) = 0 := by unfold posP; rw [if_neg this]
    omega
   ·
    have := ((Yn4 (by omega)).1 hpp).2
    omega
 ·
  rintro ⟨h3, hl, hro, hnd, hst, hma⟩
  have hok : ∀ g ∈ h.rooms, ∀ e ∈ g.events, okB g e.id = inS (prs h.stream) g e := fun g hg e he => by
   have := hst g hg e he
   unfold strE at this
   rw [Bool.and_eq_true] at this
   simpa using this.1
  have hle : Yo1 h.rooms = h.stream.length := by rw [← Yoe hok]; exact hma
  have hsub : ∀ y ∈ accA h.rooms, y ∈ prs h.stream := fun y hy => by
   unfold accA at hy
   obtain ⟨g, hg, hy⟩ := List.mem_flatMap.1 hy
   obtain ⟨h1, h2, h4⟩ := Yoa.1 hy
   obtain ⟨e, he, h5⟩ := Ygu.1 h2
   have := hok g hg e he
   rw [h5, h4] at this
   have h6 : 0 < posP (prs h.stream) (g.room, e.id) := by simpa [inS] using this.symm
   have := Yn2.1 h6
   rw [h5, ← h1] at this
   exact this
  have hall := Yn9 (Yob hro) hsub (by rw [Yo9, Ynx]; omega)
  refine ⟨h3, hl, hro, fun i hi => ?_, hle⟩
  have hil : i < (prs h.stream).length := by rw [Ynx]; exact hi
  have hmem : (h.stream[i].room, h.stream[i].id) ∈ prs h.stream := by rw [← Ynw hi hil]; exact Wm _
  have hacc := hall _ hmem
  unfold accA at hacc
  obtain ⟨g, hg, hy⟩ := List.mem_flatMap.1 hacc
  obtain ⟨h1, h2, h4⟩ := Yoa.1 hy
  simp only at h1 h2 h4
  obtain ⟨k, hk, hkg⟩ := List.mem_iff_getElem.1 hg
  have hroom : g.room = (k : Int) + 1 := by rw [← hkg]; exact (hro k hk).2
  have hx : 1 ≤ h.stream[i].room ∧ h.stream[i].room ≤ 3 := by omega
  obtain ⟨k', hk', k1, _, k3⟩ := Yo4 h3 hx
  obtain rfl : k' = k := by omega
  rw [hkg] at k3
  have hnt := Yn7.1 hnd i hil
  rw [Ynw hi] at hnt
  unfold stB
  rw [dif_pos hi]
  unfold stX
  rw [k3, h2, h4, Wt hx, Wf hnt]
  simp only [Bool.not_false, Bool.true_and, List.all_eq_true, Bool.or_eq_true, Bool.not_eq_true', decide_eq_true_eq]
  intro p hp
  cases hop : okB g p with
  | false => exact .inl rfl
  | true =>
   right
   have hr := hro.right g hg
   obtain ⟨_, e2, e3⟩ := Ykx (Yl7.1 h2) hr.fits.up
   have hse := hst g hg _ e2
   unfold strE at hse
   rw [Bool.and_eq_true] at hse
   have hine : inS (prs h.stream) g (evD g.events h.stream[i].id) = true := by rw [← hok g hg _ e2, e3]; exact h4
   rw [hine] at hse
   simp only [Bool.not_true, Bool.false_or, List.all_eq_true, decide_eq_true_eq] at hse
   have hlt := hse.2 p hp
   rw [e3, ← h1] at hlt
   have hpi : posP (prs h.stream) (h.stream[i].room, h.stream[i].id) = (i : Int) + 1 := by
    unfold posP; rw [if_pos hmem]
    have := Yn6 hnd hil
    rw [Ynw hi] at this
    rw [this]
   obtain ⟨ep, hep, hepi⟩ := Ygu.1 (hr.fits.whole _ e2 p hp)
   have hinp := hok g hg ep hep
   rw [hepi, hop] at hinp
   have h7 : 0 < posP (prs h.stream) (g.room, ep.id) := by simpa [inS] using hinp.symm
   rw [hepi, ← h1] at h7
   exact (Yn4 (by omega)).2 ⟨h7, by omega⟩

theorem Yoh {h : Y9z} (hf : Ynr h) : ∃ b : Bool, (b = true → Yof h) ∧ Z7h h = some (cond b (wOf h, true) (zW, false)) ∧ Zhd h = some (cond b (sOf h, true) (zS, false)) := by
 obtain ⟨b, b1, b2⟩ := Ynz hf
 obtain ⟨c, c1, c2⟩ := Yo8 hf
 have : b = c := by rw [Bool.eq_iff_iff, b1, c1]; exact Yog.symm
 subst this
 exact ⟨b, fun x => (c1.1 x).hub, b2, c2⟩
end Go.Proofs.YtnoknphekhclcaaGreatDoor
namespace Go.Proofs.YtnoknphekhclcaaGreatDoor
open Go Go.Abs


def wtG {α : Type} (n : α → Nat) (l : List α) : Nat := (l.map n).sum
theorem Yoi {α : Type} (n : α → Nat) {l : List α} {i : Nat} (hi : i < l.length) : wtG n (l.take (i + 1)) = wtG n (l.take i) + n l[i] := by
 rw [List.take_add_one, We hi]
 show ((List.take i l ++ [l[i]]).map n).sum = ((List.take i l).map n).sum + n l[i]
 rw [List.map_append, List.sum_append]
 simp only [List.map_cons, List.map_nil, List.sum_cons, List.sum_nil, Nat.add_zero]
def nG (g : Y9u) : Nat := g.events.length + g.parked.length
structure HIn (h : THub) : Prop where
 rl : h.rooms.length ≤ maxLen
 rg : ∀ g ∈ h.rooms, GIn g
 sl : h.stream.length ≤ maxLen
structure Yoj (h : THub) : Prop where
 rl : h.rooms.length ≤ 1048576
 rg : ∀ g ∈ h.rooms, Ym3 g.events ∧ Ym3 g.parked
 wt : wtG nG h.rooms ≤ 1048576
 sl : h.stream.length ≤ 1048576

theorem Yok (p : List Y9u) (n : Int) (hl : p.length ≤ maxLen) (hp : ∀ g ∈ p, GIn g) (h0 : 0 ≤ n) (hn : n ≤ 1048576) : ∃ r, Zd p n = some r ∧ ((0 ≤ r ∧ r + (p.length + wtG nG p : Nat) ≤ n ∧ ∀ g ∈ p, Ym3 g.events ∧ Ym3 g.parked) ∨ r = -1) := by
 simp only [maxLen] at hl
 unfold Zd
 rw [Y4w (by omega) (by omega)]
 by_cases h : n - (p.length : Int) < 0
 ·
  rw [Wt h]; exact ⟨_, rfl, .inr rfl⟩
 ·
  rw [Wf h, Wv]
  obtain ⟨o, h1, h2⟩ := Yfq (τ := Int × Int) (ω := Int ⊕ Int) (σ := Int) (step := fun z : Int × Int => Zc p z.1 z.2) (n := p.length) (fun s j => (s, j))
   (fun i s => 0 ≤ s ∧ s + (p.length + wtG nG (p.take i) : Nat) ≤ n ∧ ∀ (j : Nat) (hj : j < p.length), j < i → Ym3 p[j].events ∧ Ym3 p[j].parked) (fun o => o = .inl (-1) ∨ ∃ r, o = .inr r ∧ 0 ≤ r ∧ r + (p.length + wtG nG p : Nat) ≤ n ∧ ∀ g ∈ p, Ym3 g.events ∧ Ym3 g.parked) (by omega) (by
   rintro i s hi ⟨hs0, hsn, hI⟩
   obtain ⟨r, e1, e2⟩ := Ym5 p[i] s (hp _ (Wm hi)) hs0 (by omega)
   simp only [Zc]
   rw [dlt hi, Wu, Yfr hi, Wb, e1, Wb, Yfs hi (by omega)]
   rcases e2 with ⟨e2, e3, e4⟩ | rfl
   ·
    rw [Wf (by omega), Wv]
    refine .inl ⟨r, rfl, e2, by have hng : nG p[i] = p[i].events.length + p[i].parked.length := rfl; rw [Yoi nG hi]; omega, fun j hj hji => ?_⟩
    rcases Nat.lt_or_ge j i with h | h
    ·
     exact hI j hj h
    ·
     obtain rfl : j = i := by omega
     exact e4
   ·
    exact .inr ⟨_, rfl, .inl rfl⟩) (by
   rintro s ⟨hs0, hsn, hI⟩
   simp only [Zc]
   rw [dnlt, Wv]
   rw [List.take_length] at hsn
   refine ⟨_, rfl, .inr ⟨s, rfl, hs0, hsn, fun e he => ?_⟩⟩
   obtain ⟨j, hj, rfl⟩ := List.mem_iff_getElem.1 he
   exact hI j hj hj) (s := n - (p.length : Int)) ⟨by omega, by simp [wtG], fun j hj h => by omega⟩
  rw [h1, Wb]
  rcases h2 with rfl | ⟨r, rfl, h3⟩
  ·
   exact ⟨_, rfl, .inr rfl⟩
  ·
   exact ⟨_, rfl, .inl h3⟩

theorem Yol (h : THub) (n : Int) (hh : HIn h) (h0 : 0 ≤ n) (hn : n ≤ 1048576) : ∃ r, Zh h n = some r ∧ ((0 ≤ r ∧ r ≤ n ∧ Yoj h) ∨ r = -1) := by
 have hsl := hh.sl
 simp only [maxLen] at hsl
 unfold Zh
 obtain ⟨r, h1, h2⟩ := Yok h.rooms n hh.rl hh.rg h0 hn
 rw [h1, Wb]
 rcases h2 with ⟨h2, h3, h4⟩ | rfl
 ·
  rw [Wf (by omega), Wv]
  unfold Zf
  rw [Y4w (by omega) (by omega)]
  by_cases h5 : r - (h.stream.length : Int) < 0
  ·
   rw [Wt h5]; exact ⟨_, rfl, .inr rfl⟩
  ·
   rw [Wf h5, Wv, Wb, Wf h5]
   exact ⟨_, rfl, .inl ⟨by omega, by omega, by omega, h4, by omega, by omega⟩⟩
 ·
  exact ⟨_, rfl, .inr rfl⟩


def toH (h : THub) : Y9z := ⟨h.rooms.map toG, h.stream⟩
theorem Yom (p : List Y9u) (hl : p.length ≤ 1048576) (hp : ∀ g ∈ p, Ym3 g.events ∧ Ym3 g.parked) : Z16 p = some (p.map toG) := by
 unfold Z16
 rw [Y4x (Wt ⟨by omega, by omega⟩), Wb, Int.toNat_natCast]
 rw [Ym6 (xs := p) toG (by omega) (fun i s hi hs => by
  have := hp _ (Wm hi)
  simp only [Z15]
  rw [dlt hi, Wu, Yfr hi, Wb, Yma _ this.1 this.2, Wb, Yfr (by omega : i < s.length), Wb, Yfs hi (by omega), Int.toNat_natCast]) (fun s => by simp only [Z15]; rw [dnlt, Wv])]
 rfl
theorem Yon (p : List Y9v) (hl : p.length ≤ 1048576) : Z1d p = some p := by
 unfold Z1d
 rw [Y4x (Wt ⟨by omega, by omega⟩), Wb, Int.toNat_natCast]
 rw [Ym6 (xs := p) (fun x => x) (by omega) (fun i s hi hs => by
  simp only [Z1c]
  rw [dlt hi, Wu, Yfr hi, Wb]
  unfold Z19
  rw [Wb, Yfr (by omega : i < s.length), Wb, Yfs hi (by omega), Int.toNat_natCast]) (fun s => by simp only [Z1c]; rw [dnlt, Wv])]
 simp [Z1b]
theorem Yoo (h : THub) (hs : Yoj h) : Z1f h = some (toH h) := by
 unfold Z1f
 rw [Yom _ hs.rl hs.rg, Wb, Yon _ hs.sl]; rfl


theorem Yop (p : List Y9y) (hl : p.length ≤ 1048576) (hp : ∀ g ∈ p, Ym3 g.events ∧ Ym3 g.parked) : Zlz p p = some true := by
 unfold Zlz
 rw [bned, Wt rfl]
 simp only [Bool.not_true, Wv]
 rw [Yg7 (l := p) (fun _ => true) (.inl false) (.inr ()) (by omega) (fun i hi => by
  have := hp _ (Wm hi)
  simp only [Zly]
  rw [dlt hi, Wu, Yfr hi, Wb, Wb, Ymf _ this.1 this.2, Wb, Yfs hi (by omega)]; rfl) (by simp only [Zly]; rw [dnlt, Wv])]
 rw [show (p.all fun _ => true) = true by simp]; rfl
theorem Yoq (p : List Y9v) (hl : p.length ≤ 1048576) : Zm5 p p = some true := by
 unfold Zm5
 rw [bned, Wt rfl]
 simp only [Bool.not_true, Wv]
 rw [Yg7 (l := p) (fun _ => true) (.inl false) (.inr ()) (by omega) (fun i hi => by
  simp only [Zm4]
  rw [dlt hi, Wu, Yfr hi, Wb, Wb, show Zm1 p[i] p[i] = some true by simp [Zm1], Wb, Yfs hi (by omega)]; rfl) (by simp only [Zm4]; rw [dnlt, Wv])]
 rw [show (p.all fun _ => true) = true by simp]; rfl
theorem Yor {h : THub} (hs : Yoj h) : ∀ g ∈ (toH h).rooms, Ym3 g.events ∧ Ym3 g.parked := fun g hg => by
 obtain ⟨g0, h1, rfl⟩ := List.mem_map.1 hg
 exact hs.rg g0 h1
theorem Yos {h : THub} (hs : Yoj h) : Zm7 (toH h) (toH h) = some true := by
 unfold Zm7
 rw [Yop _ (by show (h.rooms.map toG).length ≤ _; rw [List.length_map]; exact hs.rl) (Yor hs), Wb, Wu]
 show (Zm5 h.stream h.stream).bind _ = _
 rw [Yoq _ hs.sl]; rfl
theorem w1 (x : Int) (h0 : 0 ≤ x) (h1 : x ≤ 1000000000000000) : IntKind.i64.wrap (x + 1) = x + 1 := Y4w (by omega) (by omega)

end Go.Proofs.YtnoknphekhclcaaGreatDoor
namespace Go.Proofs.YtnoknphekhclcaaGreatDoor
open Go Go.Abs

structure Yot (h : Y9z) (r : Int) (k : Nat) : Prop where
 lt : k < h.rooms.length
 wrap : IntKind.i64.wrap (r - 1) = (k : Int)
 rm : ∀ hk : k < h.rooms.length, rmG h r = h.rooms[k]
 mem : rmG h r ∈ h.rooms
 room : (rmG h r).room = r
 right : Ylv (rmG h r)
 hist : getI (sOf h).rooms (k : Int) = some (hiG (rmG h r))
 gr : getI (wOf h).h.rooms (k : Int) = some (rmG h r)
 kn : getI (wOf h).rooms (k : Int) = some (knG (rmG h r))
 pos : getI (wOf h).pos (k : Int) = some (posG (prs h.stream) (rmG h r))
 now : getI (wOf h).now (k : Int) = some (nowG (rmG h r))
 both : Both (rmG h r) (hiG (rmG h r)) (knG (rmG h r))
 graph : (hiG (rmG h r)).graph = rmG h r
theorem Yof.room {h : Y9z} (u : Yof h) {r : Int} (hr : 1 ≤ r ∧ r ≤ 3) : ∃ k, Yot h r k := by
 obtain ⟨k, hk, k1, k2, k3⟩ := Yo4 u.three hr
 have hg : Ylv (rmG h r) := by rw [k3]; exact u.rooms.right _ (Wm hk)
 have hb := (Ynb hg).2.2
 refine ⟨k, hk, k2, fun _ => k3, by rw [k3]; exact Wm hk, by rw [k3, (u.rooms k hk).2]; exact k1.symm, hg, ?_, ?_, ?_, ?_, ?_, hb, hb.graph⟩
 ·
  rw [k3]; exact Ymt hiG hk
 ·
  rw [k3]; exact Yfr hk
 ·
  rw [k3]; exact Ymt knG hk
 ·
  rw [k3]; exact Ymt _ hk
 ·
  rw [k3]; exact Ymt nowG hk

end Go.Proofs.YtnoknphekhclcaaGreatDoor
namespace Go.Proofs.YtnoknphekhclcaaGreatDoor
open Go Go.Abs

theorem EvOk.sight {e : Y9t} (h : EvOk e) (hk : e.kind = 6) : 1 ≤ e.n ∧ e.n ≤ 3 := by
 have := h.body
 unfold Ygf Z2b Z23 Z24 Z25 Z26 Z27 Z28 Z29 Z2a at this
 simp only [Yfx, Yfv, Yfw, Wb, hk] at this
 by_cases h1 : 1 ≤ e.n ∧ e.n ≤ 3
 ·
  exact h1
 ·
  simp [h1] at this

def sgt (l : List Y9t) (s : List Ya0) : Int := match cur l s 6 0 with
 | some e => e.n
 | none => 2

theorem You {g : Y9y} (hr : Ylv g) {s : List Ya0} (hs : StOk g.events s) : Z7y g s = some (sgt g.events s) ∧ Zib g s = some (sgt g.events s) := by
 have h := hr.sts hs
 unfold Z7y Zib sgt
 rw [Yjo h.ids h.len h.ok h.sl, Yjm h.up h.len h.ok.up h.sl, Wb, Wb]
 cases hc : cur g.events s 6 0 with
 | none => exact ⟨rfl, rfl⟩
 | some e =>
  have hk : e.kind = 6 ∧ e ∈ g.events := by
   unfold cur at hc
   rcases Yjj s 6 0 with ⟨h0, _⟩ | ⟨x, hx, h1, _, h2⟩
   ·
    rw [h0, no0 h.ids (Int.le_refl 0)] at hc; cases hc
   ·
    obtain ⟨e', k1, k2, _⟩ := hs.ev x hx
    rw [h2, k1] at hc
    cases hc
    exact ⟨k2.trans h1, (Ygv k1).1⟩
  have := (hr.ev e hk.2).sight hk.1
  simp only [Option.getD_some, Option.isSome_some, Wu]
  rw [beqd, Wf (by omega)]
  exact ⟨rfl, trivial⟩


theorem Yov {h : Y9z} (u : Yof h) (r id : Int) : Zki (sOf h) r id = some (posP (prs h.stream) (r, id)) := by
 have hsl := u.slen
 unfold Zki Zi9
 show ((iter (Zi8 h.stream (Y9v.mk r id)) big 0).bind _).bind _ = _
 rw [Yga (Yg5 (l := h.stream) (step := Zi8 h.stream (Y9v.mk r id)) (fun x => decide ((x.room, x.id) = (r, id))) (by omega) (fun i hi => by
  simp only [Zi8]
  rw [dlt hi, Wu, Yfr hi, Wb, eqSp, Yfs hi (by omega)]
  cases decide ((h.stream[i].room, h.stream[i].id) = (r, id)) <;> rfl) (by simp only [Zi8]; rw [dnlt, Wv])) (fun _ => rfl) rfl, Wb]
 unfold idxP
 cases hf : h.stream.findIdx? (fun x => decide ((x.room, x.id) = (r, id))) with
 | none =>
  rw [List.findIdx?_eq_none_iff] at hf
  have : (r, id) ∉ prs h.stream := fun hm => by
   obtain ⟨x, hx, e⟩ := List.mem_map.1 hm
   have := hf x hx
   rw [decide_eq_false_iff_not] at this
   exact this e
  unfold posP
  rw [if_neg this]; rfl
 | some k =>
  obtain ⟨hk, hp, _⟩ := List.findIdx?_eq_some_iff_getElem.1 hf
  rw [decide_eq_true_eq] at hp
  have hkl : k < (prs h.stream).length := by rw [Ynx]; exact hk
  have e : (prs h.stream)[k] = (r, id) := by rw [Ynw hk]; exact hp
  have hm : (r, id) ∈ prs h.stream := by rw [← e]; exact Wm _
  have hi := Yn6 u.nodup hkl
  rw [e] at hi
  unfold posP
  rw [if_pos hm, hi]
  simp only
  rw [Y4w (by omega) (by omega)]


def seeE (g : Y9y) (user : Int) (e : Y9t) : Bool :=
 decide (mbr g.events (behI (hiG g).after e.id) user = 1) || decide (sgt g.events (behI (hiG g).after e.id) = 1) || (decide (e.kind = 2) && decide (e.key = user)) || (decide (sgt g.events (behI (hiG g).after e.id) = 2) && decide (mbr g.events (nowG g) user = 1))
def seeB (h : Y9z) (user r id : Int) : Bool := decide ((r, id) ∈ prs h.stream) && seeE (rmG h r) user (evD (rmG h r).events id)

theorem Yof.event {h : Y9z} (u : Yof h) {r : Int} {k : Nat} (q : Yot h r k) {id : Int} (hm : (r, id) ∈ prs h.stream) : evAt (rmG h r).events id = some (evD (rmG h r).events id) ∧ evD (rmG h r).events id ∈ (rmG h r).events ∧ (evD (rmG h r).events id).id = id := by
 have hm' := (u.all _).1 hm
 rw [← q.room] at hm'
 exact Ykx (Yl7.1 ((Yoc u.rooms q.mem).1 hm').1) q.right.fits.up

theorem Yow {g : Y9y} (hr : Ylv g) : StOk g.events (nowG g) := (Ymx (Ynb hr).2.2 hr (okB g)).2

theorem Yox {g : Y9y} (hr : Ylv g) : Zjp (hiG g) = some (nowG g) := by
 have hb := (Ynb hr).2.2
 have hr' : Ylv (hiG g).graph := by rw [hb.graph]; exact hr
 have hac : Zgr (hiG g) = some (accT g.events (okB g)) := by
  have := Ymh (h := hiG g) hr'
  rw [hb.graph] at this; exact this
 have hen : Zj1 (hiG g) (accT g.events (okB g)) = some (endsT g.events (okB g)) := by
  have := Ymp (h := hiG g) (ids := accT g.events (okB g)) (T := okB g) hr' ((Yml hr.fits _).imp fun {a b} h => by omega) (fun x => by rw [hb.graph])
  rw [hb.graph] at this; exact this
 unfold Zjp Zj3
 rw [hac, Wb, hen]
 exact (Ymx hb hr (okB g)).1

theorem Yoy {h : Y9z} (u : Yof h) (user : Int) {r : Int} (hr : 1 ≤ r ∧ r ≤ 3) : Zkm (sOf h) user r = some (decide (mbr (rmG h r).events (nowG (rmG h r)) user = 1)) := by
 obtain ⟨k, q⟩ := u.room hr
 have e1 : Zkk (sOf h) r = some (hiG (rmG h r)) := by unfold Zkk; rw [q.wrap, q.hist]; rfl
 unfold Zkm
 rw [e1, Wb, Yox q.right, Wb, q.graph, Yjp (q.right.sts (Yow q.right)), Wb, beqd]

theorem Yoz {h : Y9z} (u : Yof h) (user : Int) {r : Int} (id : Int) (hr : 1 ≤ r ∧ r ≤ 3) : Zkq (sOf h) user r id = some (seeB h user r id) := by
 obtain ⟨k, q⟩ := u.room hr
 have hfl := q.right.fits.len
 have e1 : Zkk (sOf h) r = some (hiG (rmG h r)) := by unfold Zkk; rw [q.wrap, q.hist]; rfl
 unfold Zkq seeB
 rw [Yov u, Wb, beqd]
 by_cases hm : (r, id) ∈ prs h.stream
 rotate_left
 ·
  have h0 : posP (prs h.stream) (r, id) = 0 := by unfold posP; rw [if_neg hm]
  rw [Wt h0, Wf hm]; rfl
 have h0 : ¬ posP (prs h.stream) (r, id) = 0 := fun e => by have := Yn2.2 hm; omega
 rw [Wf h0, Wt hm, Wv, e1, Wb, q.graph, c_at _ _ q.right.fits.up (by omega), Wb]
 obtain ⟨v1, v2, v3⟩ := u.event q hm
 have hst := (q.both.behind q.right v2).2
 rw [v3] at hst
 have hmb := Yjp (q.right.sts hst) user
 have hsg := (You q.right hst).2
 have hgd : Option.getD (mget (hiG (rmG h r)).after id) ([] : List Ya0) = behI (hiG (rmG h r)).after id := rfl
 rw [hgd, hmb, Wb, hsg, Wb]
 simp only [Zkp, Zko]
 rw [q.graph, hgd, hsg, Wb, Yoy u user hr, Wb]
 have hev : Option.getD (evAt (rmG h r).events id) zEv = evD (rmG h r).events id := rfl
 rw [hev]
 unfold seeE
 rw [v3]
 simp only [beqd, Bool.true_and]
 cases decide (mbr (rmG h r).events (behI (hiG (rmG h r)).after id) user = 1) <;> cases decide (sgt (rmG h r).events (behI (hiG (rmG h r)).after id) = 1) <;> cases decide ((evD (rmG h r).events id).kind = 2) <;> cases decide ((evD (rmG h r).events id).key = user) <;> cases decide (sgt (rmG h r).events (behI (hiG (rmG h r)).after id) = 2) <;> rfl

theorem Yp0 {h : Y9z} (u : Yof h) (user : Int) {r : Int} (hr : 1 ≤ r ∧ r ≤ 3) {k : Nat} (hk : k < (rmG h r).events.length) : Z8c (wOf h) user r (k : Int) = some (seeB h user r (rmG h r).events[k].id) := by
 obtain ⟨j, q⟩ := u.room hr
 have hfl := q.right.fits.len
 have hkp : k < (posG (prs h.stream) (rmG h r)).length := by unfold posG; rw [List.length_map]; exact hk
 have hem := Wm hk
 unfold Z8c seeB
 rw [q.wrap, q.pos, Wb, Yfr hkp, Wb, Ync hk, q.room, beqd]
 by_cases hm : (r, (rmG h r).events[k].id) ∈ prs h.stream
 rotate_left
 ·
  have h0 : posP (prs h.stream) (r, (rmG h r).events[k].id) = 0 := by unfold posP; rw [if_neg hm]
  rw [Wt h0, Wf hm]; rfl
 have h0 : ¬ posP (prs h.stream) (r, (rmG h r).events[k].id) = 0 := fun e => by have := Yn2.2 hm; omega
 have hev : evD (rmG h r).events (rmG h r).events[k].id = (rmG h r).events[k] := by unfold evD; rw [(q.right.fits.up.plc hk).2]; rfl
 obtain ⟨b1, hst⟩ := q.both.behind q.right hem
 rw [(q.right.fits.up.plc hk).1] at b1
 have hmb := Yjq (q.right.sts hst) user
 have hsg := (You q.right hst).1
 have hnm := Yjq (q.right.sts (Yow q.right)) user
 rw [Wf h0, Wt hm, Wv, q.gr, Wb, q.kn, Wb, b1, Wb, Yfr hk, Wb, hsg, Wb, hmb, Wb]
 simp only [Z8b, Z8a]
 rw [q.wrap, q.now, Wb, hnm, Wb, hev]
 unfold seeE
 simp only [beqd, Bool.true_and]
 cases decide (mbr (rmG h r).events (behI (hiG (rmG h r)).after (rmG h r).events[k].id) user = 1) <;> cases decide (sgt (rmG h r).events (behI (hiG (rmG h r)).after (rmG h r).events[k].id) = 1) <;> cases decide ((rmG h r).events[k].kind = 2) <;> cases decide ((rmG h r).events[k].key = user) <;> cases decide (sgt (rmG h r).events (behI (hiG (rmG h r)).after (rmG h r).events[k].id) = 2) <;> rfl
end Go.Proofs.YtnoknphekhclcaaGreatDoor
namespace Go.Proofs.YtnoknphekhclcaaGreatDoor
open Go Go.Abs

def spA (h : Y9z) (i : Nat) : Y9v := h.stream.getD i ⟨0, 0⟩
theorem Yp1 {h : Y9z} {i : Nat} (hi : i < h.stream.length) : spA h i = h.stream[i] := by
 unfold spA
 rw [List.getD_eq_getElem?_getD, We hi]; rfl
def visB (h : Y9z) (user r : Int) (i : Nat) : Bool := decide ((spA h i).room = r) && seeB h user r (spA h i).id
def visI (h : Y9z) (user r : Int) : List Nat := (List.range h.stream.length).filter (visB h user r)
theorem Yp2 {h : Y9z} {user r : Int} {i : Nat} (hi : i ∈ visI h user r) : i < h.stream.length ∧ (spA h i).room = r ∧ seeB h user r (spA h i).id = true := by
 obtain ⟨h1, h2⟩ := List.mem_filter.1 hi
 unfold visB at h2
 rw [Bool.and_eq_true, decide_eq_true_eq] at h2
 exact ⟨by simpa using h1, h2.1, h2.2⟩
theorem Yp3 {h : Y9z} (u : Yof h) (user r : Int) : (visI h user r).length ≤ 120 := by
 have := List.length_filter_le (visB h user r) (List.range h.stream.length)
 rw [List.length_range] at this
 have := u.slen
 unfold visI; omega

theorem Yp4 {α β : Type} (p : α → Bool) (f : α → β) : ∀ (l : List α) (q : List β), l.foldl (fun q x => if p x = true then q ++ [f x] else q) q = q ++ (l.filter p).map f
 | [], q => by simp
 | x :: l, q => by
  rw [List.foldl_cons, Yp4 p f l]
  cases h : p x with
  | true => rw [if_pos rfl, List.filter_cons_of_pos h]; simp
  | false => rw [if_neg (by simp), List.filter_cons_of_neg (by simp [h])]


theorem Yp5 {h : Y9z} (u : Yof h) (user : Int) {r : Int} (lo hi' : Int) (hr : 1 ≤ r ∧ r ≤ 3) :
  Zkw (sOf h) user r lo hi' = some (((visI h user r).filter fun i : Nat => decide (lo ≤ (i : Int) + 1 ∧ (i : Int) + 1 ≤ hi')).map fun i : Nat => (i : Int) + 1) := by
 have hsl := u.slen
 unfold Zkw
 have := Yg8 (l := List.range h.stream.length) (step := fun z : List Int × Int => Zkv (sOf h) user r lo hi' z.1 z.2) (fun q j => (q, j)) (fun q => q) (fun q i => if (decide (lo ≤ (i : Int) + 1 ∧ (i : Int) + 1 ≤ hi') && visB h user r i) = true then q ++ [(i : Int) + 1] else q) (fun i q => q.length ≤ i) (by rw [List.length_range]; omega) (fun i q hi hq => by
  rw [List.length_range] at hi
  rw [List.getElem_range]
  refine ⟨?_, by split <;> first | omega | (rw [List.length_append, List.length_singleton]; omega)⟩
  have hw := Yfs hi (by omega : h.stream.length < 9223372036854775807)
  have hw' : ((i + 1 : Nat) : Int) = (i : Int) + 1 := by omega
  have hd : decide ((i : Int) < ((sOf h).hub.stream.length : Int)) = true := dlt hi
  have hg : getI (sOf h).hub.stream (i : Int) = some (spA h i) := by rw [Yp1 hi]; exact Yfr hi
  simp only [Zkv]
  rw [hd, Wu, hg, Wb, hw, c_in, Wb, beqd, Yoz u user _ hr, Wb]
  unfold visB
  rw [hw']
  simp only [Zku, Zkt]
  rw [hw, hw', chk8 (by simp; omega), Wb]
  cases decide (lo ≤ (i : Int) + 1 ∧ (i : Int) + 1 ≤ hi') <;> cases decide ((spA h i).room = r) <;> cases seeB h user r (spA h i).id <;> rfl)
  (fun q _ => by
   rw [List.length_range]
   have hd : decide ((h.stream.length : Int) < ((sOf h).hub.stream.length : Int)) = false := dnlt _
   simp only [Zkv]; rw [hd, Wv]) (s := []) (by simp)
 rw [this.1, Wb, Yp4]
 simp only [Zks, List.nil_append]
 unfold visI
 rw [List.filter_filter]


theorem Yp6 {x : Nat} : ∀ {l : List Nat}, l.Nodup → x ∈ l → l.filter (fun y => decide (y = x)) = [x]
 | [], _, h => by cases h
 | a :: l, hn, h => by
  simp only [List.nodup_cons] at hn
  by_cases ha : a = x
  ·
   subst ha
   rw [List.filter_cons_of_pos (by simp), List.filter_eq_nil_iff.2 fun y hy => by simp; intro e; exact hn.1 (e ▸ hy)]
  ·
   rw [List.filter_cons_of_neg (by simp [ha])]
   exact Yp6 hn.2 ((List.mem_cons.1 h).resolve_left fun e => ha e.symm)

theorem Yp7 {h : Y9z} (u : Yof h) {i : Nat} (hi : i < h.stream.length) (y : Pr) : posP (prs h.stream) y = (i : Int) + 1 ↔ y = ((spA h i).room, (spA h i).id) := by
 have hil : i < (prs h.stream).length := by rw [Ynx]; exact hi
 have e : (prs h.stream)[i] = ((spA h i).room, (spA h i).id) := by rw [Yp1 hi]; exact Ynw hi hil
 constructor
 ·
  intro hp
  have hm : y ∈ prs h.stream := Yn2.1 (by omega)
  have h1 := List.idxOf_lt_length_of_mem hm
  unfold posP at hp
  rw [if_pos hm] at hp
  have h2 : (prs h.stream)[(prs h.stream).idxOf y] = y := List.getElem_idxOf h1
  have h3 : (prs h.stream).idxOf y = i := by omega
  rw [← e, ← h2]
  congr 1
 ·
  rintro rfl
  rw [← e]
  unfold posP
  rw [if_pos (Wm hil), Yn6 u.nodup hil]

theorem Yp8 {h : Y9z} (u : Yof h) (user : Int) {r : Int} (hr : 1 ≤ r ∧ r ≤ 3) {i : Nat} (hi : i < h.stream.length) (l : List Int) (hl : l.length ≤ 10000) :
  iter (fun z : List Int × Int => Z8i (wOf h) user r ((i : Int) + 1) z.1 z.2) big (l, 0) = some (if visB h user r i = true then l ++ [plc (rmG h r).events (spA h i).id] else l) := by
 obtain ⟨k, q⟩ := u.room hr
 have hfl := q.right.fits.len
 have hpl : (posG (prs h.stream) (rmG h r)).length = (rmG h r).events.length := List.length_map _
 have := Yg8 (l := List.range (rmG h r).events.length) (step := fun z : List Int × Int => Z8i (wOf h) user r ((i : Int) + 1) z.1 z.2) (fun q j => (q, j)) (fun q => q) (fun q j => if (decide ((posG (prs h.stream) (rmG h r)).getD j 0 = (i : Int) + 1) && seeB h user r ((rmG h r).events.getD j zEv).id) = true then q ++ [(j : Int)] else q) (fun j q => q.length ≤ 10000 + j) (by rw [List.length_range]; omega) (fun j q' hj hq => by
  rw [List.length_range] at hj
  rw [List.getElem_range]
  refine ⟨?_, by split <;> first | omega | (rw [List.length_append, List.length_singleton]; omega)⟩
  have hjp : j < (posG (prs h.stream) (rmG h r)).length := by omega
  have hw := Yfs hj (by omega : (rmG h r).events.length < 9223372036854775807)
  simp only [Z8i]
  rw [q.wrap, q.pos, Wb, dlt hjp, Wu, Yfr hjp, Wb, beqd, Yp0 u user hr hj, Wb, List.getD_eq_getElem?_getD, We hjp, List.getD_eq_getElem?_getD, We hj]
  simp only [Z8h, Z8g, Option.getD_some]
  rw [hw, chk8 (by simp; omega), Wb]
  by_cases hc : (posG (prs h.stream) (rmG h r))[j] = (i : Int) + 1
  ·
   simp only [hc, decide_true]; cases seeB h user r (rmG h r).events[j].id <;> rfl
  ·
   simp only [hc, decide_false]; cases seeB h user r (rmG h r).events[j].id <;> rfl)
  (fun q' _ => by
   rw [List.length_range]
   simp only [Z8i]
   rw [q.wrap, q.pos, Wb, hpl, dnlt, Wv]) (s := l) (by omega)
 rw [this.1, Yp4]
 congr 1
 by_cases hroom : (spA h i).room = r
 rotate_left
 ·
  have hv : visB h user r i = false := by unfold visB; rw [Wf hroom]; rfl
  rw [hv, List.filter_eq_nil_iff.2 fun j hj => ?_]
  ·
   simp
  ·
   have hj' : j < (rmG h r).events.length := by simpa using hj
   have hjp : j < (posG (prs h.stream) (rmG h r)).length := by omega
   rw [List.getD_eq_getElem?_getD, We hjp, Option.getD_some, Ync hj', q.room]
   have : ¬ posP (prs h.stream) (r, (rmG h r).events[j].id) = (i : Int) + 1 := fun e => hroom (Prod.mk.inj ((Yp7 u hi _).1 e)).1.symm
   rw [Wf this]; simp
 ·
  have hm : (r, (spA h i).id) ∈ prs h.stream := by
   have hil : i < (prs h.stream).length := by rw [Ynx]; exact hi
   have e : (prs h.stream)[i] = ((spA h i).room, (spA h i).id) := by rw [Yp1 hi]; exact Ynw hi hil
   rw [hroom] at e
   rw [← e]; exact Wm _
  obtain ⟨v1, v2, v3⟩ := u.event q hm
  obtain ⟨k0, hk0, p1, p2, _⟩ := Ygr (l := (rmG h r).events) (id := (spA h i).id) (Ygu.2 ⟨_, v2, v3⟩)
  have hcong : ∀ j ∈ List.range (rmG h r).events.length, (decide ((posG (prs h.stream) (rmG h r)).getD j 0 = (i : Int) + 1) && seeB h user r ((rmG h r).events.getD j zEv).id) = (decide (j = k0) && visB h user r i) := fun j hj => by
   have hj' : j < (rmG h r).events.length := by simpa using hj
   have hjp : j < (posG (prs h.stream) (rmG h r)).length := by omega
   rw [List.getD_eq_getElem?_getD, We hjp, Option.getD_some, Ync hj', q.room, List.getD_eq_getElem?_getD, We hj', Option.getD_some]
   have hiff : posP (prs h.stream) (r, (rmG h r).events[j].id) = (i : Int) + 1 ↔ j = k0 := by
    rw [Yp7 u hi, hroom]
    constructor
    ·
     intro e
     exact q.right.fits.up.inj hj' hk0 (by rw [p2]; exact (Prod.mk.inj e).2)
    ·
     rintro rfl
     rw [p2]
   by_cases hjk : j = k0
   ·
    subst hjk
    rw [Wt (hiff.2 rfl), Wt rfl, p2]
    unfold visB
    rw [Wt hroom]; rfl
   ·
    rw [Wf (fun e => hjk (hiff.1 e)), Wf hjk]; rfl
  rw [List.filter_congr hcong, p1]
  cases hv : visB h user r i with
  | false =>
   rw [List.filter_eq_nil_iff.2 fun j _ => by simp]
   simp
  | true =>
   rw [show (fun j => decide (j = k0) && true) = fun j => decide (j = k0) from funext fun j => Bool.and_true _, Yp6 List.nodup_range (by simpa using hk0)]
   rfl

def visP (h : Y9z) (user r : Int) : List Int := (visI h user r).map fun i => plc (rmG h r).events (spA h i).id

theorem Yp9 {h : Y9z} (u : Yof h) (user : Int) {r : Int} (hr : 1 ≤ r ∧ r ≤ 3) : Z8k (wOf h) user r = some (visP h user r) := by
 have hsl := u.slen
 unfold Z8k
 obtain ⟨o, e1, rfl⟩ := Yfp (τ := List Int × Int) (ω := List Int) (σ := List Int) (step := fun z : List Int × Int => Z8j (wOf h) user r z.1 z.2) (n := h.stream.length) (fun s j => (s, j + 1)) (fun i s => s = ((List.range i).filter (visB h user r)).map fun i => plc (rmG h r).events (spA h i).id) (fun o => o = visP h user r) (by omega) (by
  rintro i s hi rfl
  have hle := List.length_filter_le (visB h user r) (List.range i)
  rw [List.length_range] at hle
  have hd : decide ((i : Int) + 1 ≤ ((wOf h).h.stream.length : Int)) = true := Wt (by show (i : Int) + 1 ≤ (h.stream.length : Int); omega)
  have hrow := Yp8 u user hr hi (((List.range i).filter (visB h user r)).map fun i => plc (rmG h r).events (spA h i).id) (by rw [List.length_map]; omega)
  simp only [Z8j]
  rw [hd, Wu, hrow, Wb]
  simp only [Z8f]
  rw [Y4w (n := (i : Int) + 1 + 1) (by omega) (by omega)]
  refine ⟨_, rfl, ?_⟩
  rw [List.range_succ, List.filter_append]
  cases hv : visB h user r i with
  | true => rw [if_pos rfl, List.filter_cons_of_pos hv]; simp
  | false => rw [if_neg (by simp), List.filter_cons_of_neg (by simp [hv])]; simp) (by
  rintro s rfl
  have hd : decide ((h.stream.length : Int) + 1 ≤ ((wOf h).h.stream.length : Int)) = false := Wf (by show ¬ (h.stream.length : Int) + 1 ≤ (h.stream.length : Int); omega)
  simp only [Z8j]
  rw [hd, Wv]
  exact ⟨_, rfl, rfl⟩) (s := []) (by simp)
 have e1' : iter (fun z : List Int × Int => Z8j (wOf h) user r z.1 z.2) big ([], 1) = some (visP h user r) := e1
 rw [e1']; rfl


end Go.Proofs.YtnoknphekhclcaaGreatDoor
namespace Go.Proofs.YtnoknphekhclcaaGreatDoor
open Go Go.Abs

def marB (m : Y9w) : Bool := decide (1 ≤ m.user ∧ m.user ≤ 6) && decide (m.at_.length = 3) && m.at_.all fun x => decide (0 ≤ x ∧ x ≤ 120)
theorem Ypa {m : Y9w} (h : marB m = true) : (1 ≤ m.user ∧ m.user ≤ 6) ∧ m.at_.length = 3 ∧ ∀ x ∈ m.at_, 0 ≤ x ∧ x ≤ 120 := by
 unfold marB at h
 simp only [Bool.and_eq_true, decide_eq_true_eq, List.all_eq_true] at h
 exact ⟨h.1.1, h.1.2, h.2⟩

theorem Ypb (m : Y9w) (hl : m.at_.length ≤ 1048576) : Z7m m = some (marB m) ∧ Zho m = some (marB m) := by
 have h3 : ((m.at_.length : Int) == 3) = decide (m.at_.length = 3) := by rw [beqd, Bool.eq_iff_iff]; simp; omega
 have h3' : ((m.at_.length : Int) != 3) = !decide (m.at_.length = 3) := by rw [bne, h3]
 unfold Z7m Zho marB
 rw [Yfx, Yg1, Wb, Wb, h3, h3']
 cases decide (1 ≤ m.user ∧ m.user ≤ 6) with
 | false => exact ⟨rfl, rfl⟩
 | true =>
  simp only [Wu, Bool.true_and]
  cases decide (m.at_.length = 3) with
  | false => exact ⟨rfl, rfl⟩
  | true =>
   simp only [Bool.not_true, Wu, Bool.true_and]
   unfold Z7l Zhl Zhj
   rw [Yg7 (l := m.at_) (step := Z7k m) (fun x => decide (0 ≤ x ∧ x ≤ 120)) (.inl false) (.inr ()) (by omega) (fun i hi => by
    simp only [Z7k]
    rw [dlt hi, Wu, Yfr hi, Wb, Yfv, Wb, Yfs hi (by omega)]
    cases decide (0 ≤ m.at_[i] ∧ m.at_[i] ≤ 120) <;> rfl) (by simp only [Z7k]; rw [dnlt, Wv])]
   rw [Yga (Yg5 (l := m.at_) (step := Zhi m.at_) (fun x => !decide (0 ≤ x ∧ x ≤ 120)) (by omega) (fun i hi => by
    simp only [Zhi]
    unfold Zhf
    rw [dlt hi, Wu, Yfr hi, Wb, c_in, Wb, Wb, Yfs hi (by omega)]
    cases decide (0 ≤ m.at_[i] ∧ m.at_[i] ≤ 120) <;> rfl) (by simp only [Zhi]; rw [dnlt, Wv])) (fun _ => rfl) rfl, Wb, Wb, Yg9, Yku]
   simp only [Wv, Zhn, Bool.not_not]
   cases m.at_.all fun x => decide (0 ≤ x ∧ x ≤ 120) <;> exact ⟨rfl, rfl⟩


theorem Ypc (m : Y9w) (n : Int) (hm : m.at_.length ≤ maxLen) (h0 : 0 ≤ n) (hn : n ≤ 1048576) : ∃ r, Zj m n = some r ∧ ((0 ≤ r ∧ r ≤ n ∧ m.at_.length ≤ 1048576) ∨ r = -1) := by
 unfold Zj
 obtain ⟨r, h1, h2⟩ := Ym1 m.at_ n hm h0 hn
 rw [h1, Wb]
 rcases h2 with ⟨h2, h3, h4⟩ | rfl
 ·
  rw [Wf (by omega)]; exact ⟨_, rfl, .inl ⟨h2, h3, h4⟩⟩
 ·
  exact ⟨_, rfl, .inr rfl⟩
theorem Ypd (m : Y9w) (hm : m.at_.length ≤ 1048576) : Z1h m = some m := by unfold Z1h; rw [Ym7 _ hm]; rfl
theorem Ype (m : Y9w) (hm : m.at_.length ≤ 1048576) : Zm9 m m = some true := by
 unfold Zm9
 rw [Ymc _ hm]
 simp


end Go.Proofs.YtnoknphekhclcaaGreatDoor
namespace Go.Proofs.YtnoknphekhclcaaGreatDoor
open Go Go.Abs


def evA (h : Y9z) (r : Int) (i : Nat) : Y9t := evD (rmG h r).events (spA h i).id
def hidP (h : Y9z) (r id : Int) (i : Nat) : Bool := decide ((spA h i).room = r) && (decide ((evA h r i).kind = 8) && decide ((evA h r i).key = id))
def hidB (h : Y9z) (r id : Int) : Int := match (List.range h.stream.length).find? (hidP h r id) with
 | some i => (spA h i).id
 | none => 0

theorem Ypf {h : Y9z} (u : Yof h) {r : Int} (id : Int) (hr : 1 ≤ r ∧ r ≤ 3) : Zl3 (sOf h) r id = some (hidB h r id) := by
 obtain ⟨k, q⟩ := u.room hr
 have hsl := u.slen
 have hfl := q.right.fits.len
 have e1 : Zkk (sOf h) r = some (hiG (rmG h r)) := by unfold Zkk; rw [q.wrap, q.hist]; rfl
 unfold Zl3 hidB
 rcases Yfn (step := Zl2 (sOf h) r id) (n := h.stream.length) (fun i => if hidP h r id i = true then some (Sum.inl (spA h i).id) else none) (Sum.inr ()) (by omega) (fun i hi => by
  have hd : decide ((i : Int) < ((sOf h).hub.stream.length : Int)) = true := dlt hi
  have hg : getI (sOf h).hub.stream (i : Int) = some (spA h i) := by rw [Yp1 hi]; exact Yfr hi
  have hw := Yfs hi (by omega : h.stream.length < 9223372036854775807)
  simp only [Zl2]
  rw [hd, Wu, hg, Wb, bned]
  unfold hidP
  by_cases hroom : (spA h i).room = r
  rotate_left
  ·
   rw [Wf hroom]; simp only [Bool.not_false, Wu, Zkz, hw]; rfl
  rw [Wt hroom, Bool.not_true, Wv, e1, Wb, q.graph, c_at _ _ q.right.fits.up (by omega), Wb]
  have hev : Option.getD (evAt (rmG h r).events (spA h i).id) zEv = evA h r i := rfl
  rw [hev]
  simp only [Zl1, Zl0, Zkz, hw, beqd, Bool.true_and]
  cases decide ((evA h r i).kind = 8) <;> cases decide ((evA h r i).key = id) <;> rfl) (by
  have hd : decide ((h.stream.length : Int) < ((sOf h).hub.stream.length : Int)) = false := dnlt _
  simp only [Zl2]; rw [hd, Wv]) with ⟨i, o, hi, ho, hb, hx⟩ | ⟨hb, hx⟩
 ·
  rw [hx]
  have hp : hidP h r id i = true := by
   by_cases hp : hidP h r id i = true
   ·
    exact hp
   ·
    rw [if_neg hp] at ho; cases ho
  rw [if_pos hp] at ho
  cases ho
  have hf : (List.range h.stream.length).find? (hidP h r id) = some i := List.find?_range_eq_some.2 ⟨hp, by simpa using hi, fun j hj => by
   have := hb j hj
   by_cases hq : hidP h r id j = true
   ·
    rw [if_pos hq] at this; cases this
   ·
    simpa using hq⟩
  rw [hf]; rfl
 ·
  rw [hx]
  have hf : (List.range h.stream.length).find? (hidP h r id) = none := List.find?_eq_none.2 fun j hj => by
   have := hb j (by simpa using hj)
   intro hq
   rw [if_pos hq] at this; cases this
  rw [hf]; rfl

def shE (h : Y9z) (r : Int) (e : Y9t) : Ya3 := if (e.kind = 7 ∨ e.kind = 4) ∧ hidB h r e.id ≠ 0 then ⟨⟨e.id, e.room, e.author, e.kind, e.key, e.n, ByteArray.empty, e.prev, e.time⟩, true⟩ else ⟨e, false⟩

theorem Ypg {h : Y9z} (u : Yof h) {r : Int} {id : Int} (hr : 1 ≤ r ∧ r ≤ 3) (hm : (r, id) ∈ prs h.stream) : Zl7 (sOf h) r id = some (shE h r (evD (rmG h r).events id)) := by
 obtain ⟨k, q⟩ := u.room hr
 have hfl := q.right.fits.len
 have e1 : Zkk (sOf h) r = some (hiG (rmG h r)) := by unfold Zkk; rw [q.wrap, q.hist]; rfl
 obtain ⟨v1, v2, v3⟩ := u.event q hm
 have h0 : ¬ posP (prs h.stream) (r, id) = 0 := fun e => by have := Yn2.2 hm; omega
 have hpl := (q.right.walk.prev (id := id) (by rw [← v3]; exact List.mem_map.2 ⟨_, v2, rfl⟩)).1
 have hcp : Zjr (evD (rmG h r).events id) = some (evD (rmG h r).events id) := by
  unfold Zjr Zg5
  rw [chk8 (by omega)]; rfl
 unfold Zl7
 rw [Yov u, Wb, beqd, Wf h0, Wv, e1, Wb, q.graph, c_at _ _ q.right.fits.up (by omega), Wb]
 have hev : Option.getD (evAt (rmG h r).events id) zEv = evD (rmG h r).events id := rfl
 rw [hev, hcp, Wb, Ypf u id hr, Wb]
 simp only [Zl6, Zl5, beqd, bned]
 have hh' : hidB h r (evD (rmG h r).events id).id = hidB h r id := by rw [v3]
 unfold shE
 rw [hh']
 by_cases k7 : (evD (rmG h r).events id).kind = 7
 ·
  rw [Wt k7]
  by_cases hh : hidB h r id = 0
  ·
   rw [Wt hh, if_neg fun x => x.2 hh]; rfl
  ·
   rw [Wf hh, if_pos ⟨.inl k7, hh⟩]; rfl
 ·
  rw [Wf k7]
  by_cases k4 : (evD (rmG h r).events id).kind = 4
  ·
   rw [Wt k4]
   by_cases hh : hidB h r id = 0
   ·
    rw [Wt hh, if_neg fun x => x.2 hh]; rfl
   ·
    rw [Wf hh, if_pos ⟨.inr k4, hh⟩]; rfl
  ·
   rw [Wf k4, if_neg fun x => x.1.elim k7 k4]; rfl

theorem Yph (h : Y9z) (r : Int) (e : Y9t) : (shE h r e).event.kind = e.kind ∧ (shE h r e).event.author = e.author := by
 unfold shE
 split <;> exact ⟨rfl, rfl⟩

def Ypi (h : Y9z) (r : Int) (l : List Nat) : Prop := l.length ≤ 1000 ∧ ∀ i ∈ l, i < h.stream.length ∧ (spA h i).room = r
theorem Ypj {h : Y9z} {r : Int} {i : Nat} (hi : i < h.stream.length) (hr : (spA h i).room = r) : (r, (spA h i).id) ∈ prs h.stream := by
 have hil : i < (prs h.stream).length := by rw [Ynx]; exact hi
 have e : (prs h.stream)[i] = ((spA h i).room, (spA h i).id) := by rw [Yp1 hi]; exact Ynw hi hil
 rw [← hr, ← e]; exact Wm _

theorem Ypk {h : Y9z} (u : Yof h) {r : Int} (hr : 1 ≤ r ∧ r ≤ 3) {l : List Nat} (hl : Ypi h r l) : Zlb (sOf h) (l.map fun i : Nat => (i : Int) + 1) = some (l.map fun i => shE h r (evA h r i)) := by
 have hll := hl.1
 have hsl := u.slen
 unfold Zlb
 have := Yg8 (l := l.map fun i : Nat => (i : Int) + 1) (step := fun z : List Ya3 × Int => Zla (sOf h) (l.map fun i : Nat => (i : Int) + 1) z.1 z.2) (fun q j => (q, j)) (fun q => q) (fun q j => q ++ [shE h r (evA h r (j - 1).toNat)]) (fun i q => q.length = i) (by rw [List.length_map]; omega) (fun i q' hi hq => by
  have hi' : i < l.length := by rwa [List.length_map] at hi
  have ev : (l.map fun i : Nat => (i : Int) + 1)[i] = (l[i] : Int) + 1 := List.getElem_map _
  obtain ⟨m1, m2⟩ := hl.2 _ (Wm hi')
  refine ⟨?_, by simp [hq]⟩
  have hgs : getI (sOf h).hub.stream ((l[i] : Nat) : Int) = some (spA h l[i]) := by rw [Yp1 m1]; exact Yfr m1
  simp only [Zla]
  rw [dlt hi, Wu, Yfr hi, Wb, ev, Y4w (n := (l[i] : Int) + 1 - 1) (by omega) (by omega), show (l[i] : Int) + 1 - 1 = (l[i] : Int) by omega, hgs, Wb, m2, Ypg u hr (Ypj m1 m2), Wb, Y4x (Wt (by simp; omega)), Wb, Yfs hi (by rw [List.length_map]; omega), Int.toNat_natCast]
  rfl)
  (fun q' _ => by simp only [Zla]; rw [dnlt, Wv]) (s := []) rfl
 rw [this.1, Wb, Yly (fun j : Int => shE h r (evA h r (j - 1).toNat))]
 simp only [Zl9, List.nil_append]
 congr 1
 rw [List.map_map]
 refine List.map_congr_left fun i _ => ?_
 simp only [Function.comp]
 rw [show (i : Int) + 1 - 1 = (i : Int) by omega, Int.toNat_natCast]

end Go.Proofs.YtnoknphekhclcaaGreatDoor
namespace Go.Proofs.YtnoknphekhclcaaGreatDoor
open Go Go.Abs


def Ypl (m : Y9w) (x : Ya3) : Bool := !decide (x.event.kind = 7) || decide (x.event.author = m.user)

theorem Ypm (mm : Y9w) (l : List Ya3) (hl : l.length < 1000000) : Zk3 l mm = some (l.filter fun x => !Ypl mm x) := by
 have hc : ∀ x, Zju x mm = some (Ypl mm x) := fun x => by unfold Zju Ypl; rw [bned, beqd]; cases decide (x.event.kind = 7) <;> rfl
 unfold Zk3 Zjy
 rw [Yga (Yg5 (l := l) (step := Zjx l mm) (fun x => Ypl mm x) (by omega) (fun i hi => by
  simp only [Zjx]
  rw [dlt hi, Wu, Yfr hi, Wb, hc, Wb, Yfs hi (by omega)]
  cases Ypl mm l[i] <;> rfl) (by simp only [Zjx]; rw [dnlt, Wv])) (fun _ => rfl) rfl, Wb]
 unfold idxP
 cases hf : l.findIdx? (fun x => Ypl mm x) with
 | none =>
  rw [List.findIdx?_eq_none_iff] at hf
  rw [beqd, Wt rfl, Wu]
  exact congrArg some (List.filter_eq_self.2 fun x hx => by simp [hf x hx]).symm
 | some k =>
  obtain ⟨hk, hkp, hkn⟩ := List.findIdx?_eq_some_iff_getElem.1 hf
  simp only
  rw [beqd, Wf (by omega), Wv, Yfs hk (by omega)]
  -- the rest
  have hpre : (l.take k).filter (fun x => !Ypl mm x) = l.take k := List.filter_eq_self.2 fun x hx => by
   obtain ⟨j, hj, hjk, rfl⟩ := Yhw hx
   have := hkn j hjk
   simpa using this
  obtain ⟨⟨o1, o2⟩, e1, w, hw1, hw2, hw3, hw4⟩ := Y4z (step := fun z : List Ya3 × Int × Int => Zk2 mm z.1 z.2.1 z.2.2) (p := fun o : List Ya3 × Int => ∃ w : Nat, o.2 = (w : Int) ∧ w ≤ l.length ∧ o.1.length = l.length ∧ o.1.take w = l.filter fun x => !Ypl mm x)
   (fun m (z : List Ya3 × Int × Int) => ∃ (w i : Nat), z.2.1 = (w : Int) ∧ z.2.2 = (i : Int) ∧ w < i ∧ i ≤ l.length ∧ z.1.length = l.length ∧ z.1.take w = (l.take i).filter (fun x => !Ypl mm x) ∧ z.1.drop i = l.drop i ∧ m = l.length - i) (by
   rintro m ⟨q, x, y⟩ ⟨w, i, hx, hy, hwi, hi, hq, ht, hd, rfl⟩
   simp only at hx hy hq ht hd
   subst hx hy
   simp only [Zk2, Zk1]
   by_cases hil : i < l.length
   ·
    right
    have hiq : i < q.length := by omega
    have hwq : w < q.length := by omega
    have hqi : q[i] = l[i] := by
     have h1 : (q.drop i)[0]? = (l.drop i)[0]? := by rw [hd]
     simpa [hiq, hil] using h1
    have etk : l.take (i + 1) = l.take i ++ [l[i]] := by rw [List.take_add_one, We hil]; rfl
    rw [dlt hiq, Wu, Yfr hiq, Wb, hc, Wb, hqi, Yfr hwq, Yfs hiq (by omega)]
    have hd' : ∀ v : Ya3, (q.set w v).drop (i + 1) = l.drop (i + 1) := fun v => by
     rw [List.drop_set_of_lt (by omega)]
     have := congrArg (List.drop 1) hd
     rwa [List.drop_drop, List.drop_drop] at this
    by_cases hp : Ypl mm l[i] = true
    ·
     rw [hp, Wu]
     refine ⟨_, l.length - (i + 1), rfl, by omega, w, i + 1, rfl, rfl, by omega, by omega, hq, ?_, ?_, rfl⟩
     ·
      rw [etk, List.filter_append, List.filter_cons_of_neg (by simp [hp]), List.filter_nil, List.append_nil]; exact ht
     ·
      have := congrArg (List.drop 1) hd
      rwa [List.drop_drop, List.drop_drop] at this
    ·
     rw [Bool.eq_false_iff.2 hp, Wv, Wb, Int.toNat_natCast, Yfs hwq (by omega)]
     refine ⟨_, l.length - (i + 1), rfl, by omega, w + 1, i + 1, rfl, rfl, by omega, by omega, by simp [hq], ?_, hd' _, rfl⟩
     simp only
     rw [etk, List.filter_append, List.filter_cons_of_pos (by simp [hp]), List.filter_nil, ← ht, List.take_add_one, List.getElem?_set_self hwq]
     rw [List.take_set_of_le (Nat.le_refl _)]; rfl
   ·
    left
    obtain rfl : i = l.length := by omega
    rw [Wf (by omega), Wv]
    refine ⟨_, rfl, w, rfl, by omega, hq, ?_⟩
    rw [List.take_length] at ht
    exact ht) big (l.length - (k + 1)) (l, (k : Int), ((k + 1 : Nat) : Int)) ⟨k, k + 1, rfl, rfl, by omega, by omega, rfl, by
    rw [List.take_add_one, We hk, List.filter_append, hpre]
    simp [hkp], rfl, rfl⟩ (Yfm (by omega))
  rw [e1, Wb]
  simp only at hw1 hw2 hw3 hw4
  subst hw1
  simp only [Zk0, Int.toNat_natCast]
  rw [Y4x (Wt (by omega)), Wb, Y4x (Wt (by omega)), Wb, Y4x (Wt (by simp; omega)), Wb]
  congr 1
  rw [← hw4, List.take_append_of_le_length (by simp; omega), List.take_take, Nat.min_self]


def newB (h : Y9z) (m : Y9w) (r at_ : Int) (i : Nat) : Bool := decide ((evA h r i).kind = 7) && (!decide ((evA h r i).author = m.user) && decide ((i : Int) + 1 > at_))

def newI (h : Y9z) (m : Y9w) (r at_ : Int) : List Nat := (visI h m.user r).filter (newB h m r at_)

theorem Ypn {h : Y9z} (u : Yof h) (m : Y9w) {r : Int} (hr : 1 ≤ r ∧ r ≤ 3) {at_ : Int} (ha : getI m.at_ (IntKind.i64.wrap (r - 1)) = some at_) (hb : 0 ≤ at_ ∧ at_ ≤ 120) :
  Zld (sOf h) m r = some ((newI h m r at_).map fun i => shE h r (evA h r i)) := by
 have hsl := u.slen
 have hvl := Yp3 u m.user r
 have hfl := List.length_filter_le (fun i : Nat => decide (at_ + 1 ≤ (i : Int) + 1 ∧ (i : Int) + 1 ≤ 120)) (visI h m.user r)
 unfold Zld
 rw [ha, Wb, Y4w (n := at_ + 1) (by omega) (by omega), Yp5 u m.user _ _ hr, Wb, Ypk u hr ⟨by omega, fun i hi => ⟨(Yp2 (List.mem_filter.1 hi).1).1, (Yp2 (List.mem_filter.1 hi).1).2.1⟩⟩, Wb, Ypm m _ (by rw [List.length_map]; omega), Wb]
 rw [List.filter_map, List.filter_filter]
 refine congrArg some (congrArg (List.map _) (List.filter_congr fun i hi => ?_))
 have hi' := (Yp2 hi).1
 obtain ⟨k1, k2⟩ := Yph h r (evA h r i)
 unfold newB Ypl
 simp only [Function.comp]
 rw [k1, k2]
 have : decide (at_ + 1 ≤ (i : Int) + 1 ∧ (i : Int) + 1 ≤ 120) = decide ((i : Int) + 1 > at_) := by rw [Bool.eq_iff_iff]; simp; omega
 rw [this]
 cases decide ((evA h r i).kind = 7) <;> cases decide ((evA h r i).author = m.user) <;> cases decide ((i : Int) + 1 > at_) <;> rfl

theorem Ypo {h : Y9z} (u : Yof h) (m : Y9w) {r : Int} (hr : 1 ≤ r ∧ r ≤ 3) {at_ : Int} (ha : getI m.at_ (IntKind.i64.wrap (r - 1)) = some at_) :
  Z8q (wOf h) m r = some ((newI h m r at_).map fun i => plc (rmG h r).events (spA h i).id) := by
 obtain ⟨k, q⟩ := u.room hr
 have hsl := u.slen
 have hvl := Yp3 u m.user r
 have hfl := q.right.fits.len
 have hPl : (visP h m.user r).length = (visI h m.user r).length := List.length_map _
 have ha' : getI m.at_ (k : Int) = some at_ := by rw [← q.wrap]; exact ha
 unfold Z8q
 rw [Yp9 u m.user hr, Wb]
 have := Yg8 (l := visI h m.user r) (step := fun z : List Int × Int => Z8p (wOf h) m r (visP h m.user r) z.1 z.2) (fun q j => (q, j)) (fun q => q) (fun q i => if newB h m r at_ i = true then q ++ [plc (rmG h r).events (spA h i).id] else q) (fun i q => q.length ≤ i) (by omega) (fun i q' hi hq => by
  have hiP : i < (visP h m.user r).length := by omega
  have ev : (visP h m.user r)[i] = plc (rmG h r).events (spA h (visI h m.user r)[i]).id := List.getElem_map _
  obtain ⟨m1, m2, m3⟩ := Yp2 (Wm hi)
  obtain ⟨v1, v2, v3⟩ := u.event q (Ypj m1 m2)
  obtain ⟨k0, hk0, p1, p2, p3⟩ := Ygr (l := (rmG h r).events) (Ygu.2 ⟨_, v2, v3⟩)
  have hkp : k0 < (posG (prs h.stream) (rmG h r)).length := by unfold posG; rw [List.length_map]; exact hk0
  have hpos : posP (prs h.stream) (r, (spA h (visI h m.user r)[i]).id) = ((visI h m.user r)[i] : Int) + 1 := (Yp7 u m1 _).2 (by rw [m2])
  have hee : (rmG h r).events[k0] = evA h r (visI h m.user r)[i] := by
   rw [v1] at p3; exact (Wj p3).symm
  refine ⟨?_, by split <;> first | omega | (rw [List.length_append, List.length_singleton]; omega)⟩
  simp only [Z8p]
  rw [hPl, dlt hi, Wu, q.wrap, q.gr, Wb, Yfr hiP, Wb, ev, p1, Yfr hk0, Wb, q.pos, Wb, Yfr hkp, Wb, Ync hk0, p2, q.room, hpos, ha', Wb, hee, beqd, bned]
  unfold newB
  simp only [Z8o, Z8n]
  rw [chk8 (by simp; omega), Wb, Yfs hi (by omega)]
  cases decide ((evA h r (visI h m.user r)[i]).kind = 7) <;> cases decide ((evA h r (visI h m.user r)[i]).author = m.user) <;> cases decide (((visI h m.user r)[i] : Int) + 1 > at_) <;> rfl)
  (fun q' _ => by simp only [Z8p]; rw [hPl, dnlt, Wv]) (s := []) (by simp)
 rw [this.1, Wb, Yp4, List.nil_append]; rfl

end Go.Proofs.YtnoknphekhclcaaGreatDoor
namespace Go.Proofs.YtnoknphekhclcaaGreatDoor
open Go Go.Abs

theorem Ypp {h : Y9z} (u : Yof h) {r : Int} {k : Nat} (q : Yot h r k) {i : Nat} (hi : i < h.stream.length) (hr : (spA h i).room = r) : ∃ (k0 : Nat) (hk0 : k0 < (rmG h r).events.length), plc (rmG h r).events (spA h i).id = k0 ∧ (rmG h r).events[k0] = evA h r i ∧ (evA h r i).id = (spA h i).id ∧ posP (prs h.stream) (r, (spA h i).id) = (i : Int) + 1 := by
 obtain ⟨v1, v2, v3⟩ := u.event q (Ypj hi hr)
 obtain ⟨k0, hk0, p1, p2, p3⟩ := Ygr (l := (rmG h r).events) (Ygu.2 ⟨_, v2, v3⟩)
 refine ⟨k0, hk0, p1, ?_, v3, (Yp7 u hi _).2 (by rw [hr])⟩
 rw [v1] at p3
 exact (Wj p3).symm

theorem Ypq {h : Y9z} (u : Yof h) {r : Int} {k : Nat} (q : Yot h r k) {j : Nat} (hj : j < (rmG h r).events.length) (hp : 0 < posP (prs h.stream) (r, (rmG h r).events[j].id)) : ∃ i, i < h.stream.length ∧ (spA h i).room = r ∧ (spA h i).id = (rmG h r).events[j].id ∧ evA h r i = (rmG h r).events[j] ∧ posP (prs h.stream) (r, (rmG h r).events[j].id) = (i : Int) + 1 := by
 have hm := Yn2.1 hp
 obtain ⟨i, hi, e⟩ := List.mem_iff_getElem.1 hm
 have hi' : i < h.stream.length := by rw [Ynx] at hi; exact hi
 rw [Ynw hi', ← Yp1 hi'] at e
 obtain ⟨e1, e2⟩ := Prod.mk.inj e
 refine ⟨i, hi', e1, e2, ?_, (Yp7 u hi' _).2 (by rw [e1, e2])⟩
 unfold evA
 rw [e2]
 unfold evD
 rw [(q.right.fits.up.plc hj).2]; rfl

theorem Ypr {h : Y9z} (u : Yof h) {r : Int} (id : Int) (hr : 1 ≤ r ∧ r ≤ 3) : Z8w (wOf h) r id = some (hidB h r id) := by
 obtain ⟨k, q⟩ := u.room hr
 have hfl := q.right.fits.len
 have hpl : (posG (prs h.stream) (rmG h r)).length = (rmG h r).events.length := List.length_map _
 let cand : Nat → Prop := fun j => ∃ hj : j < (rmG h r).events.length, (rmG h r).events[j].kind = 8 ∧ (rmG h r).events[j].key = id ∧ 0 < posP (prs h.stream) (r, (rmG h r).events[j].id)
 let pj : Nat → Int := fun j => posP (prs h.stream) (r, ((rmG h r).events.getD j zEv).id)
 have hpj : ∀ j (hj : j < (rmG h r).events.length), pj j = posP (prs h.stream) (r, (rmG h r).events[j].id) := fun j hj => by
  show posP _ (r, ((rmG h r).events.getD j zEv).id) = _
  rw [List.getD_eq_getElem?_getD, We hj]; rfl
 unfold Z8w
 obtain ⟨o, e1, e2⟩ := Yfp (τ := Int × Int × Int) (ω := Int) (σ := Int × Int) (step := fun z : Int × Int × Int => Z8v (wOf h) r id z.1 z.2.1 z.2.2) (n := (rmG h r).events.length) (fun s j => (s.1, s.2, j))
  (fun i s => (s = (0, 0) ∧ ∀ j, j < i → ¬ cand j) ∨ ∃ (j : Nat) (hj : j < (rmG h r).events.length), j < i ∧ cand j ∧ s = ((rmG h r).events[j].id, pj j) ∧ ∀ j', j' < i → cand j' → pj j ≤ pj j')
  (fun o => (o = 0 ∧ ∀ j, j < (rmG h r).events.length → ¬ cand j) ∨ ∃ (j : Nat) (hj : j < (rmG h r).events.length), cand j ∧ o = (rmG h r).events[j].id ∧ ∀ j', j' < (rmG h r).events.length → cand j' → pj j ≤ pj j') (by omega) (by
  rintro i ⟨x, y⟩ hi hI
  have hip : i < (posG (prs h.stream) (rmG h r)).length := by omega
  have hw := Yfs hi (by omega : (rmG h r).events.length < 9223372036854775807)
  simp only [Z8v]
  rw [q.wrap, q.gr, Wb, dlt hi, Wu, Yfr hi, Wb, q.pos, Wb, Yfr hip, Wb, Ync hi, q.room, ← hpj i hi]
  simp only [Z8u, Z8t, hw, beqd]
  have keep : ¬ cand i → ((((x, y) : Int × Int) = (0, 0) ∧ ∀ j, j < i + 1 → ¬ cand j) ∨ ∃ (j : Nat) (hj : j < (rmG h r).events.length), j < i + 1 ∧ cand j ∧ (x, y) = ((rmG h r).events[j].id, pj j) ∧ ∀ j', j' < i + 1 → cand j' → pj j ≤ pj j') := fun hn => by
   rcases hI with ⟨a1, a2⟩ | ⟨j, hj, a1, a2, a3, a4⟩
   ·
    refine .inl ⟨a1, fun j hj => ?_⟩
    rcases Nat.lt_or_ge j i with g | g
    ·
     exact a2 j g
    ·
     obtain rfl : j = i := by omega
     exact hn
   ·
    refine .inr ⟨j, hj, by omega, a2, a3, fun j' hj' hc => ?_⟩
    rcases Nat.lt_or_ge j' i with g | g
    ·
     exact a4 j' g hc
    ·
     obtain rfl : j' = i := by omega
     exact absurd hc hn
  by_cases k8 : (rmG h r).events[i].kind = 8
  rotate_left
  ·
   rw [Wf k8]; exact ⟨(x, y), rfl, keep fun ⟨_, c, _⟩ => k8 c⟩
  by_cases kk : (rmG h r).events[i].key = id
  rotate_left
  ·
   rw [Wt k8, Wf kk]; exact ⟨(x, y), rfl, keep fun ⟨_, _, c, _⟩ => kk c⟩
  by_cases kp : pj i > 0
  rotate_left
  ·
   rw [Wt k8, Wt kk, Wf kp]; exact ⟨(x, y), rfl, keep fun ⟨c0, _, _, c⟩ => kp (by rw [hpj i c0]; exact c)⟩
  have hc : cand i := ⟨hi, k8, kk, by rw [← hpj i hi]; exact kp⟩
  rw [Wt k8, Wt kk, Wt kp]
  rcases hI with ⟨a1, a2⟩ | ⟨j, hj, a1, a2, a3, a4⟩
  ·
   obtain ⟨rfl, rfl⟩ := Prod.mk.inj a1
   refine ⟨((rmG h r).events[i].id, pj i), rfl, .inr ⟨i, hi, by omega, hc, rfl, fun j' hj' hc' => ?_⟩⟩
   rcases Nat.lt_or_ge j' i with g | g
   ·
    exact absurd hc' (a2 j' g)
   ·
    obtain rfl : j' = i := by omega
    exact Int.le_refl _
  ·
   obtain ⟨e1, e2⟩ := Prod.mk.inj a3
   have hid := ((q.right.ev _ (Wm hj)).id).1
   rw [Wf (by omega : ¬ x = 0)]
   by_cases hlt : pj i < y
   ·
    rw [Wt hlt]
    refine ⟨((rmG h r).events[i].id, pj i), rfl, .inr ⟨i, hi, by omega, hc, rfl, fun j' hj' hc' => ?_⟩⟩
    rcases Nat.lt_or_ge j' i with g | g
    ·
     have := a4 j' g hc'; omega
    ·
     obtain rfl : j' = i := by omega
     exact Int.le_refl _
   ·
    rw [Wf hlt]
    refine ⟨(x, y), rfl, .inr ⟨j, hj, by omega, a2, a3, fun j' hj' hc' => ?_⟩⟩
    rcases Nat.lt_or_ge j' i with g | g
    ·
     exact a4 j' g hc'
    ·
     obtain rfl : j' = i := by omega
     omega) (by
  rintro ⟨x, y⟩ hI
  simp only [Z8v]
  rw [q.wrap, q.gr, Wb, dnlt, Wv]
  refine ⟨x, rfl, ?_⟩
  rcases hI with ⟨a1, a2⟩ | ⟨j, hj, a1, a2, a3, a4⟩
  ·
   exact .inl ⟨(Prod.mk.inj a1).1, a2⟩
  ·
   exact .inr ⟨j, hj, a2, (Prod.mk.inj a3).1, a4⟩) (s := (0, 0)) (.inl ⟨rfl, fun j hj => by omega⟩)
 rw [e1, Wb]
 simp only [Z8s]
 congr 1
 -- the first one in the stream
 have key : ∀ i, i < h.stream.length → hidP h r id i = true → ∃ j, j < (rmG h r).events.length ∧ cand j ∧ pj j = (i : Int) + 1 := fun i hi hp => by
  unfold hidP at hp
  simp only [Bool.and_eq_true, decide_eq_true_eq] at hp
  obtain ⟨k0, hk0, _, p2, p3, p4⟩ := Ypp u q hi hp.1
  have hpk : posP (prs h.stream) (r, (rmG h r).events[k0].id) = (i : Int) + 1 := by rw [p2, p3]; exact p4
  exact ⟨k0, hk0, ⟨hk0, by rw [p2]; exact hp.2.1, by rw [p2]; exact hp.2.2, by omega⟩, by rw [hpj k0 hk0]; exact hpk⟩
 unfold hidB
 rcases e2 with ⟨rfl, a2⟩ | ⟨j, hj, ⟨_, c1, c2, c3⟩, rfl, a4⟩
 ·
  have hf : (List.range h.stream.length).find? (hidP h r id) = none := List.find?_eq_none.2 fun i hi hp => by
   obtain ⟨j, hj, hc, _⟩ := key i (by simpa using hi) hp
   exact a2 j hj hc
  rw [hf]
 ·
  obtain ⟨i, i1, i2, i3, i4, i5⟩ := Ypq u q hj c3
  have hp : hidP h r id i = true := by
   unfold hidP
   rw [i4, Wt i2, Wt c1, Wt c2]; rfl
  have hf : (List.range h.stream.length).find? (hidP h r id) = some i := List.find?_range_eq_some.2 ⟨hp, by simpa using i1, fun i' hi' => by
   by_cases hq : hidP h r id i' = true
   ·
    obtain ⟨j', hj', hc', hpj'⟩ := key i' (by omega) hq
    have := a4 j' hj' hc'
    rw [hpj', hpj j hj, i5] at this
    omega
   ·
    simpa using hq⟩
  rw [hf]
  exact i3.symm

theorem Yps {h : Y9z} (u : Yof h) {r : Int} (id : Int) (hr : 1 ≤ r ∧ r ≤ 3) : decide (hidB h r id > 0) = decide (hidB h r id ≠ 0) := by
 obtain ⟨k, q⟩ := u.room hr
 have : 0 ≤ hidB h r id := by
  unfold hidB
  cases hf : (List.range h.stream.length).find? (hidP h r id) with
  | none => exact Int.le_refl 0
  | some i =>
   have h1 := List.mem_of_find?_eq_some hf
   have h2 := List.find?_some hf
   unfold hidP at h2
   simp only [Bool.and_eq_true, decide_eq_true_eq] at h2
   obtain ⟨v1, v2, v3⟩ := u.event q (Ypj (by simpa using h1) h2.1)
   have := ((q.right.ev _ v2).id).1
   simp only
   omega
 rw [Bool.eq_iff_iff]; simp; omega

theorem Ypt {h : Y9z} (u : Yof h) {r : Int} (hr : 1 ≤ r ∧ r ≤ 3) {k : Nat} (hk : k < (rmG h r).events.length) : Z8z (wOf h) r (k : Int) = some (shE h r (rmG h r).events[k]) := by
 obtain ⟨j, q⟩ := u.room hr
 have hpl := (q.right.walk.prev (id := (rmG h r).events[k].id) (List.mem_map.2 ⟨_, Wm hk, rfl⟩)).1
 have hev : evD (rmG h r).events (rmG h r).events[k].id = (rmG h r).events[k] := by unfold evD; rw [(q.right.fits.up.plc hk).2]; rfl
 rw [hev] at hpl
 have hh := Ypr u (rmG h r).events[k].id hr
 have hn := Yps u (rmG h r).events[k].id hr
 unfold Z8z
 rw [q.wrap, q.gr, Wb, Yfr hk, Wb, Yl8 _ (by omega), Wb, hh, Wb, hn]
 simp only [Z8y, beqd]
 unfold shE
 by_cases k7 : (rmG h r).events[k].kind = 7
 ·
  rw [Wt k7]
  by_cases hz : hidB h r (rmG h r).events[k].id = 0
  ·
   rw [Wf (fun x => x hz), if_neg fun x => x.2 hz]; rfl
  ·
   rw [Wt hz, if_pos ⟨.inl k7, hz⟩]; rfl
 ·
  rw [Wf k7]
  by_cases k4 : (rmG h r).events[k].kind = 4
  ·
   rw [Wt k4]
   by_cases hz : hidB h r (rmG h r).events[k].id = 0
   ·
    rw [Wf (fun x => x hz), if_neg fun x => x.2 hz]; rfl
   ·
    rw [Wt hz, if_pos ⟨.inr k4, hz⟩]; rfl
  ·
   rw [Wf k4, if_neg fun x => x.1.elim k7 k4]; rfl
end Go.Proofs.YtnoknphekhclcaaGreatDoor
namespace Go.Proofs.YtnoknphekhclcaaGreatDoor
open Go Go.Abs

end Go.Proofs.YtnoknphekhclcaaGreatDoor
namespace Go.Proofs.YtnoknphekhclcaaGreatDoor
open Go Go.Abs

section
variable {α : Type} (mk : Int → α → α) (w : α → Nat)
variable {mk w}
end


def Ypu (p : List Y9y) : Prop := p.length ≤ 1048576 ∧ ∀ g ∈ p, Ym3 g.events ∧ Ym3 g.parked

structure SmH (h : Y9z) : Prop where
 rg : Ypu h.rooms
 sl : h.stream.length ≤ 1048576
end Go.Proofs.YtnoknphekhclcaaGreatDoor
namespace Go.Proofs.YtnoknphekhclcaaGreatDoor
open Go Go.Abs


theorem Ypv {t x r : ByteArray} {i : Nat} (hi : i + x.size ≤ t.size) (h : Y2e t (i : Int) ((i + x.size : Nat) : Int) = some r) : (r.toList == x.toList) = Go.Lib.occAt t.data.toList x.data.toList i := by
 unfold Y2e at h
 rw [if_pos ⟨by omega, by omega, by omega⟩] at h
 obtain rfl := Wj h
 have ht : t.data.toList.length = t.size := Array.length_toList
 have hx : x.data.toList.length = x.size := Array.length_toList
 rw [Go.Lib.occAt_iff_take _ _ _ (by rw [hx, ht]; exact hi), ByteArray.toList_eq, ByteArray.toList_eq, hx, ByteArray.data_extract, Array.toList_extract, List.extract_eq_take_drop]
 rw [Int.toNat_natCast, Int.toNat_natCast, show i + x.size - i = x.size by omega]

theorem Ypw (t x : ByteArray) (ht : t.size ≤ 1000000) (h1 : 1 ≤ x.size) (hx : x.size ≤ 10) : Z82 t x = some (Go.Lib.contains t.data.toList x.data.toList) := by
 have lt : t.data.toList.length = t.size := Array.length_toList
 have lx : x.data.toList.length = x.size := Array.length_toList
 unfold Z82
 obtain ⟨o, e1, e2⟩ := Yfq (τ := Int) (ω := Bool ⊕ Unit) (σ := Unit) (step := Z81 t x) (n := t.size + 1 - x.size) (fun _ j => j) (fun i _ => ∀ j, j < i → Go.Lib.occAt t.data.toList x.data.toList j = false) (fun o => (o = .inl true ∧ Go.Lib.contains t.data.toList x.data.toList = true) ∨ (o = .inr () ∧ Go.Lib.contains t.data.toList x.data.toList = false)) (by omega) (by
  intro i _ hi hI
  have hw : IntKind.i64.wrap ((i : Int) + (x.size : Int)) = ((i + x.size : Nat) : Int) := by rw [Y4w (by omega) (by omega)]; omega
  have hs : Y2e t (i : Int) ((i + x.size : Nat) : Int) = some (t.extract i (i + x.size)) := by
   unfold Y2e
   rw [if_pos ⟨by omega, by omega, by omega⟩, Int.toNat_natCast, Int.toNat_natCast]
  unfold Z81
  rw [hw, Wt (by omega : ((i + x.size : Nat) : Int) ≤ (t.size : Int)), Wu, hs, Wb, Ypv (by omega) hs, Y4w (by omega) (by omega)]
  cases ho : Go.Lib.occAt t.data.toList x.data.toList i with
  | true =>
   refine .inr ⟨_, rfl, .inl ⟨rfl, ?_⟩⟩
   unfold Go.Lib.contains
   rw [Go.Lib.index_first (by rw [lt]; omega) ho hI]
   exact Wt (by omega)
  | false =>
   refine .inl ⟨(), rfl, fun j hj => ?_⟩
   by_cases hji : j = i
   ·
    rw [hji]; exact ho
   ·
    exact hI j (by omega)) (by
  intro _ hI
  have hw : IntKind.i64.wrap (((t.size + 1 - x.size : Nat) : Int) + (x.size : Int)) = ((t.size + 1 - x.size + x.size : Nat) : Int) := by rw [Y4w (by omega) (by omega)]; omega
  unfold Z81
  rw [hw, Wf (by omega : ¬ ((t.size + 1 - x.size + x.size : Nat) : Int) ≤ (t.size : Int)), Wv]
  refine ⟨_, rfl, .inr ⟨rfl, ?_⟩⟩
  unfold Go.Lib.contains
  rw [Go.Lib.index_none fun j hj => ?_]
  ·
   rfl
  ·
   cases ho : Go.Lib.occAt t.data.toList x.data.toList j with
   | false => rfl
   | true =>
    rcases Go.Lib.occAt_room ho with h | h
    ·
     rw [lx, lt] at h
     rw [hI j (by omega)] at ho; cases ho
    ·
     rw [h] at lx; simp at lx; omega) (s := ()) (fun j hj => absurd hj (Nat.not_lt_zero _))
 rw [show iter (Z81 t x) big 0 = some o from e1, Wb]
 rcases e2 with ⟨rfl, h⟩ | ⟨rfl, h⟩ <;> rw [h] <;> rfl


theorem Ypx {e : Y9t} (h : Ygf e = true) (hk : e.kind = 7 ∨ e.kind = 4) : e.text.size ≤ 1000000 := by
 have hb := Ygg e
 rw [h] at hb
 by_cases hc : e.text.size ≤ 1000000
 ·
  exact hc
 ·
  exfalso
  unfold Z2b Z23 Z24 Z25 Z26 Z27 Z28 Z29 Z2a at hb
  have hd : decide ((e.text.size : Int) ≤ 30) = false := Wf (by omega)
  rcases hk with hk | hk <;> simp [hk, hd, Yfx, Yfv, Yfw] at hb <;> omega

theorem Ypy (h : Y9z) (r : Int) (e : Y9t) (ht : e.text.size ≤ 1000000) : (shE h r e).event.text.size ≤ 1000000 := by
 unfold shE
 split
 ·
  show ByteArray.empty.size ≤ 1000000; decide
 ·
  exact ht


end Go.Proofs.YtnoknphekhclcaaGreatDoor
namespace Go.Proofs.YtnoknphekhclcaaGreatDoor
open Go Go.Abs


theorem Ypz {τ ω : Type} {step : τ → Option (τ ⊕ ω)} {x y : τ} {o : ω} (h1 : step x = some (.inl y)) (h2 : step y = some (.inr o)) : iter step big x = some o := by
 obtain ⟨k, hk⟩ : ∃ k, big = k + 1 + 1 := ⟨2 ^ 64 - 2, by decide⟩
 rw [hk, iter, h1]
 simp [iter, h2]

theorem Yq0 {n : Int} (h : 1 ≤ n ∧ n ≤ 6) : ∃ t : ByteArray, Z88 n = some t ∧ Zka n = some t ∧ t.size = 1 := by
 have key : ∀ n : Nat, 1 ≤ n → n ≤ 6 → ∃ t : ByteArray, Z88 n = some t ∧ Zka n = some t ∧ t.size = 1 := by
  intro n h1 h2
  refine ⟨⟨#[UInt8.ofNat (48 + n)]⟩, ?_, ?_, rfl⟩
  ·
   have e : iter (fun z21 : Int × ByteArray => Z87 z21.1 z21.2) big ((n : Int), ByteArray.empty) = some ⟨#[UInt8.ofNat (48 + n)]⟩ := by
    have hc : n = 1 ∨ n = 2 ∨ n = 3 ∨ n = 4 ∨ n = 5 ∨ n = 6 := by omega
    rcases hc with rfl | rfl | rfl | rfl | rfl | rfl <;> exact Ypz (y := (0, _)) rfl rfl
   unfold Z88
   rw [show ((n : Int) == 0) = false by rw [beqd]; exact Wf (by omega), Wv, e, Wb]
   unfold Z85 Z84
   rw [Wf (by omega : ¬ (n : Int) < 0), Wv]
  ·
   unfold Zka Zk8
   rw [Y4x (Wt (by omega)), Wb, Wb, Int.toNat_natCast, Go.Lib.decDigits, dif_pos (by omega)]
 obtain ⟨m, rfl⟩ := Int.eq_ofNat_of_zero_le (by omega : 0 ≤ n)
 exact key m (by omega) (by omega)


def Yq1 (r : Y9x) : Bool :=
 decide (1 ≤ r.kind ∧ r.kind ≤ 5) && (decide (0 ≤ r.loud ∧ r.loud ≤ 2) && ((decide (r.kind = 1) == !decide ((r.text.size : Int) = 0)) && (!decide ((r.text.size : Int) > 10) &&
  (if r.kind = 2 then decide (1 ≤ r.n ∧ r.n ≤ 6) else if r.kind = 3 then decide (1 ≤ r.n ∧ r.n ≤ 3) else decide (r.n = 0)))))

theorem Yq2 (r : Y9x) : Z7s r = some (Yq1 r) := by
 unfold Z7s Z7r Z7q Z7o Yq1
 simp only [Yfv, Yfx, Wb, Yge, beqd]
 by_cases k2 : r.kind = 2
 ·
  cases decide (1 ≤ r.kind ∧ r.kind ≤ 5) <;> cases decide (0 ≤ r.loud ∧ r.loud ≤ 2) <;> cases (decide (r.kind = 1) == !decide ((r.text.size : Int) = 0)) <;> cases decide ((r.text.size : Int) > 10) <;> simp [k2]
 ·
  by_cases k3 : r.kind = 3
  ·
   cases decide (1 ≤ r.kind ∧ r.kind ≤ 5) <;> cases decide (0 ≤ r.loud ∧ r.loud ≤ 2) <;> cases (decide (r.kind = 1) == !decide ((r.text.size : Int) = 0)) <;> cases decide ((r.text.size : Int) > 10) <;> simp [k3]
  ·
   cases decide (1 ≤ r.kind ∧ r.kind ≤ 5) <;> cases decide (0 ≤ r.loud ∧ r.loud ≤ 2) <;> cases (decide (r.kind = 1) == !decide ((r.text.size : Int) = 0)) <;> cases decide ((r.text.size : Int) > 10) <;> simp [k2, k3]

theorem Yq3 (r : Y9x) : Zhu r = some (Yq1 r) := by
 have e1 : decide (1 ≤ (r.text.size : Int) ∧ (r.text.size : Int) ≤ 10) = (!decide ((r.text.size : Int) = 0) && !decide ((r.text.size : Int) > 10)) := by
  by_cases h0 : (r.text.size : Int) = 0
  ·
   rw [Wt h0, Wf (by omega)]; rfl
  ·
   rw [Wf h0]
   by_cases h1 : (r.text.size : Int) > 10
   ·
    rw [Wt h1, Wf (by omega)]; rfl
   ·
    rw [Wf h1, Wt (by omega)]; rfl
 have e2 : decide ((r.text.size : Int) = 0) = true → decide ((r.text.size : Int) > 10) = false := fun h => by have := Wo h; exact Wf (by omega)
 unfold Zhu Zht Zhs Zhq Yq1
 simp only [c_in, Yg1, Yfz, Wb, Yge, beqd, e1]
 generalize decide ((r.text.size : Int) = 0) = z at e2
 generalize decide ((r.text.size : Int) > 10) = t at e2
 by_cases k1 : r.kind = 1
 ·
  cases decide (0 ≤ r.loud ∧ r.loud ≤ 2) <;> cases decide (r.n = 0) <;> cases z <;> cases t <;> simp_all
 ·
  by_cases k2 : r.kind = 2
  ·
   cases decide (0 ≤ r.loud ∧ r.loud ≤ 2) <;> cases decide (1 ≤ r.n ∧ r.n ≤ 6) <;> cases z <;> cases t <;> simp_all
  ·
   by_cases k3 : r.kind = 3
   ·
    cases decide (0 ≤ r.loud ∧ r.loud ≤ 2) <;> cases decide (1 ≤ r.n ∧ r.n ≤ 3) <;> cases z <;> cases t <;> simp_all
   ·
    cases decide (1 ≤ r.kind ∧ r.kind ≤ 5) <;> cases decide (0 ≤ r.loud ∧ r.loud ≤ 2) <;> cases decide (r.n = 0) <;> cases z <;> cases t <;> simp_all

theorem Yq4 {r : Y9x} (h : Yq1 r = true) : r.text.size ≤ 10 ∧ (r.kind = 1 → 1 ≤ r.text.size) := by
 unfold Yq1 at h
 simp only [Bool.and_eq_true, Bool.not_eq_true', decide_eq_false_iff_not, beq_iff_eq] at h
 obtain ⟨_, _, h3, h4, _⟩ := h
 refine ⟨by omega, fun k => ?_⟩
 rw [Wt k] at h3
 have : ¬ (r.text.size : Int) = 0 := fun h0 => by rw [Wt h0] at h3; cases h3
 omega

theorem Yq5 {α ω : Type} {l : List α} {step : Int → Option (Int ⊕ ω)} (p : α → Bool) (f : α → ω) (z : ω) (hl : l.length < 9223372036854775807)
  (h1 : ∀ (i : Nat) (hi : i < l.length), step (i : Int) = some (cond (p l[i]) (.inr (f l[i])) (.inl ((i + 1 : Nat) : Int)))) (h2 : step (l.length : Int) = some (.inr z)) :
  iter step big 0 = some (match l.find? p with | some y => f y | none => z) := by
 obtain ⟨o, e1, e2⟩ := Yfq (τ := Int) (ω := ω) (σ := Unit) (step := step) (n := l.length) (fun _ j => j) (fun i _ => (l.take i).find? p = none) (fun o => o = match l.find? p with | some y => f y | none => z) hl (by
  intro i _ hi hI
  rw [h1 i hi]
  have e0 : l.take (i + 1) = l.take i ++ [l[i]] := by rw [List.take_add_one, We hi]; rfl
  have e3 : l = l.take i ++ l[i] :: l.drop (i + 1) := by rw [← List.drop_eq_getElem_cons hi, List.take_append_drop]
  cases hp : p l[i] with
  | true =>
   refine .inr ⟨_, rfl, ?_⟩
   have e5 : (l.take i ++ l[i] :: l.drop (i + 1)).find? p = some l[i] := by
    rw [List.find?_append, hI, List.find?_cons_of_pos hp]; rfl
   rw [(congrArg (List.find? p) e3).trans e5]
  | false =>
   refine .inl ⟨(), rfl, ?_⟩
   rw [e0, List.find?_append, hI, List.find?_cons_of_neg (by simp [hp])]; rfl) (by
  intro _ hI
  rw [List.take_length] at hI
  rw [hI, h2]
  exact ⟨_, rfl, rfl⟩) (s := ()) (by simp)
 rw [show iter step big 0 = some o from e1, e2]

def Yq6 (l : List Y9x) : Bool := decide ((l.length : Int) ≤ 20) && l.all Yq1
theorem Yq7 (l : List Y9x) (hl : l.length ≤ 1048576) : Z7w l = some (Yq6 l) := by
 unfold Z7w Yq6
 by_cases h : (l.length : Int) > 20
 ·
  rw [Wt h, Wf (by omega)]; rfl
 ·
  rw [Wf h, Wt (by omega), Wv, Yg7 (l := l) (step := Z7v l) Yq1 (.inl false) (.inr ()) (by omega) (fun i hi => by
   unfold Z7v
   rw [dlt hi, Wu, Yfr hi, Wb, Yq2, Wb, Yfs hi (by omega)]
   cases Yq1 l[i] <;> rfl) (by unfold Z7v; rw [dnlt, Wv])]
  cases l.all Yq1 <;> rfl
theorem Yq8 (l : List Y9x) (hl : l.length ≤ 1048576) : Zi5 l = some (Yq6 l) := by
 unfold Zi5 Yq6
 by_cases h : (l.length : Int) ≤ 20
 ·
  rw [Wt h, Wu]
  unfold Zi2 Zi0
  rw [Yga (Yg5 (l := l) (step := Zhz l) (fun x => !Yq1 x) (by omega) (fun i hi => by
   simp only [Zhz, Zhw]
   rw [dlt hi, Wu, Yfr hi, Wb, Yq3, Wb, Wb, Yfs hi (by omega)]
   cases Yq1 l[i] <;> rfl) (by simp only [Zhz]; rw [dnlt, Wv])) (fun _ => rfl) rfl]
  rw [Wb, Yg9, Yku, Wb, Bool.not_not]; rfl
 ·
  rw [Wf h]; rfl


def Yq9 (user : Int) : ByteArray := ByteArray.mk #[64] ++ (Z88 user).getD ByteArray.empty
def hitB (user : Int) (r : Y9x) (room : Int) (e : Y9t) : Bool :=
 if r.kind = 1 then Go.Lib.contains e.text.data.toList r.text.data.toList else if r.kind = 2 then decide (e.author = r.n) else if r.kind = 3 then decide (room = r.n) else if r.kind = 4 then Go.Lib.contains e.text.data.toList (Yq9 user).data.toList else true

theorem Yqa {user : Int} (hu : 1 ≤ user ∧ user ≤ 6) : Z88 user = some ((Z88 user).getD ByteArray.empty) ∧ Zka user = some ((Z88 user).getD ByteArray.empty) ∧ (Yq9 user).size = 2 ∧ chk (decide ((ByteArray.mk #[64]).size + ((Z88 user).getD ByteArray.empty).size ≤ 9223372036854775807)) = some () := by
 obtain ⟨t, h1, h2, h3⟩ := Yq0 hu
 unfold Yq9
 rw [h1, Option.getD_some]
 refine ⟨rfl, h2, ?_, Y4x (Wt ?_)⟩
 ·
  rw [ByteArray.size_append, h3]; rfl
 ·
  rw [h3]; decide

theorem Yqb {h : Y9z} (u : Yof h) {user : Int} (hu : 1 ≤ user ∧ user ≤ 6) {r : Y9x} (hr : Yq1 r = true) {room : Int} (ho : 1 ≤ room ∧ room ≤ 3) {k : Nat} (hk : k < (rmG h room).events.length)
  (ht : (shE h room (rmG h room).events[k]).event.text.size ≤ 1000000) : Z91 (wOf h) user r room (k : Int) = some (hitB user r room (shE h room (rmG h room).events[k]).event) := by
 obtain ⟨t1, t2⟩ := Yq4 hr
 obtain ⟨c1, _, c3, c4⟩ := Yqa hu
 unfold Z91 hitB
 rw [Ypt u ho hk, Wb]
 simp only [beqd]
 by_cases k1 : r.kind = 1
 ·
  rw [Wt k1, if_pos k1, Wu, Ypw _ _ ht (t2 k1) t1]; rfl
 rw [Wf k1, if_neg k1, Wv]
 by_cases k2 : r.kind = 2
 ·
  rw [Wt k2, if_pos k2, Wu]
 rw [Wf k2, if_neg k2, Wv]
 by_cases k3 : r.kind = 3
 ·
  rw [Wt k3, if_pos k3, Wu]
 rw [Wf k3, if_neg k3, Wv]
 by_cases k4 : r.kind = 4
 ·
  rw [Wt k4, if_pos k4, Wu, c1, Wb, c4, Wb]
  show (Z82 _ (Yq9 user)).bind _ = _
  rw [Ypw _ (Yq9 user) ht (by omega) (by omega)]; rfl
 ·
  rw [Wf k4, if_neg k4, Wv]

theorem Yqc (t x : ByteArray) (ht : t.size ≤ 1000000) : Zk6 t x = some (Go.Lib.contains t.data.toList x.data.toList) := by
 unfold Zk6
 rw [Y4x (Wt (by omega)), Wb]

theorem Yqd {user : Int} (hu : 1 ≤ user ∧ user ≤ 6) (r : Y9x) {room : Int} {e : Y9t} (he : e.room = room) (ht : e.text.size ≤ 1000000) : Zkc r user e = some (hitB user r room e) := by
 obtain ⟨_, c2, _, c4⟩ := Yqa hu
 unfold Zkc hitB
 simp only [beqd]
 rw [he]
 by_cases k1 : r.kind = 1
 ·
  rw [Wt k1, if_pos k1, Wu, Yqc _ _ ht]; rfl
 rw [Wf k1, if_neg k1, Wv]
 by_cases k2 : r.kind = 2
 ·
  rw [Wt k2, if_pos k2, Wu]
 rw [Wf k2, if_neg k2, Wv]
 by_cases k3 : r.kind = 3
 ·
  rw [Wt k3, if_pos k3, Wu]
 rw [Wf k3, if_neg k3, Wv]
 by_cases k4 : r.kind = 4
 ·
  rw [Wt k4, if_pos k4, Wu, c2, Wb, c4, Wb]
  show (Zk6 _ (Yq9 user)).bind _ = _
  rw [Yqc _ _ ht]; rfl
 ·
  rw [Wf k4, if_neg k4, Wv]

theorem Yqe (h : Y9z) (r : Int) (e : Y9t) : (shE h r e).event.room = e.room := by
 unfold shE; split <;> rfl

theorem Yqf {h : Y9z} (u : Yof h) {r : Int} (hr : 1 ≤ r ∧ r ≤ 3) {e : Y9t} (he : e ∈ (rmG h r).events) (h7 : e.kind = 7) : (shE h r e).event.room = r ∧ (shE h r e).event.text.size ≤ 1000000 := by
 obtain ⟨k, q⟩ := u.room hr
 refine ⟨?_, Ypy h r e (Ypx (q.right.ev e he).body (.inl h7))⟩
 obtain ⟨g, hg, hge⟩ : ∃ (j : Nat) (hj : j < h.rooms.length), h.rooms[j] = rmG h r := List.mem_iff_getElem.1 q.mem
 have := (u.rooms g hg).1.ev
 rw [hge] at this
 rw [Yqe, (this e he).2, q.room]

end Go.Proofs.YtnoknphekhclcaaGreatDoor
namespace Go.Proofs.YtnoknphekhclcaaGreatDoor
open Go Go.Abs


theorem Yqg (p : List Y9x) (n : Int) (hl : p.length ≤ maxLen) (hp : ∀ x ∈ p, x.text.size ≤ maxLen) (h0 : 0 ≤ n) (hn : n ≤ 1048576) : ∃ r, Zp p n = some r ∧ ((0 ≤ r ∧ r ≤ n ∧ p.length ≤ 1048576) ∨ r = -1) := by
 simp only [maxLen] at hl hp
 unfold Zp
 rw [Y4w (by omega) (by omega)]
 by_cases h : n - (p.length : Int) < 0
 ·
  rw [Wt h]; exact ⟨_, rfl, .inr rfl⟩
 ·
  rw [Wf h, Wv]
  obtain ⟨o, h1, h2⟩ := Yfq (τ := Int × Int) (ω := Int ⊕ Int) (σ := Int) (step := fun z : Int × Int => Zo p z.1 z.2) (n := p.length) (fun s j => (s, j))
   (fun i s => 0 ≤ s ∧ s ≤ n) (fun o => o = .inl (-1) ∨ ∃ r, o = .inr r ∧ 0 ≤ r ∧ r ≤ n) (by omega) (by
   rintro i s hi ⟨hs0, hsn⟩
   have hx := hp _ (Wm hi)
   simp only [Zo]
   rw [dlt hi, Wu, Yfr hi, Wb, Yfs hi (by omega)]
   unfold Zl
   rw [Y4w (by omega) (by omega)]
   by_cases h5 : s - (p[i].text.size : Int) < 0
   ·
    rw [Wt h5]; exact .inr ⟨_, rfl, .inl rfl⟩
   ·
    rw [Wf h5, Wv, Wb, Wf h5]
    exact .inl ⟨_, rfl, by omega, by omega⟩) (by
   rintro s ⟨hs0, hsn⟩
   simp only [Zo]
   rw [dnlt, Wv]
   exact ⟨_, rfl, .inr ⟨s, rfl, hs0, hsn⟩⟩) (s := n - (p.length : Int)) ⟨by omega, by omega⟩
  rw [h1, Wb]
  rcases h2 with rfl | ⟨r, rfl, h3, h4⟩
  ·
   exact ⟨_, rfl, .inr rfl⟩
  ·
   exact ⟨_, rfl, .inl ⟨h3, h4, by omega⟩⟩
theorem Yqh (p : List Y9x) (hl : p.length ≤ 1048576) : Z1n p = some p := by
 unfold Z1n
 rw [Y4x (Wt ⟨by omega, by omega⟩), Wb, Int.toNat_natCast]
 rw [Ym6 (xs := p) (fun x => x) (by omega) (fun i s hi hs => by
  simp only [Z1m, Z1j]
  rw [dlt hi, Wu, Yfr hi, Wb, Wb, Yfr (by omega : i < s.length), Wb, Yfs hi (by omega), Int.toNat_natCast]) (fun s => by simp only [Z1m]; rw [dnlt, Wv])]
 simp [Z1l]
theorem Yqi (p : List Y9x) (hl : p.length ≤ 1048576) : Zmf p p = some true := by
 unfold Zmf
 rw [bned, Wt rfl]
 simp only [Bool.not_true, Wv]
 rw [Yg7 (l := p) (fun _ => true) (.inl false) (.inr ()) (by omega) (fun i hi => by
  simp only [Zme]
  rw [dlt hi, Wu, Yfr hi, Wb, Wb, show Zmb p[i] p[i] = some true from by unfold Zmb; simp, Wb, Yfs hi (by omega)]; rfl) (by simp only [Zme]; rw [dnlt, Wv])]
 rw [show (p.all fun _ => true) = true by simp]; rfl


def Yqj (user : Int) (l : List Y9x) (room : Int) (e : Y9t) : Int := match l.find? (fun r => hitB user r room e) with
 | some r => r.loud
 | none => 0

theorem Yqk {h : Y9z} (u : Yof h) {user : Int} (hu : 1 ≤ user ∧ user ≤ 6) {l : List Y9x} (hr : ∀ r ∈ l, Yq1 r = true) (hl : l.length ≤ 1048576) {room : Int} (ho : 1 ≤ room ∧ room ≤ 3) {k : Nat} (hk : k < (rmG h room).events.length)
  (ht : (shE h room (rmG h room).events[k]).event.text.size ≤ 1000000) : Z95 (wOf h) user l room (k : Int) = some (Yqj user l room (shE h room (rmG h room).events[k]).event) := by
 unfold Z95 Yqj
 rw [Yq5 (l := l) (step := Z94 (wOf h) user l room (k : Int)) (fun r => hitB user r room (shE h room (rmG h room).events[k]).event) (fun r => Sum.inl r.loud) (Sum.inr ()) (by omega) (fun i hi => by
  unfold Z94
  rw [dlt hi, Wu, Yfr hi, Wb, Yqb u hu (hr _ (Wm hi)) ho hk ht, Wb, Yfs hi (by omega)]
  cases hitB user l[i] room (shE h room (rmG h room).events[k]).event <;> rfl) (by unfold Z94; rw [dnlt, Wv]), Wb]
 cases l.find? fun r => hitB user r room (shE h room (rmG h room).events[k]).event <;> rfl
theorem Yql {user : Int} (hu : 1 ≤ user ∧ user ≤ 6) {l : List Y9x} (hl : l.length ≤ 1048576) {room : Int} {e : Y9t} (he : e.room = room) (ht : e.text.size ≤ 1000000) : Zkg user l e = some (Yqj user l room e) := by
 unfold Zkg Yqj
 rw [Yq5 (l := l) (step := Zkf user l e) (fun r => hitB user r room e) (fun r => Sum.inl r.loud) (Sum.inr ()) (by omega) (fun i hi => by
  unfold Zkf
  rw [dlt hi, Wu, Yfr hi, Wb, Yqd hu _ he ht, Wb, Yfs hi (by omega)]
  cases hitB user l[i] room e <;> rfl) (by unfold Zkf; rw [dnlt, Wv]), Wb]
 cases l.find? fun r => hitB user r room e <;> rfl

theorem Yqm {l : List Y9x} (h : Yq6 l = true) : ∀ r ∈ l, Yq1 r = true := by
 unfold Yq6 at h
 exact List.all_eq_true.1 (Bool.and_eq_true_iff.1 h).2

theorem Yqn {h : Y9z} (u : Yof h) (m : Y9w) (r at_ : Int) : (newI h m r at_).length ≤ 120 := Nat.le_trans (List.length_filter_le _ _) (Yp3 u m.user r)

theorem Yqo {h : Y9z} (u : Yof h) (m : Y9w) {r at_ : Int} (hr : 1 ≤ r ∧ r ≤ 3) {j : Nat} (hj : j ∈ newI h m r at_) :
  ∃ (k0 : Nat) (hk0 : k0 < (rmG h r).events.length), plc (rmG h r).events (spA h j).id = k0 ∧ (rmG h r).events[k0] = evA h r j ∧ (shE h r (evA h r j)).event.room = r ∧ (shE h r (evA h r j)).event.text.size ≤ 1000000 := by
 obtain ⟨h1, h2⟩ := List.mem_filter.1 hj
 obtain ⟨m1, m2, _⟩ := Yp2 h1
 obtain ⟨k, q⟩ := u.room hr
 obtain ⟨k0, hk0, p1, p2, _⟩ := Ypp u q m1 m2
 have h7 : (evA h r j).kind = 7 := by
  unfold newB at h2
  exact Wo (Bool.and_eq_true_iff.1 h2).1
 obtain ⟨a1, a2⟩ := Yqf u hr (e := evA h r j) (by rw [← p2]; exact Wm hk0) h7
 exact ⟨k0, hk0, p1, p2, a1, a2⟩

def cntB (h : Y9z) (user : Int) (l : List Y9x) (r loud : Int) (q : Int) (j : Nat) : Int := if Yqj user l r (shE h r (evA h r j)).event = loud then q + 1 else q

theorem Yqp {h : Y9z} (u : Yof h) (m : Y9w) (hu : 1 ≤ m.user ∧ m.user ≤ 6) {l : List Y9x} (hrb : ∀ r ∈ l, Yq1 r = true) (hl : l.length ≤ 1048576) {r : Int} (hr : 1 ≤ r ∧ r ≤ 3) (at_ loud : Int) :
  iter (fun z : Int × Int => Z99 m l r loud (wOf h, true) ((newI h m r at_).map fun i => plc (rmG h r).events (spA h i).id) z.1 z.2) big (0, 0) = some ((newI h m r at_).foldl (cntB h m.user l r loud) 0) := by
 have hn := Yqn u m r at_
 have := Yg8 (l := newI h m r at_) (step := fun z : Int × Int => Z99 m l r loud (wOf h, true) ((newI h m r at_).map fun i => plc (rmG h r).events (spA h i).id) z.1 z.2) (fun q j => (q, j)) (fun q => q) (cntB h m.user l r loud) (fun i q => 0 ≤ q ∧ q ≤ i) (by omega) (fun i q hi hq => by
  obtain ⟨k0, hk0, p1, p2, _, a2⟩ := Yqo u m hr (Wm hi)
  refine ⟨?_, by unfold cntB; split <;> omega⟩
  rw [← p2] at a2
  simp only [Z99]
  rw [List.length_map, dlt hi, Wu, Ymt _ hi, Wb, p1, Yqk u hu hrb hl hr hk0 a2, Wb, p2, beqd]
  simp only [Z98, Yfs hi (by omega : (newI h m r at_).length < 9223372036854775807)]
  unfold cntB
  by_cases hb : Yqj m.user l r (shE h r (evA h r (newI h m r at_)[i])).event = loud
  ·
   rw [Wt hb, if_pos hb, Wu, Y4w (by omega) (by omega)]
  ·
   rw [Wf hb, if_neg hb, Wv])
  (fun q _ => by simp only [Z99]; rw [List.length_map, dnlt, Wv]) (s := 0) ⟨by omega, by omega⟩
 exact this.1

theorem Yqq {h : Y9z} (u : Yof h) (m : Y9w) (hu : 1 ≤ m.user ∧ m.user ≤ 6) {l : List Y9x} (hl : l.length ≤ 1048576) {r : Int} (hr : 1 ≤ r ∧ r ≤ 3) (at_ loud : Int) :
  iter (fun z : Int × Int => Zlh m l loud ((newI h m r at_).map fun i => shE h r (evA h r i)) z.1 z.2) big (0, 0) = some ((newI h m r at_).foldl (cntB h m.user l r loud) 0) := by
 have hn := Yqn u m r at_
 have := Yg8 (l := newI h m r at_) (step := fun z : Int × Int => Zlh m l loud ((newI h m r at_).map fun i => shE h r (evA h r i)) z.1 z.2) (fun q j => (q, j)) (fun q => q) (cntB h m.user l r loud) (fun i q => 0 ≤ q ∧ q ≤ i) (by omega) (fun i q hi hq => by
  obtain ⟨k0, hk0, p1, p2, a1, a2⟩ := Yqo u m hr (Wm hi)
  refine ⟨?_, by unfold cntB; split <;> omega⟩
  simp only [Zlh]
  rw [List.length_map, dlt hi, Wu, Ymt _ hi, Wb, Yql hu hl a1 a2, Wb, beqd]
  simp only [Zlg, Yfs hi (by omega : (newI h m r at_).length < 9223372036854775807)]
  unfold cntB
  by_cases hb : Yqj m.user l r (shE h r (evA h r (newI h m r at_)[i])).event = loud
  ·
   rw [Wt hb, if_pos hb, Wu, Y4w (by omega) (by omega)]
  ·
   rw [Wf hb, if_neg hb, Wv])
  (fun q _ => by simp only [Zlh]; rw [List.length_map, dnlt, Wv]) (s := 0) ⟨by omega, by omega⟩
 exact this.1

theorem Yqr {h : Y9z} (hf : Ynr h) (m : Y9w) (hm : m.at_.length ≤ 1048576) (l : List Y9x) (hl : l.length ≤ 1048576) (r loud : Int) : ∃ n, Z9b h m l r loud = some n ∧ Zlj h m l r loud = some n := by
 obtain ⟨b, b1, b2, b3⟩ := Yoh hf
 obtain ⟨m1, m2⟩ := Ypb m hm
 unfold Z9b Zlj
 rw [b2, b3, Wb, Wb]
 cases b with
 | false => exact ⟨_, rfl, rfl⟩
 | true =>
  have u := b1 rfl
  simp only [Wu]
  unfold Z7o Zhq
  rw [m1, m2, Yq7 l hl, Yq8 l hl, Yfv, Yfz, Yfv, c_in]
  simp only [Wb]
  cases hmb : marB m with
  | false => exact ⟨_, rfl, rfl⟩
  | true =>
   obtain ⟨k1, k2, k3⟩ := Ypa hmb
   cases hrb : Yq6 l with
   | false => exact ⟨_, rfl, rfl⟩
   | true =>
    simp only [Wu]
    by_cases hr : 1 ≤ r ∧ r ≤ 3
    rotate_left
    ·
     rw [Wf hr]; exact ⟨_, rfl, rfl⟩
    rw [Wt hr]
    simp only [Wu]
    by_cases ho : 0 ≤ loud ∧ loud ≤ 2
    rotate_left
    ·
     rw [Wf ho]; exact ⟨_, rfl, rfl⟩
    rw [Wt ho]
    obtain ⟨k, q⟩ := u.room hr
    have hlt := q.lt
    have h3 := u.three
    have hka : k < m.at_.length := by omega
    have ha : getI m.at_ (IntKind.i64.wrap (r - 1)) = some m.at_[k] := by rw [q.wrap]; exact Yfr hka
    simp only [Bool.not_true, Z9a, Zli, Wv]
    rw [Ypn u m hr ha (k3 _ (Wm hka)), Ypo u m hr ha, Wb, Wb, Yqq u m k1 hl hr, Yqp u m k1 (Yqm hrb) hl hr]
    exact ⟨_, rfl, rfl⟩


end Go.Proofs.YtnoknphekhclcaaGreatDoor
