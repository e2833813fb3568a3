/- Plain laws for the graphs: who is ahead of whom; depths rise. -/
import Derived.Test.YtomachnjepgpbaaGreatEGO
set_option autoImplicit false
set_option linter.unusedVariables false
set_option linter.unusedSimpArgs false
namespace Go.Proofs.YtomachnjepgpbaaGreat
open Go Go.Abs

inductive Bf (l : List Y9j) (a : Int) : List Int → List Int → Bool → Prop
 | nil (seen : List Int) : Bf l a seen [] false
 | hit (seen r : List Int) : Bf l a seen (a :: r) true
 | skip (seen r : List Int) (id : Int) (b : Bool) : id ≠ a → id ∈ seen → Bf l a seen r b → Bf l a seen (id :: r) b
 | more (seen r : List Int) (id : Int) (b : Bool) : id ≠ a → id ∉ seen → Bf l a (id :: seen) (r ++ (evD l id).prev) b → Bf l a seen (id :: r) b

theorem Bf.det {l : List Y9j} {a : Int} {seen todo : List Int} {b1 b2 : Bool} (h1 : Bf l a seen todo b1) (h2 : Bf l a seen todo b2) : b1 = b2 := by
 induction h1 with
 | nil => cases h2; rfl
 | hit => cases h2 <;> first | rfl | contradiction
 | skip _ _ _ _ n1 m1 _ ih =>
  cases h2 with
  | hit => exact absurd rfl n1
  | skip _ _ _ _ _ _ h => exact ih h
  | more _ _ _ _ _ m2 _ => exact absurd m1 m2
 | more _ _ _ _ n1 m1 _ ih =>
  cases h2 with
  | hit => exact absurd rfl n1
  | skip _ _ _ _ _ m2 _ => exact absurd m2 m1
  | more _ _ _ _ _ _ h => exact ih h

def Yi9 (l : List Y9j) (seen : List Int) : Nat := l.countP fun e => !decide (e.id ∈ seen)
theorem Yia {l : List Y9j} {seen : List Int} {id : Int} (hi : id ∈ l.map (·.id)) (hn : id ∉ seen) : Yi9 l (id :: seen) < Yi9 l seen := by
 have key : ∀ l : List Y9j, Yi9 l (id :: seen) ≤ Yi9 l seen ∧ (id ∈ l.map (·.id) → Yi9 l (id :: seen) < Yi9 l seen) := by
  intro l
  unfold Yi9
  induction l with
  | nil => simp
  | cons e l ih =>
   obtain ⟨i1, i2⟩ := ih
   by_cases he : e.id = id
   ·
    rw [List.countP_cons_of_neg (by simp [he]), List.countP_cons_of_pos (by simp [he, hn])]
    exact ⟨by omega, fun _ => by omega⟩
   ·
    by_cases hs : e.id ∈ seen
    ·
     rw [List.countP_cons_of_neg (by simp [hs]), List.countP_cons_of_neg (by simp [hs])]
     refine ⟨i1, fun h => i2 ?_⟩
     simp only [List.map_cons, List.mem_cons] at h
     exact h.resolve_left fun h => he h.symm
    ·
     rw [List.countP_cons_of_pos (by simp [hs, he]), List.countP_cons_of_pos (by simp [hs])]
     refine ⟨by omega, fun h => ?_⟩
     simp only [List.map_cons, List.mem_cons] at h
     have := i2 (h.resolve_left fun h => he h.symm)
     omega
 exact (key l).2 hi
theorem Yib (l : List Y9j) (seen : List Int) : Yi9 l seen ≤ l.length := List.countP_le_length

structure Walk (g : Y9k) : Prop where
 fits : Fits g.events
 ev : ∀ e ∈ g.events, EvOk e

theorem Walk.prev {g : Y9k} (h : Walk g) {id : Int} (hi : id ∈ g.events.map (·.id)) : (evD g.events id).prev.length ≤ 4 ∧ ∀ p ∈ (evD g.events id).prev, p ∈ g.events.map (·.id) := by
 obtain ⟨_, h2, _⟩ := Yi3 hi h.fits.up
 refine ⟨(h.ev _ h2).prev.1, fun p hp => ?_⟩
 obtain ⟨e, he, hid⟩ := Ydz.1 (h.fits.whole _ h2 p hp)
 exact List.mem_map.2 ⟨e, he, hid⟩

theorem Yic {l : List Y9j} {id : Int} : hasE l id = true ↔ id ∈ l.map (·.id) := by rw [Ydz, List.mem_map]

theorem Zk0 {g : Y9k} (h : Walk g) (a : Int) {e : Y9j} (he : e ∈ g.events) : ∃ b, Zcd g a e = some b ∧ Bf g.events a [] e.prev b := by
 have hfl := h.fits.len
 have hev : evD g.events e.id = e := by unfold evD; rw [h.fits.up.evAt_mem he]; rfl
 have hpe := h.prev (List.mem_map.2 ⟨e, he, rfl⟩)
 rw [hev] at hpe
 unfold Zcd
 have hcl : Zc7 e.prev = some e.prev := by unfold Zc7; rw [chk8 (by omega)]; rfl
 rw [hcl, Wb]
 obtain ⟨o, h1, h2⟩ := Y51 (step := fun z : List (Int × Bool) × List Int × Int => Zcc g a z.1 z.2.1 z.2.2) (p := fun o : Bool ⊕ Unit => ∃ b, Bf g.events a [] e.prev b ∧ ((o = .inl true ∧ b = true) ∨ (o = .inr () ∧ b = false)))
  (fun k (z : List (Int × Bool) × List Int × Int) => ∃ (seen : List Int) (at_ : Nat), z.2.2 = (at_ : Int) ∧ at_ ≤ z.2.1.length ∧ (∀ id, Option.getD (mget z.1 id) false = true ↔ id ∈ seen) ∧ (∀ id ∈ z.2.1, id ∈ g.events.map (·.id)) ∧ z.2.1.length + 5 * Yi9 g.events seen ≤ 400 ∧ (∀ b, Bf g.events a seen (z.2.1.drop at_) b → Bf g.events a [] e.prev b) ∧ k = (z.2.1.length - at_) + 5 * Yi9 g.events seen) (by
  rintro k ⟨m, q, x⟩ ⟨seen, at_, hx, hat, hm, hq, hb, hB, hk⟩
  simp only at hx hat hm hq hb hB hk
  subst hx
  simp only [Zcc]
  by_cases hlt : at_ < q.length
  ·
   rw [dlt hlt, Wu, Ycw hlt, Wb, beqd]
   rw [List.drop_eq_getElem_cons hlt] at hB
   have hqi := hq _ (Wm hlt)
   generalize q[at_] = id at hB hqi
   by_cases ha : id = a
   ·
    left
    rw [Wt ha, Wu]
    subst ha
    exact ⟨_, rfl, true, hB _ (.hit _ _), .inl ⟨rfl, rfl⟩⟩
   ·
    right
    rw [Wf ha, Wv]
    simp only [Zcb, Ycx hlt (by omega : q.length < 9223372036854775807)]
    by_cases hs : Option.getD (mget m id) false = true
    ·
     rw [hs, Wu]
     exact ⟨_, k - 1, rfl, by omega, seen, at_ + 1, rfl, by simp only; omega, hm, hq, hb, fun b h => hB b (.skip _ _ _ _ ha ((hm id).1 hs) h), by simp only; omega⟩
    ·
     rw [Bool.eq_false_iff.2 hs, Wv, c_at _ _ h.fits.up (by omega), Wb]
     have hns : id ∉ seen := fun h => hs ((hm id).2 h)
     have hp := h.prev hqi
     have hu := Yia hqi hns
     have e1 : (evAt g.events id).getD zEv = evD g.events id := rfl
     rw [e1, chk8 (by show q.length + (evD g.events id).prev.length < 1000000000; omega), Wb]
     refine ⟨_, (q.length + (evD g.events id).prev.length - (at_ + 1)) + 5 * Yi9 g.events (id :: seen), rfl, by omega, id :: seen, at_ + 1, rfl, by simp; omega, fun id' => ?_, fun id' hid => ?_, by simp; omega, fun b h => hB b ?_, by simp⟩
     ·
      rw [Y6b]
      by_cases h3 : id' = id
      ·
       rw [if_pos h3]; simp [h3]
      ·
       rw [if_neg h3, hm]; simp [h3]
     ·
      rcases List.mem_append.1 hid with hid | hid
      ·
       exact hq _ hid
      ·
       exact hp.2 _ hid
     ·
      refine .more _ _ _ _ ha hns ?_
      simp only at h
      rwa [List.drop_append_of_le_length (by omega)] at h
  ·
   left
   obtain rfl : at_ = q.length := by omega
   rw [dnlt, Wv]
   rw [List.drop_length] at hB
   exact ⟨_, rfl, false, hB _ (.nil _), .inr ⟨rfl, rfl⟩⟩) big (e.prev.length + 5 * Yi9 g.events []) ([], e.prev, 0) ⟨[], 0, rfl, by simp, by simp [mget], hpe.2, by have := Yib g.events []; simp only; omega, by simp, by simp⟩ (Ycr (by have := Yib g.events []; omega))
 obtain ⟨b, hb, h2⟩ := h2
 rw [h1, Wb]
 rcases h2 with ⟨rfl, rfl⟩ | ⟨rfl, rfl⟩
 ·
  exact ⟨true, rfl, hb⟩
 ·
  exact ⟨false, rfl, hb⟩

theorem Yid (e : Y9j) (h : e.prev.length < 1000000) : Z39 e = some e := by
 unfold Z39
 rw [chk8 (by simp; omega), Wb]
 rfl

theorem Yie {g : Y9k} (hl : g.events.length < 1000000) {e : Y9j} {id : Int} (he : evAt g.events id = some e) (hp : e.prev.length < 1000000) : Zgj g id = some e := by
 unfold Zgj
 obtain ⟨h1, h2⟩ := Ygs he
 rw [Ydt _ _ (by omega), Wb, Wf (by omega), Wv, h1, Wb, Yid _ hp]; rfl

theorem Zk1 {g : Y9k} (h : Walk g) (a : Int) (ha : a ∈ g.events.map (·.id)) {e : Y9j} (he : e ∈ g.events) : ∃ b, Zgo g a e.id = some b ∧ Bf g.events a [] e.prev b := by
 have hfl := h.fits.len
 have hee := h.fits.up.evAt_mem he
 have hev : evD g.events e.id = e := by unfold evD; rw [hee]; rfl
 have hpe := h.prev (List.mem_map.2 ⟨e, he, rfl⟩)
 rw [hev] at hpe
 unfold Zgo
 rw [Ydt _ _ (by omega), Wb, Ydv, Yic.2 ha, Ydt _ _ (by omega), Wb, Ydv, Ydy he]
 simp only [Bool.not_true, Wv, Zgn]
 rw [Y4z (Wt ⟨by omega, by omega⟩), Wb, Yie (by omega) hee (by omega), Wb, chk8 (by simp; omega), Wb, Int.toNat_natCast, List.nil_append]
 obtain ⟨o, h1, h2⟩ := Y51 (step := fun z : List Bool × List Int => Zgm g a z.1 z.2) (p := fun o : Bool ⊕ Unit => ∃ b, Bf g.events a [] e.prev b ∧ ((o = .inl true ∧ b = true) ∨ (o = .inr () ∧ b = false)))
  (fun k (z : List Bool × List Int) => ∃ (seen : List Int), z.1.length = g.events.length ∧ (∀ id ∈ g.events.map (·.id), getI z.1 (plc g.events id) = some (decide (id ∈ seen))) ∧ (∀ id ∈ z.2, id ∈ g.events.map (·.id)) ∧ z.2.length + 5 * Yi9 g.events seen ≤ 400 ∧ (∀ b, Bf g.events a seen z.2 b → Bf g.events a [] e.prev b) ∧ k = z.2.length + 5 * Yi9 g.events seen) (by
  rintro k ⟨m, q⟩ ⟨seen, hml, hm, hq, hb, hB, hk⟩
  simp only at hml hm hq hb hB hk
  simp only [Zgm]
  cases q with
  | nil =>
   left
   exact ⟨_, rfl, false, hB _ (.nil _), .inr ⟨rfl, rfl⟩⟩
  | cons id r =>
   have hqi := hq id (by simp)
   obtain ⟨i1, i2, i3⟩ := Yi3 hqi h.fits.up
   rw [Wt (by simp <;> omega), Wu, show (0 : Int) = ((0 : Nat) : Int) from rfl, Ycw (by simp), Wb, Y4z (Wt (by simp <;> omega)), Wb, Ydt _ _ (by omega), Wb]
   simp only [List.getElem_cons_zero, List.length_cons] at hk hb ⊢
   rw [beqd]
   by_cases ha : id = a
   ·
    left
    rw [Wt ha, Wu]
    subst ha
    exact ⟨_, rfl, true, hB _ (.hit _ _), .inl ⟨rfl, rfl⟩⟩
   ·
    right
    rw [Wf ha, Wv, hm id hqi, Wb]
    by_cases hs : id ∈ seen
    ·
     rw [Wt hs, Wu]
     exact ⟨_, k - 1, rfl, by omega, seen, hml, hm, fun id' h => hq id' (by simp at h; simp [h]), by simp; omega, fun b h => hB b (.skip _ _ _ _ ha hs (by simpa using h)), by simp; omega⟩
    ·
     have hp := h.prev hqi
     have hu := Yia hqi hs
     rw [Wf hs, Wv, (Ygs i1).1, Wb, chk8 (by simp; omega), Wb]
     refine ⟨_, r.length + (evD g.events id).prev.length + 5 * Yi9 g.events (id :: seen), rfl, by omega, id :: seen, by simp [hml], fun id' hid => ?_, fun id' hid => ?_, by simp; omega, fun b h => hB b (.more _ _ _ _ ha hs (by simpa using h)), by simp⟩
     ·
      obtain ⟨p, hpl, p1, p2, p3⟩ := Ydw (Yic.2 hid)
      obtain ⟨p', hpl', p1', p2', p3'⟩ := Ydw (Yic.2 hqi)
      rw [p1, p1', Int.toNat_natCast]
      have hm' := hm id' hid
      rw [p1] at hm'
      by_cases h3 : id' = id
      ·
       subst h3
       obtain rfl : p = p' := by omega
       rw [Ycw (by simp; omega)]
       simp
      ·
       have hne : p' ≠ p := fun h => by subst h; exact h3 (p2.symm.trans p2')
       rw [Ycw (by omega)] at hm'
       rw [Ycw (by simp; omega), List.getElem_set_ne hne]
       rw [hm']
       simp [h3]
     ·
      simp at hid
      rcases hid with hid | hid
      ·
       exact hq _ (by simp [hid])
      ·
       exact hp.2 _ hid) big (e.prev.length + 5 * Yi9 g.events []) (List.replicate g.events.length false, e.prev) ⟨[], by simp, fun id hid => by
   obtain ⟨p, hpl, p1, _, _⟩ := Ydw (Yic.2 hid)
   rw [p1, Ycw (by simpa using hpl)]; simp, hpe.2, by have := Yib g.events []; simp only; omega, by simp, by simp⟩ (Ycr (by have := Yib g.events []; omega))
 obtain ⟨b, hb, h2⟩ := h2
 rw [h1, Wb]
 rcases h2 with ⟨rfl, rfl⟩ | ⟨rfl, rfl⟩
 ·
  exact ⟨true, rfl, hb⟩
 ·
  exact ⟨false, rfl, hb⟩

theorem Bf.none {g : Y9k} (h : Walk g) {a : Int} (ha : a ∉ g.events.map (·.id)) {seen todo : List Int} {b : Bool} (hb : Bf g.events a seen todo b) (ht : ∀ id ∈ todo, id ∈ g.events.map (·.id)) : b = false := by
 induction hb with
 | nil => rfl
 | hit => exact absurd (ht a (by simp)) ha
 | skip _ _ _ _ _ _ _ ih => exact ih fun id hid => ht id (by simp [hid])
 | more _ r id _ _ _ _ ih =>
  refine ih fun id' hid => ?_
  rcases List.mem_append.1 hid with hid | hid
  ·
   exact ht id' (by simp [hid])
  ·
   exact (h.prev (ht id (by simp))).2 _ hid

theorem Yif {g : Y9k} (h : Walk g) (a : Int) {e : Y9j} (he : e ∈ g.events) : ∃ b, Zgo g a e.id = some b ∧ Zcd g a e = some b := by
 obtain ⟨b, h1, h2⟩ := Zk0 h a he
 by_cases ha : a ∈ g.events.map (·.id)
 ·
  obtain ⟨b', h3, h4⟩ := Zk1 h a ha he
  have := h2.det h4
  subst this
  exact ⟨b, h3, h1⟩
 ·
  have hpe := h.prev (List.mem_map.2 ⟨e, he, rfl⟩)
  have hev : evD g.events e.id = e := by unfold evD; rw [h.fits.up.evAt_mem he]; rfl
  rw [hev] at hpe
  have := h2.none h ha hpe.2
  subst this
  refine ⟨false, ?_, h1⟩
  have hfl := h.fits.len
  unfold Zgo
  rw [Ydt _ _ (by omega), Wb, Ydv, Bool.eq_false_iff.2 (fun hh => ha (Yic.1 hh))]
  rfl


def Cons (l : List Y9j) (d : List Int) : Prop := ∀ (i : Nat) (hi : i < l.length), d.getD i 0 > 0 → own l d l[i] = d.getD i 0

theorem Yig {l : List Y9j} {d : List Int} {e : Y9j} (h : own l d e > 0) : e.prev.all (fun p => decide (dOf l d p > 0)) = true := by
 unfold own at h
 split at h
 ·
  assumption
 ·
  omega

theorem Yih {f g : Int → Int → Int} : ∀ {l : List Int} {m : Int}, (∀ m, ∀ p ∈ l, f m p = g m p) → l.foldl f m = l.foldl g m
 | [], _, _ => rfl
 | p :: l, m, h => by rw [List.foldl_cons, List.foldl_cons, h m p (by simp)]; exact Yih fun m q hq => h m q (by simp [hq])

theorem Yii {l : List Y9j} {d : List Int} (hd : d.length = l.length) (hw : Whole l) {i : Nat} {v : Int} (h0 : d.getD i 0 = 0) {e : Y9j} (he : e ∈ l) (h : own l d e > 0) : own l (d.set i v) e = own l d e := by
 have hp := Yig h
 have hsame : ∀ p ∈ e.prev, dOf l (d.set i v) p = dOf l d p := fun p hp' => by
  have h1 := Wo (List.all_eq_true.1 hp p hp')
  obtain ⟨k, hk, k1, _, _⟩ := Ydw (hw e he p hp')
  unfold dOf at h1 ⊢
  rw [k1] at h1 ⊢
  have hkd : k < d.length := by omega
  rw [Ycw hkd] at h1
  rw [Ycw (by simpa using hkd), Ycw hkd]
  by_cases hik : i = k
  ·
   subst hik
   simp only [List.getD_eq_getElem?_getD, We hkd, Option.getD_some] at h0
   simp only [Option.getD_some] at h1
   omega
  ·
   rw [List.getElem_set_ne hik]
 unfold own
 have e1 : e.prev.all (fun p => decide (dOf l (d.set i v) p > 0)) = e.prev.all (fun p => decide (dOf l d p > 0)) := by
  rw [Bool.eq_iff_iff, List.all_eq_true, List.all_eq_true]
  constructor
  ·
   intro h2 p hp'; have := h2 p hp'; rwa [hsame p hp'] at this
  ·
   intro h2 p hp'; rw [hsame p hp']; exact h2 p hp'
 rw [e1, Yih fun m p hp' => by rw [hsame p hp']]

theorem Cons.upd {l : List Y9j} {d : List Int} {c i : Nat} (hw : Whole l) (hb : Bd l c d) (hi : i < l.length) (h : Cons l d) : Cons l (updD l d i) := by
 rcases Yel hb hi with h1 | ⟨h1, h2, h3, _⟩
 ·
  rw [h1]; exact h
 ·
  rw [h3]
  have e2 : l.getD i zEv = l[i] := by simp [hi]
  rw [e2] at h2 ⊢
  intro j hj hpos
  have hjd : j < d.length := by rw [hb.len]; exact hj
  have hid : i < d.length := by rw [hb.len]; exact hi
  by_cases hij : i = j
  ·
   subst hij
   rw [Yii hb.len hw h1 (Wm hi) h2]
   simp [hid]
  ·
   have e3 : (d.set i (own l d l[i])).getD j 0 = d.getD j 0 := by
    simp only [List.getD_eq_getElem?_getD, List.getElem?_set_ne hij]
   rw [e3] at hpos ⊢
   have h4 := h j hj hpos
   rw [Yii hb.len hw h1 (Wm hj) (by omega)]
   exact h4

theorem Cons.sweep {l : List Y9j} {d : List Int} {c : Nat} (hw : Whole l) (hb : Bd l c d) (h : Cons l d) : Cons l (sweep l d) := by
 unfold Go.Proofs.YtomachnjepgpbaaGreat.sweep
 suffices key : ∀ (r : List Nat) (c : Nat) (d : List Int), (∀ i ∈ r, i < l.length) → Bd l c d → Cons l d → Cons l (r.foldl (updD l) d) from key _ c d (fun i hi => by simpa using hi) hb h
 intro r
 induction r with
 | nil => intro c d _ _ h; exact h
 | cons i r ih =>
  intro c d hr hb h
  rw [List.foldl_cons]
  exact ih (c + 1) _ (fun j hj => hr j (by simp [hj])) (Yeh hw hb (hr i (by simp))) (h.upd hw hb (hr i (by simp)))

theorem Yij {l : List Y9j} (hf : Fits l) : Cons l (Yed l) := by
 unfold Yed
 have hz : Bd l 0 (List.replicate l.length 0) := ⟨by simp, fun x hx => by rw [List.eq_of_mem_replicate hx]; simp⟩
 have key : ∀ k, k ≤ l.length → Cons l (Yec l k (List.replicate l.length 0)) := by
  intro k
  induction k with
  | zero =>
   intro _ i hi h
   simp [Yec, hi] at h
  | succ k ih =>
   intro hk
   exact (ih (by omega)).sweep hf.whole (Yep hf hz k (by omega))
 exact key _ (Nat.le_refl _)

theorem Yik (a b : Int) : a ≤ mx2 a b ∧ b ≤ mx2 a b := by unfold mx2; split <;> omega
theorem Yil {l : List Y9j} (hf : Fits l) (hd : Deep l) {e : Y9j} (he : e ∈ l) {p : Int} (hp : p ∈ e.prev) : dOf l (Yed l) p < dOf l (Yed l) e.id := by
 obtain ⟨i, hi, rfl⟩ := List.mem_iff_getElem.1 he
 have hb := (Yej hf).2
 have hid : i < (Yed l).length := by rw [hb.len]; exact hi
 have e1 : dOf l (Yed l) l[i].id = (Yed l)[i] := by
  unfold dOf
  rw [(hf.up.plc hi).1, Ycw hid]; rfl
 have e2 : (Yed l).getD i 0 = (Yed l)[i] := by simp [hid]
 have hpos := hd _ (Wm hid)
 have hc := Yij hf i hi (by rw [e2]; exact hpos)
 rw [e2] at hc
 rw [e1]
 have ha := Yig (l := l) (d := Yed l) (e := l[i]) (by omega)
 unfold own at hc
 rw [if_pos ha] at hc
 have hmx : ∀ (ps : List Int) (m : Int), p ∈ ps → dOf l (Yed l) p ≤ ps.foldl (fun m p => mx2 m (dOf l (Yed l) p)) m := by
  intro ps
  have hmono : ∀ (ps : List Int) (m : Int), m ≤ ps.foldl (fun m p => mx2 m (dOf l (Yed l) p)) m := by
   intro ps
   induction ps with
   | nil => intro m; exact Int.le_refl _
   | cons q ps ih => intro m; rw [List.foldl_cons]; have := ih (mx2 m (dOf l (Yed l) q)); have := (Yik m (dOf l (Yed l) q)).1; omega
  induction ps with
  | nil => intro m h; cases h
  | cons q ps ih =>
   intro m h
   rw [List.foldl_cons]
   rcases List.mem_cons.1 h with rfl | h
   ·
    have := hmono ps (mx2 m (dOf l (Yed l) p)); have := (Yik m (dOf l (Yed l) p)).2; omega
   ·
    exact ih _ h
 have := hmx _ 0 hp
 omega
end Go.Proofs.YtomachnjepgpbaaGreat
namespace Go.Proofs.YtomachnjepgpbaaGreat
open Go Go.Abs

theorem Yim {τ1 τ2 ω1 ω2 σ1 σ2 : Type} {step1 : τ1 → Option (τ1 ⊕ ω1)} {step2 : τ2 → Option (τ2 ⊕ ω2)} {n : Nat} (emb1 : σ1 → Int → τ1) (emb2 : σ2 → Int → τ2) (I : Nat → σ1 → σ2 → Prop) (Q : ω1 → ω2 → Prop) (hn : n < 9223372036854775807)
  (h1 : ∀ (i : Nat) (s : σ1) (t : σ2), i < n → I i s t → ∃ s' t', step1 (emb1 s i) = some (.inl (emb1 s' ((i + 1 : Nat) : Int))) ∧ step2 (emb2 t i) = some (.inl (emb2 t' ((i + 1 : Nat) : Int))) ∧ I (i + 1) s' t')
  (h2 : ∀ s t, I n s t → ∃ o o', step1 (emb1 s n) = some (.inr o) ∧ step2 (emb2 t n) = some (.inr o') ∧ Q o o') {s : σ1} {t : σ2} (h0 : I 0 s t) :
  ∃ o o', iter step1 big (emb1 s 0) = some o ∧ iter step2 big (emb2 t 0) = some o' ∧ Q o o' := by
 have key : ∀ m i k : Nat, ∀ s t, i + m = n → m < k → I i s t → ∃ o o', iter step1 k (emb1 s i) = some o ∧ iter step2 k (emb2 t i) = some o' ∧ Q o o' := by
  intro m
  induction m with
  | zero =>
   intro i k s t hm hk hi
   obtain ⟨k, rfl⟩ : ∃ k', k = k' + 1 := ⟨k - 1, by omega⟩
   obtain rfl : i = n := by omega
   obtain ⟨o, o', e1, e2, hq⟩ := h2 s t hi
   exact ⟨o, o', by rw [iter, e1]; rfl, by rw [iter, e2]; rfl, hq⟩
  | succ m ih =>
   intro i k s t hm hk hi
   obtain ⟨k, rfl⟩ : ∃ k', k = k' + 1 := ⟨k - 1, by omega⟩
   obtain ⟨s', t', e1, e2, hi'⟩ := h1 i s t (by omega) hi
   obtain ⟨o, o', f1, f2, hq⟩ := ih (i + 1) k s' t' (by omega) (by omega) hi'
   exact ⟨o, o', by rw [iter, e1]; exact f1, by rw [iter, e2]; exact f2, hq⟩
 exact key n 0 big s t (by omega) (Ycr (by omega)) h0


theorem Yin {l : List Y9j} {k : Nat} (hk : k < l.length) : idPl l (k : Int) = l[k].id := by unfold idPl; simp [hk]
theorem Yio {l : List Y9j} (hf : Fits l) {k : Nat} (hk : k < l.length) : dd (Yed l) (k : Int) = dOf l (Yed l) l[k].id := by
 have hb := (Yej hf).2
 have hkd : k < (Yed l).length := by rw [hb.len]; exact hk
 unfold dd dOf
 rw [(hf.up.plc hk).1, Ycw hkd]
 simp [hkd]

theorem Yip {l : List Y9j} (hf : Fits l) {k : Nat} (hk : k < l.length) : (k : Int) ∈ Yfl l := by
 refine (Yfn hf).2.1.mem_iff.2 ?_
 unfold idt
 exact List.mem_map.2 ⟨k, List.mem_range'_1.2 ⟨by omega, by omega⟩, rfl⟩

theorem Yiq {l : List Y9j} (hf : Fits l) : (Yfm l).length = l.length := by unfold Yfm; rw [List.length_map, Yfp hf]
theorem Yir {l : List Y9j} (hf : Fits l) {id : Int} : id ∈ Yfm l ↔ id ∈ l.map (·.id) := by
 unfold Yfm
 rw [List.mem_map, List.mem_map]
 constructor
 ·
  rintro ⟨x, hx, rfl⟩
  obtain ⟨k, rfl, hk⟩ := Yfo hf hx
  exact ⟨l[k], Wm hk, (Yin hk).symm⟩
 ·
  rintro ⟨e, he, rfl⟩
  obtain ⟨k, hk, rfl⟩ := List.mem_iff_getElem.1 he
  exact ⟨(k : Int), Yip hf hk, Yin hk⟩
theorem Yis {l : List Y9j} (hf : Fits l) : (Yfm l).Nodup := by
 unfold Yfm
 rw [List.nodup_iff_pairwise_ne, List.pairwise_map]
 refine List.Pairwise.imp_of_mem (fun {a b} ha hb hab he => ?_) (Yfn hf).2.2
 obtain ⟨i, rfl, hi⟩ := Yfo hf ha
 obtain ⟨j, rfl, hj⟩ := Yfo hf hb
 rw [Yin hi, Yin hj] at he
 obtain rfl := hf.up.inj hi hj he
 unfold Lt2 at hab; omega

theorem Yit {l : List Y9j} {i : Nat} (h1 : i < (Yfl l).length) (h2 : i < (Yfm l).length) : (Yfm l)[i] = idPl l (Yfl l)[i] := List.getElem_map _
theorem Yiu {l : List Y9j} (hf : Fits l) (hd : Deep l) {i : Nat} (hi : i < (Yfm l).length) {e : Y9j} (he : evAt l (Yfm l)[i] = some e) {p : Int} (hp : p ∈ e.prev) : p ∈ (Yfm l).take i := by
 obtain ⟨hel, hid⟩ := Ye0 he
 obtain ⟨f, hfl, hfid⟩ := Ydz.1 (hf.whole e hel p hp)
 obtain ⟨k, hk, rfl⟩ := List.mem_iff_getElem.1 hfl
 obtain ⟨u, hu, huk⟩ := List.mem_iff_getElem.1 (Yip hf hk)
 have hlt := Yil hf hd hel hp
 have hil : i < (Yfl l).length := by rw [Yfp hf]; rw [Yiq hf] at hi; exact hi
 obtain ⟨x, hx, hxl⟩ := Yfo hf (Wm hil)
 have e1 : (Yfm l)[i] = l[x].id := by
  rw [Yit hil hi, hx, Yin hxl]
 have d1 := Yio hf hxl
 have d2 := Yio hf hk
 rw [← e1, ← hid] at d1
 rw [hfid] at d2
 have hui : u < i := by
  rcases Nat.lt_trichotomy u i with h | h | h
  ·
   exact h
  ·
   subst h
   rw [hx] at huk
   have : x = k := by omega
   subst this
   omega
  ·
   have := List.pairwise_iff_getElem.1 (Yfn hf).2.2 i u hil hu h
   rw [hx, huk] at this
   unfold Lt2 at this; omega
 have hul : u < (Yfm l).length := by omega
 have e2 : (Yfm l)[u] = p := by
  rw [Yit hu hul, huk, Yin hk, hfid]
 have : ((Yfm l).take i)[u]'(by simp; omega) = p := by simp [e2]
 rw [← this]
 exact Wm _


def Yiv (g : Y9k) (a : Int) (e : Y9j) : Bool := (Zcd g a e).getD false
def Yiw (g : Y9k) (s : List Y9m) (e : Y9j) : Int := if alw g s e = 0 ∧ e.kind = 8 ∧ Yiv g e.key e = false then 6 else alw g s e
def nextOf (g : Y9k) (s : List Y9m) (e : Y9j) : List Y9m := if Yiw g s e = 0 ∧ e.kind ≤ 6 then putE s e else s

theorem Yix {g : Y9k} (hu : Up2 g.events) {s : List Y9m} (hs : StOk g.events s) {e : Y9j} (he : e ∈ g.events) : StOk g.events (nextOf g s e) := by
 unfold nextOf
 split
 ·
  exact hs.put (hu.evAt_mem he)
 ·
  exact hs

structure Yiy (g : Y9k) (ls : Int → List Y9m) (B A : List (Int × List Y9m)) (R : List (Int × Int)) (ah bh : List (List Y9m)) (cd : List Int) (e : Y9j) : Prop where
 ok : StOk g.events (resOf g (e.prev.map ls))
 mB : mget B e.id = some (resOf g (e.prev.map ls))
 mR : mget R e.id = some (Yiw g (resOf g (e.prev.map ls)) e)
 mA : mget A e.id = some (nextOf g (resOf g (e.prev.map ls)) e)
 ga : getI ah (plc g.events e.id) = some (resOf g (e.prev.map ls))
 gc : getI cd (plc g.events e.id) = some (Yiw g (resOf g (e.prev.map ls)) e)
 gb : getI bh (plc g.events e.id) = some (nextOf g (resOf g (e.prev.map ls)) e)

def behI (A : List (Int × List Y9m)) (id : Int) : List Y9m := Option.getD (mget A id) []

structure Yiz (g : Y9k) : Prop where
 fits : Fits g.events
 ev : ∀ e ∈ g.events, EvOk e
 deep : Deep g.events
theorem GOk.right {g : Y9k} (h : GOk g) : Yiz g := ⟨h.fits, fun e he => (h.ev e he).1, h.deep⟩
theorem Yiz.walk {g : Y9k} (h : Yiz g) : Walk g := ⟨h.fits, h.ev⟩

theorem Yj0 {g : Y9k} (h : Yiz g) (a : Int) {e : Y9j} (he : e ∈ g.events) : Zgo g a e.id = some (Yiv g a e) ∧ Zcd g a e = some (Yiv g a e) := by
 obtain ⟨b, h1, h2⟩ := Yif h.walk a he
 unfold Yiv
 rw [h1, h2]
 exact ⟨rfl, rfl⟩

theorem Yj1 {α : Type} {l : List α} {k j : Nat} {v : α} (hk : k < l.length) : getI (l.set k v) (j : Int) = if j = k then some v else getI l (j : Int) := by
 have h0 : (0 : Int) ≤ (j : Int) := by omega
 simp only [getI, h0, if_true, Int.toNat_natCast]
 by_cases h : j = k
 ·
  subst h; rw [if_pos rfl, List.getElem?_set_self hk]
 ·
  rw [if_neg h, List.getElem?_set_ne (by omega)]

theorem Zk2 {h : Y9n} (hr : Yiz h.graph) (hk : Yi7 h) {e : Y9j} (he : e ∈ h.graph.events) (hpl : ∀ p ∈ e.prev, StOk h.graph.events (behI h.after p)) :
  Zci h e = some (mset h.before e.id (resOf h.graph (e.prev.map (behI h.after))), mset h.after e.id (nextOf h.graph (resOf h.graph (e.prev.map (behI h.after))) e), mset h.refused e.id (Yiw h.graph (resOf h.graph (e.prev.map (behI h.after))) e)) := by
 have hp4 := (hr.ev e he).prev.1
 have hst : Z9p h e.prev = some (e.prev.map (behI h.after)) := by
  unfold Z9p
  have := Ydd (l := e.prev) (step := fun z : List (List Y9m) × Int => Z9o h e.prev z.1 z.2) (fun q j => (q, j)) (fun q => q) (fun q p => q ++ [behI h.after p]) (fun i q => q.length = i) (by omega) (fun i q hi hq => by
   refine ⟨?_, by simp [hq]⟩
   simp only [Z9o]
   rw [dlt hi, Wu, Ycw hi, Wb, Yg9 (by simp; omega), Wb, Ycx hi (by omega)]; rfl)
   (fun q _ => by simp only [Z9o]; rw [dnlt, Wv]) (s := []) rfl
  have e1 : ∀ (r : List Int) (q : List (List Y9m)), r.foldl (fun q p => q ++ [behI h.after p]) q = q ++ r.map (behI h.after) := by
   intro r
   induction r with
   | nil => intro q; simp
   | cons p r ih => intro q; rw [List.foldl_cons, ih]; simp
  rw [this.1, e1]; rfl
 have hm : Mrg h.graph (e.prev.map (behI h.after)) := ⟨hr.fits, hr.ev, hr.deep, fun s hs => by obtain ⟨p, hp, rfl⟩ := List.mem_map.1 hs; exact hpl p hp, by simp; omega⟩
 obtain ⟨_, c2, c3⟩ := Yi8 hm hk
 unfold Zci
 rw [hst, Wb, c2, Wb, (Yh3 (hm.sts c3) (hr.ev e he).ask).2, Wb, (Yj0 hr _ he).2, beqd, beqd]
 have hsl := hm.slen c3
 generalize resOf h.graph (e.prev.map (behI h.after)) = s at c3 hsl
 have hid := (hr.ev e he).id.1
 have hput := Ygn c3.up (Y9m.mk e.kind e.key e.id) (by simp only; omega) (by omega)
 simp only [Zch, Zcg, Zcf, Wb, hput, Y6c, beqd]
 unfold nextOf Yiw putE
 by_cases h1 : alw h.graph s e = 0
 ·
  by_cases h2 : e.kind = 8
  ·
   cases h3 : Yiv h.graph e.key e with
   | false => simp [h1, h2]
   | true => simp [h1, h2]
  ·
   by_cases h4 : e.kind ≤ 6
   ·
    simp [h1, h2, h4]
   ·
    simp [h1, h2, h4]
 ·
  simp [h1]
end Go.Proofs.YtomachnjepgpbaaGreat
namespace Go.Proofs.YtomachnjepgpbaaGreat
open Go Go.Abs

theorem Yj2 {α β : Type} (f : α → β) : ∀ (r : List α) (q : List β), r.foldl (fun q p => q ++ [f p]) q = q ++ r.map f
 | [], q => by simp
 | p :: r, q => by rw [List.foldl_cons, Yj2 f r]; simp

theorem Zk3 {g : Y9k} (hr : Yiz g) {od : List Int} {ah bh : List (List Y9m)} {cd : List Int} (ls : Int → List Y9m) {i : Nat} (hi : i < od.length) (hil : i < g.events.length) {k : Nat} (hk : k < g.events.length) (hid : od[i] = g.events[k].id)
  (la : ah.length = g.events.length) (lb : bh.length = g.events.length) (lc : cd.length = g.events.length) (hpl : ∀ p ∈ g.events[k].prev, StOk g.events (ls p) ∧ getI bh (plc g.events p) = some (ls p)) :
  Zgx g (Yed g.events) od ah bh cd (i : Int) = some (.inl (ah.set k (resOf g (g.events[k].prev.map ls)), bh.set k (nextOf g (resOf g (g.events[k].prev.map ls)) g.events[k]), cd.set k (Yiw g (resOf g (g.events[k].prev.map ls)) g.events[k]), ((i + 1 : Nat) : Int))) := by
 have hfl := hr.fits.len
 have he : g.events[k] ∈ g.events := Wm hk
 have hev := hr.ev _ he
 have hp4 := hev.prev.1
 have hplc := (hr.fits.up.plc hk).1
 simp only [Zgx]
 rw [dlt hil, Wu, Ycw hi, Wb, hid, Ydt _ _ (by omega), Wb, hplc, Ycw hk, Wb]
 generalize g.events[k] = e at *
 have h7 := Ydd (l := e.prev) (step := fun z : List (List Y9m) × Int => Zgw g bh e z.1 z.2) (fun q j => (q, j)) (fun q => q) (fun q p => q ++ [ls p]) (fun i q => q.length = i) (by omega) (fun i q hi hq => by
  refine ⟨?_, by simp [hq]⟩
  simp only [Zgw]
  rw [dlt hi, Wu, Ycw hi, Wb, Ydt _ _ (by omega), Wb, (hpl _ (Wm hi)).2, Wb, Yg9 (by simp; omega), Wb, Ycx hi (by omega)])
  (fun q _ => by simp only [Zgw]; rw [dnlt, Wv]) (s := []) rfl
 rw [h7.1, Yj2, Wb, List.nil_append]
 have hm : Mrg g (e.prev.map ls) := ⟨hr.fits, hr.ev, hr.deep, fun s hs => by obtain ⟨p, hp, rfl⟩ := List.mem_map.1 hs; exact (hpl p hp).1, by simp; omega⟩
 -- any history that knows the depths
 have hkn : Yi7 (Y9n.mk g (g.events.map fun e => (e.id, dmR g.events e)) [] [] []) := by
  intro e' he'
  have key : ∀ l : List Y9j, e' ∈ l → mget (l.map fun e => (e.id, dmR g.events e)) e'.id = some (dmR g.events e') := by
   intro l
   induction l with
   | nil => intro h; cases h
   | cons f l ih =>
    intro h
    simp only [List.map_cons, mget]
    by_cases hf : e'.id = f.id
    ·
     rw [if_pos hf]
     unfold dmR
     rw [hf]
    ·
     rw [if_neg hf]
     rcases List.mem_cons.1 h with rfl | h
     ·
      exact absurd rfl hf
     ·
      exact ih h
  exact key _ he'
 obtain ⟨c1, _, c3⟩ := Yi8 (h := Y9n.mk g (g.events.map fun e => (e.id, dmR g.events e)) [] [] []) hm hkn
 simp only at c1 c3
 simp only [Zgv]
 rw [c1, Wb, Ycw (by omega : k < ah.length), Wb, Int.toNat_natCast, Yj1 (by omega), if_pos rfl, Wb, (Yh3 (hm.sts c3) hev.ask).1, Wb, Ycw (by omega : k < cd.length), Wb, Yj1 (by omega), if_pos rfl, Wb, (Yj0 hr _ he).1, beqd, beqd]
 have hsl := hm.slen c3
 generalize resOf g (e.prev.map ls) = s at c3 hsl
 have hput := Ygc c3.up (Y9m.mk e.kind e.key e.id) (by omega)
 have w1 : IntKind.i64.wrap ((i : Int) + 1) = ((i + 1 : Nat) : Int) := Ycx hil (by omega)
 simp only [Zgu, Zgt, Zgs, Zgr, Int.toNat_natCast, hput, List.nil_append]
 rw [Yg9 (by simp; omega)]
 have hgb : ∀ v : List Y9m, getI (bh.set k v) (k : Int) = some v := fun v => by rw [Yj1 (by omega), if_pos rfl]
 have hgc : ∀ v : Int, getI (cd.set k v) (k : Int) = some v := fun v => by rw [Yj1 (by omega), if_pos rfl]
 have hgb0 := Ycw (by omega : k < bh.length)
 simp only [Wb, hgb, hgc, hgb0, w1, List.set_set, beqd]
 unfold nextOf Yiw putE
 by_cases h1 : alw g s e = 0
 ·
  by_cases h2 : e.kind = 8
  ·
   cases h3 : Yiv g e.key e with
   | false => simp [h1, h2, hgc]
   | true => simp [h1, h2, hgc]
  ·
   by_cases h4 : e.kind ≤ 6
   ·
    simp [h1, h2, h4, hgc]
   ·
    simp [h1, h2, h4, hgc]
 ·
  simp [h1, hgc]

structure Both (g : Y9k) (h : Y9n) (w : Y9p) : Prop where
 graph : h.graph = g
 depth : Yi7 h
 depths : w.depths = Yed g.events
 la : w.ahead.length = g.events.length
 lb : w.behind.length = g.events.length
 lc : w.code.length = g.events.length
 all : ∀ e ∈ g.events, Yiy g (behI h.after) h.before h.after h.refused w.ahead w.behind w.code e

theorem Yj3 {A : List (Int × List Y9m)} {id p : Int} {t : List Y9m} (h : p ≠ id) : behI (mset A id t) p = behI A p := by
 unfold behI; rw [Y6b, if_neg h]

theorem Yj4 {g : Y9k} (hr : Yiz g) : ∃ h w, Zco g = some h ∧ Zgz g = some w ∧ Both g h w := by
 have hfl := hr.fits.len
 obtain ⟨e0, hb⟩ := Yej hr.fits
 have hol := Yiq hr.fits
 -- the depths
 obtain ⟨m, hm1, hm2⟩ : ∃ m, iter (fun z : List (Int × Int) × Int => Zcn g (Yed g.events, decide (Yek (Yed g.events) = 0)) z.1 z.2) big ([], 0) = some m ∧ ∀ e ∈ g.events, mget m e.id = some (dmR g.events e) := by
  obtain ⟨o, h1, h2⟩ := Ycu (τ := List (Int × Int) × Int) (ω := List (Int × Int)) (σ := List (Int × Int)) (step := fun z : List (Int × Int) × Int => Zcn g (Yed g.events, decide (Yek (Yed g.events) = 0)) z.1 z.2) (n := g.events.length) (fun s j => (s, j))
   (fun i s => ∀ (j : Nat) (hj : j < g.events.length), j < i → mget s g.events[j].id = some (dmR g.events g.events[j])) (fun o => ∀ (j : Nat) (hj : j < g.events.length), mget o g.events[j].id = some (dmR g.events g.events[j])) (by omega) (by
   intro i s hi hI
   have hid : i < (Yed g.events).length := by rw [hb.len]; exact hi
   refine ⟨mset s g.events[i].id (Yed g.events)[i], ?_, fun j hj hji => ?_⟩
   ·
    simp only [Zcn]
    rw [dlt hi, Wu, Ycw hi, Wb, Ycw hid, Wb, Ycx hi (by omega)]
   ·
    rw [Y6b]
    by_cases he : g.events[j].id = g.events[i].id
    ·
     rw [if_pos he]
     obtain rfl := hr.fits.up.inj hj hi he
     unfold dmR dOf
     rw [(hr.fits.up.plc hj).1, Ycw hid]; rfl
    ·
     rw [if_neg he]
     exact hI j hj (by
      rcases Nat.lt_or_ge j i with h | h
      ·
       exact h
      ·
       obtain rfl : j = i := by omega
       exact absurd rfl he)) (by
   intro s hI
   simp only [Zcn]
   rw [dnlt, Wv]
   exact ⟨s, rfl, fun j hj => hI j hj hj⟩) (s := []) (fun j hj h => by omega)
  refine ⟨o, h1, fun e he => ?_⟩
  obtain ⟨j, hj, rfl⟩ := List.mem_iff_getElem.1 he
  exact h2 j hj
 -- the states
 have hpos : ∀ i, (hi : i < (Yfm g.events).length) → ∃ k, ∃ hk : k < g.events.length, (Yfm g.events)[i] = g.events[k].id := fun i hi => by
  obtain ⟨e, he, h1⟩ := List.mem_map.1 ((Yir hr.fits).1 (Wm hi))
  obtain ⟨k, hk, rfl⟩ := List.mem_iff_getElem.1 he
  exact ⟨k, hk, h1.symm⟩
 obtain ⟨⟨B, A, R⟩, ⟨ah, bh, cd⟩, q1, q2, la, lb, lc, hall⟩ := Yim (step1 := fun z : List (Int × List Y9m) × List (Int × List Y9m) × List (Int × Int) × Int => Zcl g m (Yfm g.events) z.1 z.2.1 z.2.2.1 z.2.2.2) (step2 := fun z : List (List Y9m) × List (List Y9m) × List Int × Int => Zgx g (Yed g.events) (Yfm g.events) z.1 z.2.1 z.2.2.1 z.2.2.2) (n := g.events.length)
  (fun (s : List (Int × List Y9m) × List (Int × List Y9m) × List (Int × Int)) j => (s.1, s.2.1, s.2.2, j)) (fun (s : List (List Y9m) × List (List Y9m) × List Int) j => (s.1, s.2.1, s.2.2, j))
  (fun i s t => t.1.length = g.events.length ∧ t.2.1.length = g.events.length ∧ t.2.2.length = g.events.length ∧ ∀ e ∈ g.events, e.id ∈ (Yfm g.events).take i → Yiy g (behI s.2.1) s.1 s.2.1 s.2.2 t.1 t.2.1 t.2.2 e)
  (fun (s : List (Int × List Y9m) × List (Int × List Y9m) × List (Int × Int)) (t : List (List Y9m) × List (List Y9m) × List Int) => t.1.length = g.events.length ∧ t.2.1.length = g.events.length ∧ t.2.2.length = g.events.length ∧ ∀ e ∈ g.events, Yiy g (behI s.2.1) s.1 s.2.1 s.2.2 t.1 t.2.1 t.2.2 e) (by omega) (by
  rintro i ⟨B, A, R⟩ ⟨ah, bh, cd⟩ hi ⟨la, lb, lc, hI⟩
  simp only at la lb lc hI ⊢
  have hio : i < (Yfm g.events).length := by omega
  obtain ⟨k, hk, hid⟩ := hpos i hio
  have he : g.events[k] ∈ g.events := Wm hk
  have hevat : evAt g.events (Yfm g.events)[i] = some g.events[k] := by rw [hid]; exact (hr.fits.up.plc hk).2
  have hprev : ∀ p ∈ g.events[k].prev, ∃ f ∈ g.events, f.id = p ∧ p ∈ (Yfm g.events).take i := fun p hp => by
   obtain ⟨f, hf, hfid⟩ := Ydz.1 (hr.fits.whole _ he p hp)
   exact ⟨f, hf, hfid, Yiu hr.fits hr.deep hio hevat hp⟩
  have hknow : ∀ p ∈ g.events[k].prev, StOk g.events (behI A p) ∧ getI bh (plc g.events p) = some (behI A p) := fun p hp => by
   obtain ⟨f, hf, hfid, ht⟩ := hprev p hp
   subst hfid
   have hk := hI f hf ht
   have e1 : behI A f.id = nextOf g (resOf g (f.prev.map (behI A))) f := by
    show Option.getD (mget A f.id) [] = _
    rw [hk.mA]; rfl
   rw [e1]
   exact ⟨Yix hr.fits.up hk.ok hf, hk.gb⟩
  have hks : Yi7 (Y9n.mk g m B A R) := hm2
  have s1 := Zk2 (h := Y9n.mk g m B A R) hr hks he (fun p hp => (hknow p hp).1)
  have s2 := Zk3 hr (od := Yfm g.events) (ah := ah) (bh := bh) (cd := cd) (behI A) hio hi hk hid la lb lc hknow
  have hm : Mrg g (g.events[k].prev.map (behI A)) := ⟨hr.fits, hr.ev, hr.deep, fun s hs => by obtain ⟨p, hp, rfl⟩ := List.mem_map.1 hs; exact (hknow p hp).1, by have := (hr.ev _ he).prev.1; simp; omega⟩
  have hsok := (Yi8 (h := Y9n.mk g m B A R) hm hks).2.2
  simp only at s1 hsok
  refine ⟨(mset B g.events[k].id (resOf g (g.events[k].prev.map (behI A))), mset A g.events[k].id (nextOf g (resOf g (g.events[k].prev.map (behI A))) g.events[k]), mset R g.events[k].id (Yiw g (resOf g (g.events[k].prev.map (behI A))) g.events[k])), (ah.set k (resOf g (g.events[k].prev.map (behI A))), bh.set k (nextOf g (resOf g (g.events[k].prev.map (behI A))) g.events[k]), cd.set k (Yiw g (resOf g (g.events[k].prev.map (behI A))) g.events[k])), ?_, s2, by simp [la], by simp [lb], by simp [lc], ?_⟩
  ·
   simp only [Zcl]
   rw [dlt hio, Wu, Ycw hio, Wb, c_at _ _ hr.fits.up (by omega), hevat, Wb]
   simp only [Option.getD_some]
   rw [s1, Wb, Ycx hio (by omega)]
  ·
   intro e hem het
   have hself : ∀ p ∈ g.events[k].prev, p ≠ g.events[k].id := fun p hp => ((hr.ev _ he).prev.2.1 p hp).2.2
   have hpk := (hr.fits.up.plc hk).1
   by_cases hek : e = g.events[k]
   ·
    subst hek
    have e1 : g.events[k].prev.map (behI (mset A g.events[k].id (nextOf g (resOf g (g.events[k].prev.map (behI A))) g.events[k]))) = g.events[k].prev.map (behI A) := List.map_congr_left fun p hp => Yj3 (hself p hp)
    refine ⟨?_, ?_, ?_, ?_, ?_, ?_, ?_⟩
    ·
     simp only [e1]; exact hsok
    ·
     simp only [e1]; rw [Y6b, if_pos rfl]
    ·
     simp only [e1]; rw [Y6b, if_pos rfl]
    ·
     simp only [e1]; rw [Y6b, if_pos rfl]
    ·
     simp only [e1]; rw [hpk, Yj1 (by omega), if_pos rfl]
    ·
     simp only [e1]; rw [hpk, Yj1 (by omega), if_pos rfl]
    ·
     simp only [e1]; rw [hpk, Yj1 (by omega), if_pos rfl]
   ·
    have hne : e.id ≠ g.events[k].id := fun h => hek (by
     obtain ⟨j, hj, rfl⟩ := List.mem_iff_getElem.1 hem
     obtain rfl := hr.fits.up.inj hj hk h
     rfl)
    have het' : e.id ∈ (Yfm g.events).take i := by
     rw [List.take_add_one, We hio, hid] at het
     rcases List.mem_append.1 het with h | h
     ·
      exact h
     ·
      simp at h; exact absurd h hne
    obtain ⟨j, hj, hji, hje⟩ := Yf1 het'
    have hpn : ∀ p ∈ e.prev, p ≠ g.events[k].id := fun p hp hpe => by
     have h1 := Yiu hr.fits hr.deep hj (e := e) (by rw [hje]; exact hr.fits.up.evAt_mem hem) hp
     obtain ⟨u, hu, huj, hue⟩ := Yf1 h1
     have : u = i := by
      have hnd := Yis hr.fits
      exact (List.getElem_inj (h₀ := hu) (h₁ := hio) hnd).1 (by rw [hue, hpe, hid])
     omega
    have e1 : e.prev.map (behI (mset A g.events[k].id (nextOf g (resOf g (g.events[k].prev.map (behI A))) g.events[k]))) = e.prev.map (behI A) := List.map_congr_left fun p hp => Yj3 (hpn p hp)
    have hK := hI e hem het'
    obtain ⟨ke, hke, hkp, _, _⟩ := Ydw (Ydy hem)
    have hkk : ke ≠ k := fun h => by
     subst h
     have := hr.fits.up.plc hke
     obtain ⟨j2, hj2, hje2⟩ := List.mem_iff_getElem.1 hem
     have h3 := (hr.fits.up.plc hj2).1
     rw [hje2, hkp] at h3
     have : j2 = ke := by omega
     subst this
     exact hek hje2.symm
    refine ⟨?_, ?_, ?_, ?_, ?_, ?_, ?_⟩
    ·
     simp only [e1]; exact hK.ok
    ·
     simp only [e1]; rw [Y6b, if_neg hne]; exact hK.mB
    ·
     simp only [e1]; rw [Y6b, if_neg hne]; exact hK.mR
    ·
     simp only [e1]; rw [Y6b, if_neg hne]; exact hK.mA
    ·
     simp only [e1]; rw [hkp, Yj1 (by omega), if_neg hkk, ← hkp]; exact hK.ga
    ·
     simp only [e1]; rw [hkp, Yj1 (by omega), if_neg hkk, ← hkp]; exact hK.gc
    ·
     simp only [e1]; rw [hkp, Yj1 (by omega), if_neg hkk, ← hkp]; exact hK.gb) (by
  rintro ⟨B, A, R⟩ ⟨ah, bh, cd⟩ ⟨la, lb, lc, hI⟩
  simp only at la lb lc hI
  refine ⟨(B, A, R), (ah, bh, cd), ?_, ?_, la, lb, lc, fun e he => hI e he ?_⟩
  ·
   simp only [Zcl]
   rw [hol, dnlt, Wv]
  ·
   simp only [Zgx]
   rw [dnlt, Wv]
  ·
   rw [List.take_of_length_le (by omega)]
   exact (Yir hr.fits).2 (List.mem_map.2 ⟨e, he, rfl⟩)) (s := ([], [], [])) (t := (List.replicate g.events.length [], List.replicate g.events.length [], List.replicate g.events.length 0)) ⟨by simp, by simp, by simp, fun e _ h => by simp at h⟩
 simp only at q1 q2 la lb lc hall
 refine ⟨Y9n.mk g m B A R, Y9p.mk (Yed g.events) ah bh cd, ?_, ?_, rfl, hm2, rfl, la, lb, lc, hall⟩
 ·
  unfold Zco
  rw [Yeq hr.fits, Wb, hm1, Wb]
  simp only [Zcm, Zck]
  rw [Yfq hr.fits, Wb, q1]; rfl
 ·
  unfold Zgz
  rw [e0, Wb, Y4z (Wt ⟨by omega, by omega⟩), Wb, Wb, Y4z (Wt ⟨by omega, by omega⟩), Wb]
  simp only [Zgy, Zgq, Int.toNat_natCast]
  rw [Yfy hr.fits hr.deep, Wb, q2]; rfl
end Go.Proofs.YtomachnjepgpbaaGreat
namespace Go.Proofs.YtomachnjepgpbaaGreat
open Go Go.Abs


theorem Yj5 {l : List Y9j} (hf : Fits l) (hd : Deep l) {e : Y9j} (he : e ∈ l) : dOf l (Yed l) e.id = e.prev.foldl (fun m p => mx2 m (dOf l (Yed l) p)) 0 + 1 ∧ 0 < dOf l (Yed l) e.id := by
 obtain ⟨i, hi, rfl⟩ := List.mem_iff_getElem.1 he
 have hb := (Yej hf).2
 have hid : i < (Yed l).length := by rw [hb.len]; exact hi
 have e1 : dOf l (Yed l) l[i].id = (Yed l)[i] := by
  unfold dOf
  rw [(hf.up.plc hi).1, Ycw hid]; rfl
 have e2 : (Yed l).getD i 0 = (Yed l)[i] := by simp [hid]
 have hpos := hd _ (Wm hid)
 have hc := Yij hf i hi (by rw [e2]; exact hpos)
 rw [e2] at hc
 have ha := Yig (l := l) (d := Yed l) (e := l[i]) (by omega)
 unfold own at hc
 rw [if_pos ha] at hc
 rw [e1]
 exact ⟨hc.symm, hpos⟩

theorem Yj6 {l : List Y9j} (hw : Whole l) : ∀ (r : List Nat) (c : Nat) (d : List Int), Bd l c d → (∀ i ∈ r, i < l.length) → Yek (r.foldl (updD l) d) ≤ Yek d ∧ (Yek (r.foldl (updD l) d) = Yek d → ∀ i ∈ r, updD l d i = d)
 | [], _, _, _, _ => ⟨Nat.le_refl _, fun _ i h => by cases h⟩
 | i :: r, c, d, hb, hr => by
  have hi := hr i (by simp)
  obtain ⟨h1, h2⟩ := Yj6 hw r (c + 1) (updD l d i) (Yeh hw hb hi) fun j hj => hr j (by simp [hj])
  rw [List.foldl_cons]
  rcases Yel hb hi with h | ⟨_, _, _, h⟩
  ·
   rw [h] at h1 h2 ⊢
   exact ⟨h1, fun h3 j hj => by
    rcases List.mem_cons.1 hj with rfl | hj
    ·
     exact h
    ·
     exact h2 h3 j hj⟩
  ·
   exact ⟨by omega, fun h3 => by omega⟩

theorem Yj7 {l : List Y9j} (hf : Fits l) (r : Int → Nat) (hr : ∀ e ∈ l, ∀ p ∈ e.prev, r p < r e.id) : Deep l := by
 have hl := hf.len
 have hz : Bd l 0 (List.replicate l.length 0) := ⟨by simp, fun x hx => by rw [List.eq_of_mem_replicate hx]; simp⟩
 have hz0 : Yek (List.replicate l.length (0 : Int)) = l.length := by unfold Yek; rw [List.countP_replicate]; simp
 have key : ∀ k, k ≤ l.length → Yek (Yec l k (List.replicate l.length 0)) = 0 ∨ sweep l (Yec l k (List.replicate l.length 0)) = Yec l k (List.replicate l.length 0) ∨ k + Yek (Yec l k (List.replicate l.length 0)) ≤ l.length := by
  intro k
  induction k with
  | zero => intro _; right; right; show 0 + Yek (List.replicate l.length (0 : Int)) ≤ _; omega
  | succ k ih =>
   intro hk
   have hb := Yep hf hz k (by omega)
   have hm : k * l.length ≤ 60 * 60 := Nat.mul_le_mul (by omega) hl
   obtain ⟨_, e2, e3⟩ := Zjt (g := ⟨0, l, []⟩) hf hb (by omega)
   simp only at e2 e3
   show Yek (sweep l (Yec l k _)) = 0 ∨ sweep l (sweep l (Yec l k _)) = sweep l (Yec l k _) ∨ k + 1 + Yek (sweep l (Yec l k _)) ≤ l.length
   rcases ih (by omega) with h | h | h
   ·
    rw [Yen hb.len h fun x hx => (hb.in_ x hx).1]; exact .inl h
   ·
    rw [h]; exact .inr (.inl h)
   ·
    by_cases h4 : Yek (sweep l (Yec l k (List.replicate l.length 0))) = Yek (Yec l k (List.replicate l.length 0))
    ·
     rw [e3 h4, e3 h4]; exact .inr (.inl rfl)
    ·
     right; right; omega
 have hB := Yep hf hz l.length (Nat.le_refl _)
 have hm : l.length * l.length ≤ 60 * 60 := Nat.mul_le_mul hl hl
 have hfix : Yek (Yed l) = 0 := by
  rcases key l.length (Nat.le_refl _) with h | h | h
  ·
   exact h
  ·
   rw [← Yed] at h hB
   have hall := (Yj6 hf.whole (List.range l.length) _ _ hB fun i hi => by simpa using hi).2 (by show Yek (sweep l _) = _; rw [h])
   have hpos : ∀ n : Nat, ∀ e ∈ l, r e.id ≤ n → 0 < dOf l (Yed l) e.id := by
    have one : ∀ e ∈ l, (∀ p ∈ e.prev, 0 < dOf l (Yed l) p) → 0 < dOf l (Yed l) e.id := by
     intro e he hp
     obtain ⟨i, hi, rfl⟩ := List.mem_iff_getElem.1 he
     have hid : i < (Yed l).length := by rw [hB.len]; exact hi
     have e1 : dOf l (Yed l) l[i].id = (Yed l)[i] := by
      unfold dOf
      rw [(hf.up.plc hi).1, Ycw hid]; rfl
     have e2 : (Yed l).getD i 0 = (Yed l)[i] := by simp [hid]
     have e3 : l.getD i zEv = l[i] := by simp [hi]
     have hown : own l (Yed l) l[i] > 0 := by
      unfold own
      rw [if_pos (List.all_eq_true.2 fun p hp' => Wt (hp p hp'))]
      have := (Yef (dOf l (Yed l)) ((l.length * l.length : Nat) : Int) l[i].prev 0 (by omega) fun p hp' => (hB.in_ _ (Yee hB.len (hf.whole _ (Wm hi) p hp')).2).2).1
      omega
     have hu := hall i (by simpa using hi)
     rw [e1]
     have hn := (hB.in_ _ (Wm hid)).1
     by_cases h0 : (Yed l)[i] > 0
     ·
      exact h0
     ·
      exfalso
      unfold updD at hu
      rw [e2, e3, if_neg h0, if_pos hown] at hu
      have h5 : ((Yed l).set i (own l (Yed l) l[i]))[i]? = (Yed l)[i]? := by rw [hu]
      rw [List.getElem?_set_self hid, We hid] at h5
      have := Wj h5
      omega
    intro n
    induction n with
    | zero =>
     intro e he hn
     refine one e he fun p hp => ?_
     have := hr e he p hp; omega
    | succ n ih =>
     intro e he hn
     refine one e he fun p hp => ?_
     have h1 := hr e he p hp
     obtain ⟨f, hf1, rfl⟩ := Ydz.1 (hf.whole e he p hp)
     exact ih f hf1 (by omega)
   refine List.countP_eq_zero.2 fun x hx => ?_
   obtain ⟨i, hi, rfl⟩ := List.mem_iff_getElem.1 hx
   have hil : i < l.length := by rw [← hB.len]; exact hi
   have e1 : dOf l (Yed l) l[i].id = (Yed l)[i] := by
    unfold dOf
    rw [(hf.up.plc hil).1, Ycw hi]; rfl
   have := hpos _ _ (Wm hil) (Nat.le_refl _)
   simp; omega
  ·
   show Yek (Yec l l.length _) = 0; omega
 exact (Yg1 l hB).1 hfix


structure Ext (l l' : List Y9j) : Prop where
 fits : Fits l
 fits' : Fits l'
 deep : Deep l
 deep' : Deep l'
 sub : ∀ e ∈ l, e ∈ l'

section
variable {l l' : List Y9j} (x : Ext l l')
include x
theorem Ext.at {id : Int} {e : Y9j} (h : evAt l id = some e) : evAt l' id = some e := by
 obtain ⟨h1, rfl⟩ := Ye0 h
 exact x.fits'.up.evAt_mem (x.sub e h1)
theorem Ext.evD {id : Int} (h : id ∈ l.map (·.id)) : evD l' id = evD l id := by
 have h2 := x.at (Yi3 h x.fits.up).1
 show (evAt l' id).getD zEv = _
 rw [h2]; rfl
theorem Ext.prev {id : Int} (h : id ∈ l.map (·.id)) : ∀ p ∈ (Go.Proofs.YtomachnjepgpbaaGreat.evD l id).prev, p ∈ l.map (·.id) := fun p hp => by
 exact Yic.1 (x.fits.whole _ (Yi3 h x.fits.up).2.1 p hp)
theorem Ext.dOf {e : Y9j} (he : e ∈ l) : Go.Proofs.YtomachnjepgpbaaGreat.dOf l' (Yed l') e.id = Go.Proofs.YtomachnjepgpbaaGreat.dOf l (Yed l) e.id := by
 have key : ∀ n : Nat, ∀ e ∈ l, (Go.Proofs.YtomachnjepgpbaaGreat.dOf l (Yed l) e.id).toNat ≤ n → Go.Proofs.YtomachnjepgpbaaGreat.dOf l' (Yed l') e.id = Go.Proofs.YtomachnjepgpbaaGreat.dOf l (Yed l) e.id := by
  intro n
  induction n with
  | zero =>
   intro e he hn
   have := (Yj5 x.fits x.deep he).2
   omega
  | succ n ih =>
   intro e he hn
   rw [(Yj5 x.fits x.deep he).1, (Yj5 x.fits' x.deep' (x.sub e he)).1]
   congr 1
   refine Yih fun m p hp => ?_
   have hlt := Yil x.fits x.deep he hp
   obtain ⟨f, hf, rfl⟩ := Ydz.1 (x.fits.whole e he p hp)
   have := (Yj5 x.fits x.deep hf).2
   rw [ih f hf (by omega)]
 exact key _ e he (Nat.le_refl _)
theorem Ext.dmR {e : Y9j} (he : e ∈ l) : Go.Proofs.YtomachnjepgpbaaGreat.dmR l' e = Go.Proofs.YtomachnjepgpbaaGreat.dmR l e := x.dOf he
theorem Ext.bf {a : Int} {seen todo : List Int} {b : Bool} (h : Bf l a seen todo b) : (∀ id ∈ todo, id ∈ l.map (·.id)) → Bf l' a seen todo b := by
 induction h with
 | nil => exact fun _ => .nil _
 | hit => exact fun _ => .hit _ _
 | skip seen r id b h1 h2 _ ih => exact fun ht => .skip _ _ _ _ h1 h2 (ih fun p hp => ht p (by simp [hp]))
 | more seen r id b h1 h2 _ ih =>
  intro ht
  refine .more _ _ _ _ h1 h2 ?_
  have hid := ht id (by simp)
  rw [x.evD hid]
  refine ih fun p hp => ?_
  rcases List.mem_append.1 hp with hp | hp
  ·
   exact ht p (by simp [hp])
  ·
   exact x.prev hid p hp
theorem Ext.cur {s : List Y9m} (hi : Ids1 l') (hs : StOk l s) (kind key : Int) : Go.Proofs.YtomachnjepgpbaaGreat.cur l' s kind key = Go.Proofs.YtomachnjepgpbaaGreat.cur l s kind key := by
 have hi1 : Ids1 l := fun e he => hi e (x.sub e he)
 unfold Go.Proofs.YtomachnjepgpbaaGreat.cur
 rcases Ygo s kind key with ⟨h, _⟩ | ⟨y, hy, _, _, h⟩
 ·
  rw [h, no0 hi (Int.le_refl _), no0 hi1 (Int.le_refl _)]
 ·
  obtain ⟨e, he, _⟩ := hs.ev y hy
  rw [h, he]; exact x.at he
theorem Ext.st {s : List Y9m} (hs : StOk l s) : StOk l' s := ⟨hs.up, fun y hy => by
 obtain ⟨e, he, h1⟩ := hs.ev y hy
 exact ⟨e, x.at he, h1⟩⟩
end

def Low (s : List Y9m) : Prop := ∀ y ∈ s, y.kind ≤ 6

structure ExtG (g g' : Y9k) : Prop where
 ext : Ext g.events g'.events
 right : Yiz g
 right' : Yiz g'

section
variable {g g' : Y9k} (x : ExtG g g')
include x
theorem ExtG.ahead (a : Int) {e : Y9j} (he : e ∈ g.events) : Yiv g' a e = Yiv g a e := by
 obtain ⟨b, h1, h2⟩ := Zk0 x.right.walk a he
 obtain ⟨b', h3, h4⟩ := Zk0 x.right'.walk a (x.ext.sub e he)
 unfold Yiv
 rw [h1, h3]
 exact (Bf.det (x.ext.bf h2 fun p hp => Yic.1 (x.ext.fits.whole e he p hp)) h4).symm
theorem ExtG.alw {s : List Y9m} (h : Sts g s) (h' : Sts g' s) {e : Y9j} (hk : e.kind = 8 → evAt g'.events e.key = evAt g.events e.key) : Go.Proofs.YtomachnjepgpbaaGreat.alw g' s e = Go.Proofs.YtomachnjepgpbaaGreat.alw g s e := by
 have hc := fun kind key => x.ext.cur h'.ids h.ok kind key
 have hOf : ∀ kind key, Zff g' s kind key = Zff g s kind key := fun kind key => by rw [Ygt h'.ids h'.len h'.ok h'.sl, Ygt h.ids h.len h.ok h.sl, hc]
 have hMe : ∀ u, Zfh g' s u = Zfh g s u := fun u => by rw [Ygv h', Ygv h]; unfold mbr; rw [hc]
 have hLe : ∀ u, Zfj g' s u = Zfj g s u := fun u => by rw [Ygx h', Ygx h]; unfold lvl; rw [hc, hc]
 have hOw : ∀ m, Zfq g' s e m = Zfq g s e m := fun m => by
  unfold Zfq Zfp Zfo Zfn
  simp only [hOf]
 have hOt : ∀ p, Zfv g' s e p = Zfv g s e p := fun p => by
  unfold Zfv Zfu Zft Zfs
  simp only [hMe, hLe]
 unfold Go.Proofs.YtomachnjepgpbaaGreat.alw Zg1 Zg0 Zfz Zfy Zfx
 simp only [hOf, hMe, hLe, hOw, hOt]
 by_cases h8 : e.kind = 8
 ·
  have he := hk h8
  rw [Ydt g.events e.key (by have := h.len; omega), Ydt g'.events e.key (by have := h'.len; omega)]
  simp only [Wb, Ydv, Ygp, he]
  cases hv : evAt g.events e.key with
  | none => rfl
  | some f =>
   rw [(Ygs hv).1, (Ygs (he.trans hv)).1]
 ·
  have hb : (e.kind == 8) = false := by simp [h8]
  simp only [hb, Wv]
end
end Go.Proofs.YtomachnjepgpbaaGreat
namespace Go.Proofs.YtomachnjepgpbaaGreat
open Go Go.Abs

def refB (h : Y9n) (id : Int) : Bool := decide (Option.getD (mget h.refused id) 0 = 0)

theorem Both.code {g : Y9k} {h : Y9n} {w : Y9p} (hb : Both g h w) {e : Y9j} (he : e ∈ g.events) : ∃ c, getI w.code (plc g.events e.id) = some c ∧ Option.getD (mget h.refused e.id) 0 = c := by
 have hk := hb.all e he
 exact ⟨_, hk.gc, by rw [hk.mR]; rfl⟩
theorem Both.behind {g : Y9k} {h : Y9n} {w : Y9p} (hb : Both g h w) (hr : Yiz g) {e : Y9j} (he : e ∈ g.events) : getI w.behind (plc g.events e.id) = some (behI h.after e.id) ∧ StOk g.events (behI h.after e.id) := by
 have hk := hb.all e he
 have e1 : behI h.after e.id = nextOf g (resOf g (e.prev.map (behI h.after))) e := by
  show Option.getD (mget h.after e.id) [] = _
  rw [hk.mA]; rfl
 rw [e1]
 exact ⟨hk.gb, Yix hr.fits.up hk.ok he⟩
theorem Both.ahead {g : Y9k} {h : Y9n} {w : Y9p} (hb : Both g h w) {e : Y9j} (he : e ∈ g.events) : getI w.ahead (plc g.events e.id) = some (behI h.before e.id) ∧ StOk g.events (behI h.before e.id) := by
 have hk := hb.all e he
 have e1 : behI h.before e.id = resOf g (e.prev.map (behI h.after)) := by
  show Option.getD (mget h.before e.id) [] = _
  rw [hk.mB]; rfl
 rw [e1]
 exact ⟨hk.ga, hk.ok⟩

theorem Yiz.sts {g : Y9k} (hr : Yiz g) {s : List Y9m} (hs : StOk g.events s) : Sts g s := (Mrg.mk (ls := []) hr.fits hr.ev hr.deep (fun s hs => by cases hs) (by simp)).sts hs

end Go.Proofs.YtomachnjepgpbaaGreat
namespace Go.Proofs.YtomachnjepgpbaaGreat
open Go Go.Abs


def accT (l : List Y9j) (T : Int → Bool) : List Int := (l.map (·.id)).filter T
def endT (l : List Y9j) (T : Int → Bool) (x : Int) : Bool := (accT l T).all fun id => !decide (x ∈ (evD l id).prev)
def endsT (l : List Y9j) (T : Int → Bool) : List Int := (accT l T).filter (endT l T)

theorem Yj8 {l : List Y9j} (h : Up2 l) : UpI (l.map (·.id)) := by
 show (l.map (·.id)).Pairwise (· < ·)
 rw [List.pairwise_map]; exact h

theorem Yj9 {l : List Int} (hl : UpI l) (hn : l.length < 1000000) : Zdc l = some l := by
 unfold Zdc
 by_cases h2 : (l.length : Int) < 2
 ·
  rw [Wt h2]; rfl
 ·
  rw [Wf h2, Wv, Y52 (o := .inr ()) (fun m (x : Int) => ∃ i : Nat, x = i ∧ 1 ≤ i ∧ i ≤ l.length ∧ m = l.length - i) ?_ (m := l.length - 1) (x := 1) ⟨1, rfl, by omega, by omega, rfl⟩ (Ycr (by omega))]
  ·
   rfl
  ·
   rintro m x ⟨i, rfl, h1, hi, rfl⟩
   simp only [Zdb]
   by_cases hil : i < l.length
   ·
    right
    have hm : i - 1 < l.length := by omega
    have := List.pairwise_iff_getElem.1 hl (i - 1) i hm hil (by omega)
    rw [dlt hil, Wu, Ycw hil, Wb, Ycy (by omega) (by omega), Ycw hm, Wb, beqd, Wf (by omega), Wv, Ycx hil (by omega)]
    exact ⟨_, l.length - (i + 1), rfl, by omega, i + 1, rfl, by omega, by omega, rfl⟩
   ·
    left
    obtain rfl : i = l.length := by omega
    rw [dnlt, Wv]

theorem Zk4 {l ids : List Int} (hl : UpI l) (hn : ids.Nodup) (hm : ∀ x, x ∈ ids ↔ x ∈ l) : List.mergeSort ids (fun x y => decide (x ≤ y)) = l := by
 have hp : ids.Perm l := (List.perm_ext_iff_of_nodup hn (hl.imp fun {a b} h => by omega)).2 hm
 exact List.Perm.eq_of_pairwise (le := fun a b => decide (a ≤ b) = true) (fun a b _ _ h1 h2 => by simp at h1 h2; omega) (List.pairwise_mergeSort (fun a b c h1 h2 => by simp at h1 h2 ⊢; omega) (fun a b => by simp; omega) ids) (hl.imp fun {a b} h => by simp; omega) ((List.mergeSort_perm ids _).trans hp)

theorem Yja {l ids : List Int} (hl : UpI l) (hn : ids.Nodup) (hm : ∀ x, x ∈ ids ↔ x ∈ l) (hlen : l.length < 1000000) : Zdf ids = some l := by
 have hpl : ids.length = l.length := ((List.perm_ext_iff_of_nodup hn (hl.imp fun {a b} h => by omega)).2 hm).length_eq
 unfold Zdf
 rw [Y4z (Wt (by omega)), Wb, Zk4 hl hn hm, Yj9 hl hlen]; rfl

theorem Yjb (e : Y9j) (l : List Int) (hl : l.length < 1000000) (he : e.prev.length < 1000000) : Zdq l e = some (l.filter fun x => !decide (x ∈ e.prev)) := by
 have hc : ∀ x, Zdh x e = some (decide (x ∈ e.prev)) := fun x => by unfold Zdh; rw [Ydi _ _ (by omega)]; rfl
 unfold Zdq Zdl
 rw [Ydf (Yda (l := l) (step := Zdk l e) (fun x => decide (x ∈ e.prev)) (by omega) (fun i hi => by
  simp only [Zdk]
  rw [dlt hi, Wu, Ycw hi, Wb, hc, Wb, Ycx hi (by omega)]
  cases decide (l[i] ∈ e.prev) <;> rfl) (by simp only [Zdk]; rw [dnlt, Wv])) (fun _ => rfl) rfl, Wb]
 unfold idxP
 cases hf : l.findIdx? (fun x => decide (x ∈ e.prev)) with
 | none =>
  rw [List.findIdx?_eq_none_iff] at hf
  rw [beqd, Wt rfl, Wu]
  exact congrArg some (List.filter_eq_self.2 fun x hx => by simp [hf x hx]).symm
 | some k =>
  obtain ⟨hk, hkp, hkn⟩ := List.findIdx?_eq_some_iff_getElem.1 hf
  simp only
  rw [beqd, Wf (by omega), Wv, Ycx hk (by omega)]
  -- the rest
  have hpre : (l.take k).filter (fun x => !decide (x ∈ e.prev)) = l.take k := List.filter_eq_self.2 fun x hx => by
   obtain ⟨j, hj, hjk, rfl⟩ := Yf1 hx
   have := hkn j hjk
   simpa using this
  obtain ⟨⟨o1, o2⟩, e1, w, hw1, hw2, hw3, hw4⟩ := Y51 (step := fun z : List Int × Int × Int => Zdp e z.1 z.2.1 z.2.2) (p := fun o : List Int × Int => ∃ w : Nat, o.2 = (w : Int) ∧ w ≤ l.length ∧ o.1.length = l.length ∧ o.1.take w = l.filter fun x => !decide (x ∈ e.prev))
   (fun m (z : List Int × Int × Int) => ∃ (w i : Nat), z.2.1 = (w : Int) ∧ z.2.2 = (i : Int) ∧ w < i ∧ i ≤ l.length ∧ z.1.length = l.length ∧ z.1.take w = (l.take i).filter (fun x => !decide (x ∈ e.prev)) ∧ z.1.drop i = l.drop i ∧ m = l.length - i) (by
   rintro m ⟨q, x, y⟩ ⟨w, i, hx, hy, hwi, hi, hq, ht, hd, rfl⟩
   simp only at hx hy hq ht hd
   subst hx hy
   simp only [Zdp, Zdo]
   by_cases hil : i < l.length
   ·
    right
    have hiq : i < q.length := by omega
    have hwq : w < q.length := by omega
    have hqi : q[i] = l[i] := by
     have h1 : (q.drop i)[0]? = (l.drop i)[0]? := by rw [hd]
     simpa [hiq, hil] using h1
    have etk : l.take (i + 1) = l.take i ++ [l[i]] := by rw [List.take_add_one, We hil]; rfl
    rw [dlt hiq, Wu, Ycw hiq, Wb, hc, Wb, hqi, Ycw hwq, Ycx hiq (by omega)]
    have hd' : ∀ v : Int, (q.set w v).drop (i + 1) = l.drop (i + 1) := fun v => by
     rw [List.drop_set_of_lt (by omega)]
     have := congrArg (List.drop 1) hd
     rwa [List.drop_drop, List.drop_drop] at this
    by_cases hp : l[i] ∈ e.prev
    ·
     rw [Wt hp, Wu]
     refine ⟨_, l.length - (i + 1), rfl, by omega, w, i + 1, rfl, rfl, by omega, by omega, hq, ?_, ?_, rfl⟩
     ·
      rw [etk, List.filter_append, List.filter_cons_of_neg (by simp [hp]), List.filter_nil, List.append_nil]; exact ht
     ·
      have := congrArg (List.drop 1) hd
      rwa [List.drop_drop, List.drop_drop] at this
    ·
     rw [Wf hp, Wv, Wb, Int.toNat_natCast, Ycx hwq (by omega)]
     refine ⟨_, l.length - (i + 1), rfl, by omega, w + 1, i + 1, rfl, rfl, by omega, by omega, by simp [hq], ?_, hd' _, rfl⟩
     simp only
     rw [etk, List.filter_append, List.filter_cons_of_pos (by simp [hp]), List.filter_nil, ← ht, List.take_add_one, List.getElem?_set_self hwq]
     rw [List.take_set_of_le (Nat.le_refl _)]; rfl
   ·
    left
    obtain rfl : i = l.length := by omega
    rw [Wf (by omega), Wv]
    refine ⟨_, rfl, w, rfl, by omega, hq, ?_⟩
    rw [List.take_length] at ht
    exact ht) big (l.length - (k + 1)) (l, (k : Int), ((k + 1 : Nat) : Int)) ⟨k, k + 1, rfl, rfl, by omega, by omega, rfl, by
    rw [List.take_add_one, We hk, List.filter_append, hpre]
    simp at hkp
    simp [hkp], rfl, rfl⟩ (Ycr (by omega))
  rw [e1, Wb]
  simp only at hw1 hw2 hw3 hw4
  subst hw1
  simp only [Zdn, Int.toNat_natCast]
  rw [Y4z (Wt (by omega)), Wb, Y4z (Wt (by omega)), Wb, Y4z (Wt (by simp; omega)), Wb]
  congr 1
  rw [← hw4, List.take_append_of_le_length (by simp; omega), List.take_take, Nat.min_self]

theorem Yjc {l : List Y9j} (hf : Fits l) (T : Int → Bool) : UpI (accT l T) := (Yj8 hf.up).filter _
theorem Yjd {l : List Y9j} (hf : Fits l) (T : Int → Bool) : (accT l T).length ≤ 60 := by
 have := List.length_filter_le T (l.map (·.id))
 rw [List.length_map] at this
 have := hf.len
 unfold accT; omega
theorem Yje {l : List Y9j} {T : Int → Bool} {id : Int} (hi : id ∈ endsT l T) : id ∈ l.map (·.id) := (List.mem_filter.1 (List.mem_filter.1 hi).1).1
theorem Yjf {l : List Y9j} (hf : Fits l) (T : Int → Bool) : (endsT l T).length ≤ 60 := Nat.le_trans (List.length_filter_le _ _) (Yjd hf T)

def Yjg (l : List Y9j) (T : Int → Bool) : List Bool := l.map fun e => T e.id

theorem Yjh {g : Y9k} {h : Y9n} {w : Y9p} (hb : Both g h w) (hr : Yiz g) : w.code.map (fun c => decide (c = 0)) = Yjg h.graph.events (refB h) := by
 unfold Yjg
 rw [hb.graph]
 refine List.ext_getElem (by simp [hb.lc]) fun i h1 h2 => ?_
 simp only [List.length_map] at h1 h2
 simp only [List.getElem_map]
 obtain ⟨c, k1, k2⟩ := hb.code (Wm h2)
 rw [(hr.fits.up.plc h2).1, Ycw h1] at k1
 cases k1
 unfold refB
 rw [k2]

theorem Yji {w : Y9p} {step : List Bool × Int → Option ((List Bool × Int) ⊕ List Bool)} (hl : w.code.length < 1000000)
  (h1 : ∀ (l : List Bool) (i : Nat), step (l, (i : Int)) = cond (decide ((i : Int) < (l.length : Int))) ((getI w.code (i : Int)).bind fun e12 => (getI l (i : Int)).bind fun e14 => some (.inl ((List.set l (Int.toNat (i : Int)) (e12 == 0)), (IntKind.i64.wrap ((i : Int) + 1))))) (some (.inr l))) :
  iter step big (List.replicate w.code.length false, 0) = some (w.code.map fun c => decide (c = 0)) := by
 obtain ⟨o, e1, rfl⟩ := Ycu (τ := List Bool × Int) (ω := List Bool) (σ := List Bool) (step := step) (n := w.code.length) (fun s j => (s, j)) (fun i s => s = (w.code.take i).map (fun c => decide (c = 0)) ++ List.replicate (w.code.length - i) false) (fun o => o = w.code.map fun c => decide (c = 0)) (by omega) (by
  rintro i s hi rfl
  have e0 : List.replicate (w.code.length - i) false = false :: List.replicate (w.code.length - (i + 1)) false := by
   rw [show w.code.length - i = (w.code.length - (i + 1)) + 1 by omega, List.replicate_succ]
  have etk : w.code.take (i + 1) = w.code.take i ++ [w.code[i]] := by rw [List.take_add_one, We hi]; rfl
  refine ⟨_, ?_, rfl⟩
  rw [h1, Wt (by simp; omega), Wu, Ycw hi, Wb, e0, Yer (X := (w.code.take i).map fun c => decide (c = 0)) rfl (by simp; omega), Wb, Int.toNat_natCast, Yes (X := (w.code.take i).map fun c => decide (c = 0)) rfl (by simp; omega), Ycx hi (by omega), etk, beqd, List.map_append, List.append_assoc]
  rfl) (by
  rintro s rfl
  refine ⟨_, ?_, rfl⟩
  rw [h1, Wf (by simp), Wv]
  simp) (s := List.replicate w.code.length false) (by simp)
 exact e1

theorem Yjj {α β : Type} (f : α → β) {l : List α} {i : Nat} (hi : i < l.length) : getI (l.map f) (i : Int) = some (f l[i]) := by
 rw [Ycw (by simpa using hi)]; simp

theorem Yjk {g : Y9k} (hr : Yiz g) (T : Int → Bool) : Zhp g (Yjg g.events T) = some (endsT g.events T) := by
 have hfl := hr.fits.len
 unfold Zhp
 -- whether one stands behind an event
 have inner1 : ∀ (i k : Nat) (hi : i < g.events.length) (hk : k < g.events.length) (b : Bool), iter (fun z : Bool × Int => Zhm g (Yjg g.events T) (i : Int) (k : Int) z.1 z.2) big (b, 0) = some (b && (!T g.events[k].id || !decide (g.events[i].id ∈ g.events[k].prev))) := by
  intro i k hi hk b
  have hpl := hr.fits.plen _ (Wm hk)
  have ht : getI (Yjg g.events T) (k : Int) = some (T g.events[k].id) := Yjj _ hk
  cases hrk : T g.events[k].id with
  | false =>
   rw [Y52 (o := b) (fun m (z : Bool × Int) => z = (b, 0)) ?_ (m := 0) rfl (Ycr (by omega))]
   ·
    simp
   ·
    rintro m z rfl
    left
    simp only [Zhm, Zhl]
    rw [ht, Wb, hrk]; rfl
  | true =>
   have := Ydd (l := g.events[k].prev) (step := fun z : Bool × Int => Zhm g (Yjg g.events T) (i : Int) (k : Int) z.1 z.2) (fun q j => (q, j)) (fun q => q) (fun q p => q && !decide (p = g.events[i].id)) (fun _ _ => True) hpl (fun j q hj _ => by
    refine ⟨?_, trivial⟩
    simp only [Zhm, Zhl, Zhk]
    rw [ht, Wb, hrk, Wu, Ycw hk, Wb, dlt hj, Wu, Ycw hi, Ycx hj hpl]
    cases q with
    | false => rfl
    | true =>
     simp only [Wu, Wb]
     rw [Ycw hj, Wb, bned]; rfl)
    (fun q _ => by
     simp only [Zhm, Zhl]
     rw [ht, Wb, hrk, Wu, Ycw hk, Wb, dnlt, Wv]) (s := b) trivial
   rw [this.1]
   congr 1
   have key : ∀ (ps : List Int) (q : Bool), ps.foldl (fun q p => q && !decide (p = g.events[i].id)) q = (q && !decide (g.events[i].id ∈ ps)) := by
    intro ps
    induction ps with
    | nil => intro q; simp
    | cons p ps ih =>
     intro q
     rw [List.foldl_cons, ih]
     by_cases hp : p = g.events[i].id
     ·
      simp [hp]
     ·
      simp [hp, show ¬ g.events[i].id = p from fun h => hp h.symm]
   rw [key]; simp
 have inner2 : ∀ (i : Nat) (hi : i < g.events.length) (b : Bool), iter (fun z : Bool × Int => Zhn g (Yjg g.events T) (i : Int) z.1 z.2) big (b, 0) = some (b && endT g.events T g.events[i].id) := by
  intro i hi b
  have := Ydd (l := g.events) (step := fun z : Bool × Int => Zhn g (Yjg g.events T) (i : Int) z.1 z.2) (fun q j => (q, j)) (fun q => q) (fun q e => q && (!T e.id || !decide (g.events[i].id ∈ e.prev))) (fun _ _ => True) (by omega) (fun k q hk _ => by
   refine ⟨?_, trivial⟩
   simp only [Zhn]
   rw [dlt hk, Wu, inner1 i k hi hk, Wb]
   simp only [Zhj]
   rw [Ycx hk (by omega)])
   (fun q _ => by simp only [Zhn]; rw [dnlt, Wv]) (s := b) trivial
  rw [this.1]
  congr 1
  have key : ∀ (l : List Y9j) (q : Bool), l.foldl (fun q e => q && (!T e.id || !decide (g.events[i].id ∈ e.prev))) q = (q && l.all fun e => (!T e.id || !decide (g.events[i].id ∈ e.prev))) := by
   intro l
   induction l with
   | nil => intro q; simp
   | cons e l ih => intro q; rw [List.foldl_cons, ih, List.all_cons, Bool.and_assoc]
  rw [key]
  congr 1
  unfold endT accT
  rw [Bool.eq_iff_iff, List.all_eq_true, List.all_eq_true]
  constructor
  ·
   intro h1 id hid
   obtain ⟨h2, h3⟩ := List.mem_filter.1 hid
   obtain ⟨_, e2, e3⟩ := Yi3 h2 hr.fits.up
   have := h1 _ e2
   rw [e3, h3] at this
   simpa using this
  ·
   intro h1 e he
   cases h3 : T e.id with
   | false => rfl
   | true =>
    have := h1 e.id (List.mem_filter.2 ⟨List.mem_map.2 ⟨e, he, rfl⟩, h3⟩)
    have e1 : evD g.events e.id = e := by unfold evD; rw [hr.fits.up.evAt_mem he]; rfl
    rw [e1] at this
    simpa using this
 have := Ydd (l := g.events) (step := fun z : List Int × Int => Zho g (Yjg g.events T) z.1 z.2) (fun q j => (q, j)) (fun q => q) (fun q e => if (T e.id && endT g.events T e.id) = true then q ++ [e.id] else q) (fun i q => q.length ≤ i) (by omega) (fun i q hi hq => by
  refine ⟨?_, by split <;> first | omega | (rw [List.length_append, List.length_singleton]; omega)⟩
  have ht : getI (Yjg g.events T) (i : Int) = some (T g.events[i].id) := Yjj _ hi
  simp only [Zho]
  rw [dlt hi, Wu, ht, Wb, inner2 i hi, Wb]
  simp only [Zhi, Zhh]
  rw [Ycw hi, Ycx hi (by omega), Wb, chk8 (by simp; omega)]
  cases (T g.events[i].id && endT g.events T g.events[i].id) <;> rfl)
  (fun q _ => by simp only [Zho]; rw [dnlt, Wv]) (s := []) (by simp)
 rw [this.1, Wb]
 simp only [Zhg]
 congr 1
 unfold endsT accT
 rw [List.filter_filter]
 have key : ∀ (l : List Y9j) (q : List Int), l.foldl (fun q e => if (T e.id && endT g.events T e.id) = true then q ++ [e.id] else q) q = q ++ (l.map (·.id)).filter fun x => endT g.events T x && T x := by
  intro l
  induction l with
  | nil => intro q; simp
  | cons e l ih =>
   intro q
   rw [List.foldl_cons, ih]
   cases hc : T e.id && endT g.events T e.id with
   | true => rw [if_pos rfl, List.map_cons, List.filter_cons_of_pos (by rw [Bool.and_comm]; exact hc)]; simp
   | false => rw [if_neg (by simp), List.map_cons, List.filter_cons_of_neg (by rw [Bool.and_comm, hc]; simp)]
 rw [key]; rfl


def nowT (g : Y9k) (h : Y9n) (T : Int → Bool) : List Y9m := resOf g ((endsT g.events T).map (behI h.after))

theorem Both.endsT {g : Y9k} {h : Y9n} {w : Y9p} (hb : Both g h w) (hr : Yiz g) (T : Int → Bool) : Mrg g ((endsT g.events T).map (behI h.after)) := by
 refine ⟨hr.fits, hr.ev, hr.deep, fun s hs => ?_, by have := Yjf hr.fits T; simp; omega⟩
 obtain ⟨id, hid, rfl⟩ := List.mem_map.1 hs
 have hm := Yje hid
 obtain ⟨_, e2, e3⟩ := Yi3 hm hr.fits.up
 have := (hb.behind hr e2).2
 rwa [e3] at this

theorem Yjl {g : Y9k} {h : Y9n} {w : Y9p} (hb : Both g h w) (hr : Yiz g) (T : Int → Bool) : Zhx g w (Yjg g.events T) = some (nowT g h T) := by
 have hgr := hb.graph
 have hel := Yjf hr.fits T
 have hfl := hr.fits.len
 unfold Zhx
 rw [Yjk hr, Wb]
 have := Ydd (l := endsT g.events T) (step := fun z : List (List Y9m) × Int => Zhw g w (endsT g.events T) z.1 z.2) (fun q j => (q, j)) (fun q => q) (fun q p => q ++ [behI h.after p]) (fun i q => q.length = i) (by omega) (fun i q hi hq => by
  refine ⟨?_, by simp [hq]⟩
  have hm := Yje (Wm hi)
  obtain ⟨_, e2, e3⟩ := Yi3 hm hr.fits.up
  have hbe := (hb.behind hr e2).1
  rw [e3] at hbe
  simp only [Zhw]
  rw [dlt hi, Wu, Ycw hi, Wb, Ydt _ _ (by omega), Wb, hbe, Wb, Yg9 (by simp; omega), Wb, Ycx hi (by omega)])
  (fun q _ => by simp only [Zhw]; rw [dnlt, Wv]) (s := []) rfl
 rw [this.1, Yj2, Wb]
 simp only [Zhv, List.nil_append]
 have hm' : Mrg h.graph ((endsT g.events T).map (behI h.after)) := by rw [hgr]; exact hb.endsT hr T
 obtain ⟨c1, _, _⟩ := Yi8 hm' hb.depth
 rw [hb.depths, ← hgr]
 rw [hgr] at c1 ⊢
 rw [c1]
 rfl

theorem Yjm {g : Y9k} {h : Y9n} {w : Y9p} (hb : Both g h w) (hr : Yiz g) : Zht w = some (Yjg g.events (refB h)) := by
 have hfl := hr.fits.len
 have hlc := hb.lc
 unfold Zht
 rw [Y4z (Wt (by omega)), Wb, Int.toNat_natCast]
 rw [Yji (by omega) (fun l i => by simp only [Zhs]), Wb]
 have := Yjh hb hr
 rw [hb.graph] at this
 rw [this]; rfl
end Go.Proofs.YtomachnjepgpbaaGreat
namespace Go.Proofs.YtomachnjepgpbaaGreat
open Go Go.Abs


def Yjn : Y9n := ⟨⟨0, [], []⟩, [], [], [], []⟩
def hiG (g : Y9k) : Y9n := (Zco g).getD Yjn
def knG (g : Y9k) : Y9p := (Zgz g).getD ⟨[], [], [], []⟩
theorem Yjo {g : Y9k} (hr : Yiz g) : Zco g = some (hiG g) ∧ Zgz g = some (knG g) ∧ Both g (hiG g) (knG g) := by
 obtain ⟨h, w, h1, h2, h3⟩ := Yj4 hr
 unfold hiG knG
 rw [h1, h2]
 exact ⟨rfl, rfl, h3⟩

def okB (g : Y9k) (id : Int) : Bool := refB (hiG g) id
def nowG (g : Y9k) : List Y9m := nowT g (hiG g) (okB g)
end Go.Proofs.YtomachnjepgpbaaGreat
namespace Go.Proofs.YtomachnjepgpbaaGreat
open Go Go.Abs

theorem Yjp {g : Y9k} {s : List Y9m} (h : Sts g s) {e : Y9j} (k : e.kind = 8) (hn : evAt g.events e.key = none) : alw g s e ≠ 0 := by
 unfold alw Zg1 Zg0 Zfz Zfy Zfx
 rw [Yg5 _ _ _ (by have := h.sl; omega), Wb, Ygv h, Ygx h, Ydt _ _ (by have := h.len; omega)]
 simp only [Wb, Ydv, Ygp, hn, k, bned]
 by_cases h1 : idS s 1 0 > 0 <;> by_cases h2 : mbr g.events s e.author = 1 <;> simp [h1, h2, Ygz]

section
variable {g g' : Y9k} (x : ExtG g g')
include x
theorem ExtG.lay1 {s : List Y9m} (hs : StOk g.events s) {e : Y9j} (hk : e.kind ≠ 8) : layE g' s e = layE g s e := by
 unfold layE
 rw [x.alw (x.right.sts hs) (x.right'.sts (x.ext.st hs)) fun h => absurd h hk]
theorem ExtG.lays : ∀ {es : List Y9j} {s : List Y9m}, StOk g.events s → (∀ e ∈ es, e ∈ g.events ∧ e.kind ≠ 8) → es.foldl (layE g') s = es.foldl (layE g) s
 | [], _, _, _ => rfl
 | e :: es, s, hs, he => by
  obtain ⟨h1, h2⟩ := he e (by simp)
  rw [List.foldl_cons, List.foldl_cons, x.lay1 hs h2]
  exact ExtG.lays (Yhz (es := [e]) x.right.fits.up hs (by simpa using h1)) fun f hf => he f (by simp [hf])
theorem ExtG.mrg {ls : List (List Y9m)} (hm : Mrg g ls) : Mrg g' ls := ⟨x.right'.fits, x.right'.ev, x.right'.deep, fun s hs => x.ext.st (hm.ok s hs), hm.len⟩
end

theorem Yjq {g : Y9k} {ls : List (List Y9m)} (hm : Mrg g ls) (hlo : ∀ s ∈ ls, Low s) {n : Int} (hn : n ∈ (Yhj ls).2) : (evD g.events n).kind ≤ 6 ∧ ∃ s ∈ ls, ∃ y ∈ s, y.id = n ∧ y = ⟨(evD g.events n).kind, (evD g.events n).key, (evD g.events n).id⟩ := by
 obtain ⟨s, hs, y, hy, _, rfl⟩ := ((Yhn hm).2 n).1 hn
 obtain ⟨e, he, h1, h2⟩ := (hm.ok s hs).ev y hy
 have h3 : evD g.events y.id = e := by unfold evD; rw [he]; rfl
 have h4 := (Ye0 he).2
 rw [h3, h1, h2, h4]
 exact ⟨hlo s hs y hy, s, hs, y, hy, rfl, rfl⟩

theorem ExtG.resOf {g g' : Y9k} (x : ExtG g g') {ls : List (List Y9m)} (hm : Mrg g ls) (hlo : ∀ s ∈ ls, Low s) : resOf g' ls = resOf g ls := by
 obtain ⟨od, a1, a2, a3⟩ := Zjz hm
 obtain ⟨od', b1, b2, b3⟩ := Zjz (x.mrg hm)
 have hR := (Yhm hm).2
 have hin : ∀ n ∈ od, n ∈ g.events.map (·.id) := fun n hn => hR.ids n (a2.mem_iff.1 hn)
 have hin' : ∀ n ∈ od', n ∈ g.events.map (·.id) := fun n hn => hR.ids n (b2.mem_iff.1 hn)
 have e : od' = od := by
  refine List.Perm.eq_of_pairwise (le := fun a b => Lt3 (dmR g.events) (evD g.events a) (evD g.events b)) (fun a b _ _ h1 h2 => by unfold Lt3 at h1 h2; omega) ?_ a3 (b2.trans a2.symm)
  refine List.Pairwise.imp_of_mem (fun {a b} ha hb hab => ?_) b3
  have ha1 := Yi3 (hin' a ha) x.right.fits.up
  have hb1 := Yi3 (hin' b hb) x.right.fits.up
  rw [x.ext.evD (hin' a ha), x.ext.evD (hin' b hb)] at hab
  unfold Lt3 at hab ⊢
  rw [x.ext.dmR ha1.2.1, x.ext.dmR hb1.2.1] at hab
  exact hab
 unfold Go.Proofs.YtomachnjepgpbaaGreat.resOf
 rw [a1, b1, e, List.map_congr_left (g := evD g.events) fun n hn => x.ext.evD (hin n hn), Option.getD_some, Option.getD_some]
 refine x.lays hR.ok fun e he => ?_
 obtain ⟨n, hn, rfl⟩ := List.mem_map.1 he
 have := (Yjq hm hlo (a2.mem_iff.1 hn)).1
 exact ⟨(Yi3 (hin n hn) x.right.fits.up).2.1, by omega⟩

theorem Yjr {g : Y9k} {ls : List (List Y9m)} (hm : Mrg g ls) (hlo : ∀ s ∈ ls, Low s) : ∀ y ∈ resOf g ls, ∃ s ∈ ls, y ∈ s := by
 obtain ⟨od, a1, a2, _⟩ := Zjz hm
 have hR := (Yhm hm).2
 unfold resOf
 rw [a1, Option.getD_some]
 have key : ∀ (od : List Int) (s : List Y9m), (∀ n ∈ od, n ∈ (Yhj ls).2) → StOk g.events s → (∀ y ∈ s, ∃ t ∈ ls, y ∈ t) → ∀ y ∈ (od.map (evD g.events)).foldl (layE g) s, ∃ t ∈ ls, y ∈ t := by
  intro od
  induction od with
  | nil => intro s _ _ h; exact h
  | cons n od ih =>
   intro s hn hs h
   have hn1 := hn n (by simp)
   rw [List.map_cons, List.foldl_cons]
   refine ih _ (fun m hm => hn m (by simp [hm])) (Yhz (es := [evD g.events n]) hm.fits.up hs (by simpa using (Yi3 (hR.ids n hn1) hm.fits.up).2.1)) fun y hy => ?_
   unfold layE at hy
   split at hy
   ·
    rcases (Yh9 hs.up).1 hy with rfl | ⟨hy, _⟩
    ·
     obtain ⟨_, t, ht, z, hz, _, rfl⟩ := Yjq hm hlo hn1
     exact ⟨t, ht, hz⟩
    ·
     exact h y hy
   ·
    exact h y hy
 exact key od _ (fun n hn => a2.mem_iff.1 hn) hR.ok fun y hy => (((Yhn hm).1 y).1 hy).1
theorem Yjs {g : Y9k} {s : List Y9m} (hs : StOk g.events s) {e : Y9j} : ∀ y ∈ nextOf g s e, y ∈ s ∨ (y = ⟨e.kind, e.key, e.id⟩ ∧ e.kind ≤ 6) := fun y hy => by
 unfold nextOf at hy
 split at hy
 ·
  rename_i h
  rcases (Yh9 hs.up).1 hy with rfl | ⟨hy, _⟩
  ·
   exact .inr ⟨rfl, h.2⟩
  ·
   exact .inl hy
 ·
  exact .inl hy

section
variable {g g' : Y9k} (x : ExtG g g')
include x
theorem ExtG.code0 {s : List Y9m} (hs : StOk g.events s) {e : Y9j} (he : e ∈ g.events) : Yiw g' s e = 0 ↔ Yiw g s e = 0 := by
 have h := x.right.sts hs
 have h' := x.right'.sts (x.ext.st hs)
 have ha := x.ahead e.key he
 by_cases h8 : e.kind = 8
 ·
  cases hv : evAt g.events e.key with
  | none =>
   obtain ⟨b, h1, h2⟩ := Zk0 x.right.walk e.key he
   have hno : e.key ∉ g.events.map (·.id) := fun hm => by
    have := Yic.2 hm
    rw [Ygp, hv] at this; cases this
   obtain rfl := h2.none x.right.walk hno fun p hp => Yic.1 (x.ext.fits.whole e he p hp)
   have hb : Yiv g e.key e = false := by unfold Yiv; rw [h1]; rfl
   rw [hb] at ha
   have := Yjp h h8 hv
   unfold Yiw
   by_cases hz : Go.Proofs.YtomachnjepgpbaaGreat.alw g' s e = 0 <;> simp [hz, h8, this, ha]
  | some f =>
   unfold Yiw
   rw [ha, x.alw h h' fun _ => by rw [hv, x.ext.at hv]]
 ·
  unfold Yiw
  rw [ha, x.alw h h' fun h => absurd h h8]
theorem ExtG.nextOf {s : List Y9m} (hs : StOk g.events s) {e : Y9j} (he : e ∈ g.events) : nextOf g' s e = nextOf g s e := by
 have := x.code0 hs he
 unfold Go.Proofs.YtomachnjepgpbaaGreat.nextOf
 simp only [this]
end


def stA (g : Y9k) (id : Int) : List Y9m := behI (hiG g).after id
def stP (g : Y9k) (e : Y9j) : List Y9m := Go.Proofs.YtomachnjepgpbaaGreat.resOf g (e.prev.map (stA g))

theorem Yjt {g : Y9k} (hr : Yiz g) {e : Y9j} (he : e ∈ g.events) : StOk g.events (stP g e) ∧ stA g e.id = nextOf g (stP g e) e ∧ (okB g e.id = true ↔ Yiw g (stP g e) e = 0) := by
 have k := (Yjo hr).2.2.all e he
 refine ⟨k.ok, ?_, ?_⟩
 ·
  unfold stA
  show Option.getD (mget (hiG g).after e.id) [] = _
  rw [k.mA]; rfl
 ·
  unfold okB refB
  rw [k.mR, Option.getD_some, decide_eq_true_iff]; exact Iff.rfl
theorem Yju {g : Y9k} (hr : Yiz g) {e : Y9j} (he : e ∈ g.events) : StOk g.events (stA g e.id) := by
 obtain ⟨h1, h2, _⟩ := Yjt hr he
 rw [h2]; exact Yix hr.fits.up h1 he

theorem Yjv {l : List Y9j} (hf : Fits l) (hd : Deep l) {P : Y9j → Prop} (h : ∀ e ∈ l, (∀ f ∈ l, f.id ∈ e.prev → P f) → P e) : ∀ e ∈ l, P e := by
 have key : ∀ n : Nat, ∀ e ∈ l, (dOf l (Yed l) e.id).toNat ≤ n → P e := by
  intro n
  induction n with
  | zero =>
   intro e he hn
   have := (Yj5 hf hd he).2
   omega
  | succ n ih =>
   intro e he hn
   refine h e he fun f hfl hp => ih f hfl ?_
   have := Yil hf hd he hp
   have := (Yj5 hf hd hfl).2
   omega
 exact fun e he => key _ e he (Nat.le_refl _)

theorem Yjw {g : Y9k} (hr : Yiz g) {e : Y9j} (he : e ∈ g.events) : Mrg g (e.prev.map (stA g)) := ⟨hr.fits, hr.ev, hr.deep, fun s hs => by
 obtain ⟨p, hp, rfl⟩ := List.mem_map.1 hs
 obtain ⟨f, hf, rfl⟩ := Ydz.1 (hr.fits.whole e he p hp)
 exact Yju hr hf, by have := (hr.ev e he).prev.1; simp; omega⟩

theorem Yjx {g : Y9k} (hr : Yiz g) : ∀ e ∈ g.events, Low (stA g e.id) := by
 refine Yjv hr.fits hr.deep fun e he ih y hy => ?_
 obtain ⟨h1, h2, _⟩ := Yjt hr he
 rw [h2] at hy
 have hlo : ∀ s ∈ e.prev.map (stA g), Low s := fun s hs => by
  obtain ⟨p, hp, rfl⟩ := List.mem_map.1 hs
  obtain ⟨f, hf, rfl⟩ := Ydz.1 (hr.fits.whole e he p hp)
  exact ih f hf hp
 rcases Yjs h1 y hy with hy | ⟨rfl, hk⟩
 ·
  obtain ⟨s, hs, hy⟩ := Yjr (Yjw hr he) hlo y hy
  exact hlo s hs y hy
 ·
  exact hk
theorem Yjy {g : Y9k} (hr : Yiz g) {e : Y9j} (he : e ∈ g.events) : ∀ s ∈ e.prev.map (stA g), Low s := fun s hs => by
 obtain ⟨p, hp, rfl⟩ := List.mem_map.1 hs
 obtain ⟨f, hf, rfl⟩ := Ydz.1 (hr.fits.whole e he p hp)
 exact Yjx hr f hf

end Go.Proofs.YtomachnjepgpbaaGreat
namespace Go.Proofs.YtomachnjepgpbaaGreat
open Go Go.Abs

end Go.Proofs.YtomachnjepgpbaaGreat
namespace Go.Proofs.YtomachnjepgpbaaGreat
open Go Go.Abs

theorem Yjz {g : Y9k} (hr : Yiz g) {e : Y9j} (he : e ∈ g.events) (hk : e.kind ≤ 6) (hc : okB g e.id = true) : idS (stA g e.id) e.kind e.key = e.id ∧ cur g.events (stA g e.id) e.kind e.key = some e := by
 obtain ⟨h1, h2, h3⟩ := Yjt hr he
 have hc0 := h3.1 hc
 have hm : (⟨e.kind, e.key, e.id⟩ : Y9m) ∈ stA g e.id := by
  rw [h2]
  unfold nextOf
  rw [if_pos ⟨hc0, hk⟩]
  unfold putE
  exact (Yh9 h1.up).2 (.inl rfl)
 have hi : idS (stA g e.id) e.kind e.key = e.id := Yhg (Yju hr he).up hm
 refine ⟨hi, ?_⟩
 unfold cur
 rw [hi]
 exact hr.fits.up.evAt_mem he

theorem Yk0 {g : Y9k} (hr : Yiz g) {e : Y9j} (he : e ∈ g.events) (hk : e.kind = 2) (hc : okB g e.id = true) : mbr g.events (stA g e.id) e.key = e.n := by
 have := (Yjz hr he (by omega) hc).2
 unfold mbr
 rw [hk] at this
 rw [this]; rfl

theorem Yk1 {g : Y9k} (hr : Yiz g) {e : Y9j} (he : e ∈ g.events) (hk : e.kind = 3) (hc : okB g e.id = true) : lvl g.events (stA g e.id) e.key = e.n := by
 have := (Yjz hr he (by omega) hc).2
 unfold lvl
 rw [hk] at this
 rw [this]

theorem Yk2 {g : Y9k} (hr : Yiz g) {e : Y9j} (he : e ∈ g.events) : getI (knG g).ahead (plc g.events e.id) = some (stP g e) ∧ getI (knG g).behind (plc g.events e.id) = some (stA g e.id) ∧ (∃ c, getI (knG g).code (plc g.events e.id) = some c ∧ (c = 0 ↔ okB g e.id = true) ∧ Option.getD (mget (hiG g).refused e.id) 0 = c) ∧ behI (hiG g).before e.id = stP g e := by
 have hb := (Yjo hr).2.2
 have h1 := (hb.ahead he).1
 have h2 := (hb.behind hr he).1
 obtain ⟨c, k1, k2⟩ := hb.code he
 have hB : behI (hiG g).before e.id = stP g e := by
  have k := hb.all e he
  unfold behI
  rw [k.mB]; rfl
 refine ⟨by rw [h1, hB], h2, ⟨c, k1, ?_, k2⟩, hB⟩
 unfold okB refB
 rw [k2, decide_eq_true_iff]
end Go.Proofs.YtomachnjepgpbaaGreat
namespace Go.Proofs.YtomachnjepgpbaaGreat
open Go Go.Abs

theorem Yk3 {h : Y9n} (hr : Yiz h.graph) : Zd5 h = some (accT h.graph.events (refB h)) := by
 have hfl := hr.fits.len
 unfold Zd5
 have := Ydd (l := h.graph.events) (step := fun z : List Int × Int => Zd4 h z.1 z.2) (fun q j => (q, j)) (fun q => q) (fun q e => if refB h e.id = true then q ++ [e.id] else q) (fun i q => q.length ≤ i) (by omega) (fun i q hi hq => by
  refine ⟨?_, by split <;> first | omega | (rw [List.length_append, List.length_singleton]; omega)⟩
  simp only [Zd4, Zd3]
  rw [dlt hi, Wu, Ycw hi, Wb, Ycx hi (by omega), chk8 (by simp; omega), beqd]
  unfold refB
  by_cases hc : Option.getD (mget h.refused h.graph.events[i].id) 0 = 0
  ·
   rw [Wt hc]; rfl
  ·
   rw [Wf hc]; rfl)
  (fun q _ => by simp only [Zd4]; rw [dnlt, Wv]) (s := []) (by simp)
 rw [this.1, Wb]
 have key : ∀ (l : List Y9j) (q : List Int), l.foldl (fun q e => if refB h e.id = true then q ++ [e.id] else q) q = q ++ (l.map (·.id)).filter (refB h) := by
  intro l
  induction l with
  | nil => intro q; simp
  | cons e l ih =>
   intro q
   rw [List.foldl_cons, ih]
   cases hc : refB h e.id with
   | true => rw [if_pos rfl, List.map_cons, List.filter_cons_of_pos hc]; simp
   | false => rw [if_neg (by simp), List.map_cons, List.filter_cons_of_neg (by simp [hc])]
 rw [key]; rfl

theorem Yk4 {h : Y9n} (hr : Yiz h.graph) {ids : List Int} {T : Int → Bool} (hn : ids.Nodup) (hm : ∀ x, x ∈ ids ↔ x ∈ accT h.graph.events T) : Zdv h ids = some (endsT h.graph.events T) := by
 have hfl := hr.fits.len
 have hup := Yjc hr.fits T
 have hal := Yjd hr.fits T
 have hil : ids.length = (accT h.graph.events T).length := ((List.perm_ext_iff_of_nodup hn (hup.imp fun {a b} h => by omega)).2 hm).length_eq
 unfold Zdv
 have hcl : Zc7 ids = some ids := by unfold Zc7; rw [chk8 (by omega)]; rfl
 rw [hcl, Wb, Yja hup hn hm (by omega), Wb]
 have := Ydd (l := ids) (step := fun z : List Int × Int => Zdu h ids z.1 z.2) (fun q j => (q, j)) (fun q => q) (fun q id => q.filter fun x => !decide (x ∈ (evD h.graph.events id).prev)) (fun _ q => q.length ≤ 60) (by omega) (fun i q hi hq => by
  refine ⟨?_, Nat.le_trans (List.length_filter_le _ _) hq⟩
  have hmi : ids[i] ∈ h.graph.events.map (·.id) := (List.mem_filter.1 ((hm _).1 (Wm hi))).1
  have hp := (hr.walk.prev hmi).1
  simp only [Zdu]
  rw [dlt hi, Wu, Ycw hi, Wb, c_at _ _ hr.fits.up (by omega), Wb]
  show (Zdq q (evD h.graph.events ids[i])).bind _ = _
  rw [Yjb _ _ (by omega) (by omega), Wb, Ycx hi (by omega)])
  (fun q _ => by simp only [Zdu]; rw [dnlt, Wv]) (s := accT h.graph.events T) hal
 rw [this.1, Wb]
 simp only [Zdt]
 congr 1
 have key : ∀ (r q : List Int), r.foldl (fun q id => q.filter fun x => !decide (x ∈ (evD h.graph.events id).prev)) q = q.filter fun x => r.all fun id => !decide (x ∈ (evD h.graph.events id).prev) := by
  intro r
  induction r with
  | nil => intro q; exact (List.filter_eq_self.2 fun x _ => rfl).symm
  | cons id r ih =>
   intro q
   rw [List.foldl_cons, ih, List.filter_filter]
   congr 1
   funext x
   simp [Bool.and_comm]
 rw [key]
 unfold endsT
 congr 1
 funext x
 unfold endT
 rw [Bool.eq_iff_iff, List.all_eq_true, List.all_eq_true]
 exact ⟨fun h id hid => h id ((hm id).2 hid), fun h id hid => h id ((hm id).1 hid)⟩

theorem Yk5 {h : Y9n} (l : List Int) (hl : l.length < 1000000) : Z9p h l = some (l.map (behI h.after)) := by
 unfold Z9p
 have := Ydd (l := l) (step := fun z : List (List Y9m) × Int => Z9o h l z.1 z.2) (fun q j => (q, j)) (fun q => q) (fun q p => q ++ [behI h.after p]) (fun i q => q.length = i) (by omega) (fun i q hi hq => by
  refine ⟨?_, by simp [hq]⟩
  simp only [Z9o]
  rw [dlt hi, Wu, Ycw hi, Wb, Yg9 (by simp; omega), Wb, Ycx hi (by omega)]; rfl)
  (fun q _ => by simp only [Z9o]; rw [dnlt, Wv]) (s := []) rfl
 rw [this.1, Yj2]; rfl

theorem Yk6 {l : List Y9j} (hf : Fits l) (T : Int → Bool) : (accT l T).Nodup := (Yjc hf T).imp fun {a b} h => by omega

theorem Yk7 {h : Y9n} (hr : Yiz h.graph) : Zdx h = some (endsT h.graph.events (refB h)) := by
 unfold Zdx
 rw [Yk3 hr, Wb, Yk4 hr (Yk6 hr.fits _) (fun _ => Iff.rfl), Wb]

theorem Yk8 {g : Y9k} {h : Y9n} {w : Y9p} (hb : Both g h w) (hr : Yiz g) : Zdz h = some (nowT g h (refB h)) ∧ StOk g.events (nowT g h (refB h)) := by
 have hgr := hb.graph
 have hm := hb.endsT hr (refB h)
 have hel := Yjf hr.fits (refB h)
 have hr' : Yiz h.graph := hgr ▸ hr
 unfold Zdz
 rw [Yk7 hr', Wb, hgr, Yk5 _ (by omega), Wb]
 have hm' : Mrg h.graph ((endsT g.events (refB h)).map (behI h.after)) := by rw [hgr]; exact hm
 obtain ⟨_, c2, c3⟩ := Yi8 hm' hb.depth
 rw [c2, hgr]
 rw [hgr] at c3
 exact ⟨rfl, c3⟩

end Go.Proofs.YtomachnjepgpbaaGreat
namespace Go.Proofs.YtomachnjepgpbaaGreat
open Go Go.Abs


def enOk (x : Y9m) : Bool := decide (1 ≤ x.kind ∧ x.kind ≤ 6) && (decide (0 ≤ x.key ∧ x.key ≤ 6) && decide (1 ≤ x.id ∧ x.id ≤ 1000000))

theorem Yk9 {a b c : Y9m} (h : ltK a b) (k : ltK b c) : ltK a c := by unfold ltK at h k ⊢; omega
theorem Yka {s : List Y9m} (h : ∀ (i : Nat) (hi : i < s.length), 0 < i → ltK s[i - 1] s[i]) : UpS s := by
 have key : ∀ (d i : Nat) (hi : i + d + 1 < s.length), ltK (s[i]'(by omega)) s[i + d + 1] := by
  intro d
  induction d with
  | zero => intro i hi; exact h (i + 1) hi (by omega)
  | succ d ih => intro i hi; exact Yk9 (ih i (by omega)) (h (i + (d + 1) + 1) hi (by omega))
 rw [UpS, List.pairwise_iff_getElem]
 intro i j hi hj hij
 have := key (j - i - 1) i (by omega)
 simpa [show i + (j - i - 1) + 1 = j by omega] using this

def Ykb (s : List Y9m) : Bool := decide (s.length ≤ 400) && (s.all enOk && decide (UpS s))
theorem Ykc {s : List Y9m} {step : Int → Option (Int ⊕ (Bool ⊕ Unit))} (hl : s.length < 9223372036854775807)
  (h1 : ∀ (i : Nat) (hi : i < s.length), step (i : Int) = some (cond (enOk s[i] && (decide (i = 0) || decide (ltK s[i - 1] s[i]))) (.inl ((i + 1 : Nat) : Int)) (.inr (.inl false)))) (h2 : step (s.length : Int) = some (.inr (.inr ()))) :
  iter step big 0 = some (cond (s.all enOk && decide (UpS s)) (.inr ()) (.inl false)) := by
 rw [Yct (fun i => if h : i < s.length then (enOk s[i] && (decide (i = 0) || decide (ltK s[i - 1] s[i]))) else true) (.inl false) (.inr ()) hl (fun i hi => by simp only [hi, dif_pos]; exact h1 i hi) h2]
 have : (∀ i, i < s.length → (if h : i < s.length then (enOk s[i] && (decide (i = 0) || decide (ltK s[i - 1] s[i]))) else true) = true) ↔ (s.all enOk && decide (UpS s)) = true := by
  rw [Bool.and_eq_true, decide_eq_true_iff, List.all_eq_true]
  constructor
  ·
   intro h
   have hx : ∀ (i : Nat) (hi : i < s.length), enOk s[i] = true ∧ (i = 0 ∨ ltK s[i - 1] s[i]) := fun i hi => by
    have := h i hi
    simpa [hi] using this
   refine ⟨fun x hx' => ?_, Yka fun i hi h0 => ((hx i hi).2).resolve_left (by omega)⟩
   obtain ⟨i, hi, rfl⟩ := List.mem_iff_getElem.1 hx'
   exact (hx i hi).1
  ·
   rintro ⟨h3, h4⟩ i hi
   have h5 := h3 _ (Wm hi)
   simp only [hi, dif_pos, h5, Bool.true_and, Bool.or_eq_true, decide_eq_true_eq]
   rcases Nat.eq_zero_or_pos i with h0 | h0
   ·
    exact .inl h0
   ·
    exact .inr (h4.lt hi (by omega : i - 1 < i))
 cases hb : s.all enOk && decide (UpS s) with
 | true => rw [if_pos (this.2 hb)]; rfl
 | false => rw [if_neg (fun h => by rw [this.1 h] at hb; cases hb)]; rfl

theorem Ykd (s : List Y9m) (hl : s.length < 9223372036854775807) : Zj0 s = some (Ykb s) := by
 unfold Zj0 Ziy Ykb
 by_cases h4 : s.length ≤ 400
 ·
  rw [Wf (by omega : ¬ (s.length : Int) > 400), Wv, Wt h4, Bool.true_and]
  rw [Ykc hl ?_ (by simp only [Zix]; rw [dnlt, Wv])]
  ·
   cases s.all enOk && decide (UpS s) <;> rfl
  ·
   intro i hi
   simp only [Zix, Zit, Zis]
   rw [dlt hi, Wu, Ycw hi, Wb, Yd0, Yd0, Yd1]
   simp only [Wb, Ziw, Ycx hi hl]
   unfold enOk
   generalize decide (1 ≤ s[i].kind ∧ s[i].kind ≤ 6) = b1
   generalize decide (0 ≤ s[i].key ∧ s[i].key ≤ 6) = b2
   generalize decide (1 ≤ s[i].id ∧ s[i].id ≤ 1000000) = b3
   by_cases h0 : i = 0
   ·
    rw [Wf (by omega : ¬ (i : Int) > 0), Wt h0]
    cases b1 <;> cases b2 <;> cases b3 <;> rfl
   ·
    rw [Wt (by omega : (i : Int) > 0), Wf h0, Ycy (by omega) (by omega), Ycw (by omega : i - 1 < s.length), Wb, Yg6]
    generalize decide (ltK s[i - 1] s[i]) = b4
    cases b1 <;> cases b2 <;> cases b3 <;> cases b4 <;> rfl
 ·
  rw [Wt (by omega : (s.length : Int) > 400), Wu, Wf h4]; rfl
def inG (l : List Y9j) (x : Y9m) : Bool := match evAt l x.id with
 | some e => decide (e.kind = x.kind) && decide (e.key = x.key)
 | none => false
def stB (l : List Y9j) (s : List Y9m) : Bool := Ykb s && s.all (inG l)

theorem Yke {l : List Y9j} {s : List Y9m} (h : stB l s = true) : StOk l s := by
 unfold stB Ykb at h
 simp only [Bool.and_eq_true, decide_eq_true_eq, List.all_eq_true] at h
 refine ⟨h.1.2.2, fun x hx => ?_⟩
 have := h.2 x hx
 unfold inG at this
 split at this
 ·
  rename_i e he
  simp only [Bool.and_eq_true, decide_eq_true_eq] at this
  exact ⟨e, he, this⟩
 ·
  cases this

theorem EvOk.key6 {e : Y9j} (h : EvOk e) (hk : e.kind ≤ 6) : 1 ≤ e.kind ∧ 0 ≤ e.key ∧ e.key ≤ 6 := by
 have hb := h.body
 unfold Ydk Z28 Z20 Z21 Z22 Z23 Z24 Z25 Z26 Z27 at hb
 simp only [Yd2, Yd0, Yd1, Wb, beqd] at hb
 by_cases h1 : e.kind = 1
 ·
  by_cases h0 : e.key = 0
  ·
   omega
  ·
   simp [h1, h0] at hb
 by_cases h2 : e.kind = 2
 ·
  by_cases h0 : 1 ≤ e.key ∧ e.key ≤ 6
  ·
   omega
  ·
   simp [h2, h0] at hb
 by_cases h3 : e.kind = 3
 ·
  by_cases h0 : 1 ≤ e.key ∧ e.key ≤ 6
  ·
   omega
  ·
   simp [h3, h0] at hb
 by_cases h4 : e.kind = 4
 ·
  by_cases h0 : e.key = 0
  ·
   omega
  ·
   simp [h4, h0] at hb
 by_cases h5 : e.kind = 5
 ·
  by_cases h0 : e.key = 0
  ·
   omega
  ·
   simp [h5, h0] at hb
 by_cases h6 : e.kind = 6
 ·
  by_cases h0 : e.key = 0
  ·
   omega
  ·
   simp [h6, h0] at hb
 have h7 : ¬ e.kind = 7 := by omega
 have h8 : ¬ e.kind = 8 := by omega
 simp [h1, h2, h3, h4, h5, h6, h7, h8] at hb

theorem Ykf {g : Y9k} (hr : Yiz g) {s : List Y9m} (hs : StOk g.events s) (hlo : Low s) : stB g.events s = true := by
 have hl := (hr.sts hs)
 have hlen := Nat.le_trans hs.len hr.fits.len
 unfold stB Ykb
 simp only [Bool.and_eq_true, decide_eq_true_eq, List.all_eq_true]
 refine ⟨⟨by omega, fun x hx => ?_, hs.up⟩, fun x hx => ?_⟩
 ·
  obtain ⟨e, he, hk, hy⟩ := hs.ev x hx
  obtain ⟨h1, h2⟩ := Ye0 he
  have h3 := hr.ev e h1
  have h4 := h3.key6 (by rw [hk]; exact hlo x hx)
  have h5 := h3.id
  have h6 := hlo x hx
  unfold enOk
  simp only [Bool.and_eq_true, decide_eq_true_eq]
  omega
 ·
  obtain ⟨e, he, hk, hy⟩ := hs.ev x hx
  unfold inG
  rw [he]
  simp [hk, hy]

theorem Ykg {g : Y9k} (hel : g.events.length < 1000000) (s : List Y9m) (hl : s.length < 1000000) : Zj5 g s = some (stB g.events s) := by
 unfold Zj5 stB
 rw [Ykd s (by omega), Wb]
 cases Ykb s with
 | false => rfl
 | true =>
  rw [Wu, Bool.true_and]
  rw [Ydc (l := s) (inG g.events) (.inl false) (.inr ()) (by omega) (fun i hi => by
   simp only [Zj4, Zj3]
   rw [dlt hi, Wu, Ycw hi, Wb, Ydt _ _ (by omega), Wb, Ydv, Ycx hi (by omega)]
   cases he : evAt g.events s[i].id with
   | none => rw [Ygp, he]; simp [inG, he]
   | some e =>
    rw [Ygp, he, (Ygs he).1, Wb, bned, bned]
    unfold inG
    rw [he]
    simp only
    cases decide (e.kind = s[i].kind) <;> cases decide (e.key = s[i].key) <;> rfl) (by simp only [Zj4]; rw [dnlt, Wv])]
  cases s.all (inG g.events) <;> rfl
structure Rs (g : Y9k) (ls : List (List Y9m)) : Prop where
 right : GOk g
 len : ls.length ≤ 60
 ok : ∀ s ∈ ls, stB g.events s = true
theorem Rs.mrg {g : Y9k} {ls : List (List Y9m)} (h : Rs g ls) : Mrg g ls := ⟨h.right.right.fits, h.right.right.ev, h.right.right.deep, fun s hs => Yke (h.ok s hs), by have := h.len; omega⟩

theorem Ykh {g : Y9k} (hg : Fine g) (id : Int) :
  (¬ (GOk g ∧ hasE g.events id = true) ∧ Zjd g id = some [] ∧ Ziq g id = some [] ∧ Zio g id = some (-1)) ∨
  (∃ e ∈ g.events, GOk g ∧ e.id = id ∧ Zjd g id = some (stP g e) ∧ Ziq g id = some (stA g id) ∧ ∃ c, Zio g id = some c ∧ (c = 0 ↔ okB g id = true)) := by
 obtain ⟨b, b1, _, b3⟩ := Yg4 hg
 unfold Zjd Ziq Zio Zim
 rw [b1]
 cases b with
 | false =>
  left
  exact ⟨fun h => absurd (b3.2 h.1) (by simp), rfl, rfl, rfl⟩
 | true =>
  have hk := b3.1 rfl
  have hr := hk.right
  have hel := hr.fits.len
  simp only [Wb, Wu]
  rw [Ydt _ _ (by omega)]
  simp only [Wb, Ydu]
  cases hh : hasE g.events id with
  | false =>
   left
   exact ⟨fun h => absurd h.2 (by simp), rfl, rfl, rfl⟩
  | true =>
   right
   obtain ⟨e, he, rfl⟩ := Ydz.1 hh
   obtain ⟨_, h2, _⟩ := Yjo hr
   obtain ⟨k1, k2, ⟨c, k3, k4, _⟩, _⟩ := Yk2 hr he
   refine ⟨e, he, hk, rfl, ?_, ?_, c, ?_, k4⟩
   ·
    simp only [Zil, Wu, Wb]
    rw [h2, Wb, k1]; rfl
   ·
    simp only [Zil, Wu, Wb]
    rw [h2, Wb, k2]; rfl
   ·
    simp only [Zil, Wu, Wb]
    rw [h2, Wb, k3]; rfl

theorem Yki {g : Y9k} (hr : Yiz g) {e : Y9j} (he : e ∈ g.events) : Low (stP g e) := fun y hy => by
 obtain ⟨s, hs, hy⟩ := Yjr (Yjw hr he) (Yjy hr he) y hy
 exact Yjy hr he s hs y hy
theorem Ykj {g : Y9k} (hr : Yiz g) {e : Y9j} (he : e ∈ g.events) : stB g.events (stA g e.id) = true := Ykf hr (Yju hr he) (Yjx hr e he)
theorem Ykk {g : Y9k} (hr : Yiz g) {e : Y9j} (he : e ∈ g.events) : stB g.events (stP g e) = true := Ykf hr (Yjt hr he).1 (Yki hr he)
end Go.Proofs.YtomachnjepgpbaaGreat
namespace Go.Proofs.YtomachnjepgpbaaGreat
open Go Go.Abs

def Ykl (h : Y9n) : List Y9j := ((Yfm h.graph.events).filter (refB h)).map (evD h.graph.events)

theorem ordD {l : List Y9j} (hf : Fits l) {i : Nat} (hi : i < (Yfm l).length) : evAt l (Yfm l)[i] = some (evD l (Yfm l)[i]) ∧ evD l (Yfm l)[i] ∈ l ∧ (evD l (Yfm l)[i]).id = (Yfm l)[i] :=
 Yi3 ((Yir hf).1 (Wm hi)) hf.up

theorem Ykm {α β γ : Type} (p : α → Bool) (f : α → β) (g : γ → β → γ) : ∀ (l : List α) (s : γ), l.foldl (fun s x => if p x = true then g s (f x) else s) s = ((l.filter p).map f).foldl g s
 | [], _ => rfl
 | x :: l, s => by
  rw [List.foldl_cons]
  cases h : p x with
  | true => rw [if_pos rfl, List.filter_cons_of_pos h, List.map_cons, List.foldl_cons, Ykm p f g l]
  | false => rw [if_neg (by simp), List.filter_cons_of_neg (by simp [h]), Ykm p f g l]

theorem Ykn {h : Y9n} (hr : Yiz h.graph) : Zct h = some (Ykl h) := by
 have hfl := hr.fits.len
 have hol := Yiq hr.fits
 unfold Zct
 rw [Yfq hr.fits, Wb]
 have := Ydd (l := Yfm h.graph.events) (step := fun z : List Y9j × Int => Zcs h (Yfm h.graph.events) z.1 z.2) (fun q j => (q, j)) (fun q => q) (fun q id => if refB h id = true then q ++ [evD h.graph.events id] else q) (fun i q => q.length ≤ i) (by omega) (fun i q hi hq => by
  refine ⟨?_, by split <;> first | omega | (rw [List.length_append, List.length_singleton]; omega)⟩
  simp only [Zcs]
  rw [dlt hi, Wu, Ycw hi, Wb, c_at _ _ hr.fits.up (by omega), Wb, (ordD hr.fits hi).1, beqd]
  simp only [Zcr, Ycx hi (by omega : (Yfm h.graph.events).length < 9223372036854775807), Option.getD_some]
  unfold refB
  by_cases hc : Option.getD (mget h.refused (Yfm h.graph.events)[i]) 0 = 0
  ·
   rw [Wt hc, Wu, if_pos rfl, Yhp (by simp; omega), Wb]
  ·
   rw [Wf hc, Wv, if_neg (by simp)])
  (fun q _ => by simp only [Zcs]; rw [dnlt, Wv]) (s := []) (by simp)
 rw [this.1, Wb, Ykm (refB h) (evD h.graph.events) (fun q e => q ++ [e]), Yj2 (fun e => e)]
 unfold Ykl Zcq
 simp

theorem Yko {h : Y9n} (hr : Yiz h.graph) : (Ykl h).length ≤ 60 := by
 unfold Ykl
 rw [List.length_map]
 have := List.length_filter_le (refB h) (Yfm h.graph.events)
 have := Yiq hr.fits
 have := hr.fits.len
 omega
theorem Ykp {h : Y9n} (hr : Yiz h.graph) {e : Y9j} (he : e ∈ Ykl h) : e ∈ h.graph.events ∧ refB h e.id = true := by
 unfold Ykl at he
 obtain ⟨id, h1, rfl⟩ := List.mem_map.1 he
 obtain ⟨h2, h3⟩ := List.mem_filter.1 h1
 obtain ⟨_, h4, h5⟩ := Yi3 ((Yir hr.fits).1 h2) hr.fits.up
 exact ⟨h4, by rw [h5]; exact h3⟩
end Go.Proofs.YtomachnjepgpbaaGreat
namespace Go.Proofs.YtomachnjepgpbaaGreat
open Go Go.Abs

def Ykq (u : Int) (e : Y9j) : Bool := !decide (e.author = u) && ((decide (e.kind = 2) || decide (e.kind = 3)) && decide (e.key = u))

theorem Ykr {g : Y9k} (hg : Fine g) (u : Int) : ∃ r, Zha g u = some r ∧ Zd0 g u = some r ∧ r.length ≤ 60 ∧ ∀ a ∈ r, GOk g ∧ ∃ e ∈ g.events, e.id = a ∧ Ykq u e = true ∧ okB g a = true := by
 obtain ⟨b, b1, b2, b3⟩ := Yg4 hg
 unfold Zha Zd0
 rw [b1, b2, Wb, Wb, Yd2, Yd6, Wb, Wb]
 have hno : ∀ x : Bool, x = true → Zh9 g u x = some [] := fun x hx => by subst hx; rfl
 have hno2 : ∀ x : Bool, x = true → Zcz g u x = some [] := fun x hx => by subst hx; rfl
 cases b with
 | false => exact ⟨[], hno _ rfl, hno2 _ rfl, by simp, fun a ha => by cases ha⟩
 | true =>
  simp only [Wu]
  by_cases hu : 1 ≤ u ∧ u ≤ 6
  ·
   rw [Wt hu]
   have hr := (b3.1 rfl).right
   obtain ⟨h1, h2, hb⟩ := Yjo hr
   generalize hG : hiG g = h at h1 hb
   generalize knG g = w at h2 hb
   have hgr := hb.graph
   have hr' : Yiz h.graph := hgr ▸ hr
   have hfl := hr.fits.len
   have hol := Yiq hr.fits
   have hil := Yko hr'
   simp only [Bool.not_true, Zh9, Zcz, Wv]
   rw [h1, h2, Wb, Wb, Yfy hr.fits hr.deep, Wb, Ykn hr', Wb]
   have i1 := Ydd (l := Ykl h) (step := fun z : List Int × Int => Zcy u (Ykl h) z.1 z.2) (fun q j => (q, j)) (fun q => q) (fun q e => if Ykq u e = true then q ++ [e.id] else q) (fun i q => q.length ≤ i) (by omega) (fun i q hi hq => by
    refine ⟨?_, by split <;> first | omega | (rw [List.length_append, List.length_singleton]; omega)⟩
    simp only [Zcy, Zcx, Zcw]
    rw [dlt hi, Wu, Ycw hi, Wb, Ycx hi (by omega), chk8 (by simp; omega), bned, beqd, beqd, beqd]
    unfold Ykq
    by_cases c1 : (Ykl h)[i].author = u <;> by_cases c2 : (Ykl h)[i].kind = 2 <;> by_cases c3 : (Ykl h)[i].kind = 3 <;> by_cases c4 : (Ykl h)[i].key = u <;> simp [c1, c2, c3, c4])
    (fun q _ => by simp only [Zcy]; rw [dnlt, Wv]) (s := []) (by simp)
   have s1 := Ydd (l := Yfm g.events) (step := fun z : List Int × Int => Zh8 g u w (Yfm g.events) z.1 z.2) (fun q j => (q, j)) (fun q => q) (fun q id => if refB h id = true then (if Ykq u (evD g.events id) = true then q ++ [(evD g.events id).id] else q) else q) (fun i q => q.length ≤ i) (by omega) (fun i q hi hq => by
    refine ⟨by
     simp only [Zh8, Zh7, Zh6]
     obtain ⟨o1, o2, o3⟩ := ordD hr.fits hi
     obtain ⟨c, k1, k2⟩ := hb.code o2
     rw [o3] at k1 k2
     rw [dlt hi, Wu, Ycw hi, Wb, Ydt _ _ (by omega), Wb, (Ygs o1).1, Wb, k1, Wb, Ycx hi (by omega), chk8 (by simp; omega), bned, beqd, beqd, beqd, beqd]
     unfold Ykq refB
     rw [k2]
     generalize evD g.events (Yfm g.events)[i] = e
     by_cases c0 : c = 0
     ·
      by_cases c1 : e.author = u <;> by_cases c2 : e.kind = 2 <;> by_cases c3 : e.kind = 3 <;> by_cases c4 : e.key = u <;> simp [c0, c1, c2, c3, c4]
     ·
      simp [c0], by split <;> first | omega | (split <;> first | omega | (rw [List.length_append, List.length_singleton]; omega))⟩)
    (fun q _ => by simp only [Zh8]; rw [dnlt, Wv]) (s := []) (by simp)
   rw [Ykm (refB h) (evD g.events) (fun q e => if Ykq u e = true then q ++ [e.id] else q)] at s1
   have e1 : ((Yfm g.events).filter (refB h)).map (evD g.events) = Ykl h := by unfold Ykl; rw [hgr]
   rw [e1] at s1
   rw [i1.1, s1.1, Wb]
   refine ⟨_, rfl, rfl, ?_, ?_⟩
   ·
    have := i1.2
    omega
   ·
    have key : ∀ (l : List Y9j) (q : List Int), (∀ e ∈ l, e ∈ Ykl h) → (∀ a ∈ q, GOk g ∧ ∃ e ∈ g.events, e.id = a ∧ Ykq u e = true ∧ okB g a = true) → ∀ a ∈ l.foldl (fun q e => if Ykq u e = true then q ++ [e.id] else q) q, GOk g ∧ ∃ e ∈ g.events, e.id = a ∧ Ykq u e = true ∧ okB g a = true := by
     intro l
     induction l with
     | nil => intro q _ h; exact h
     | cons e l ih =>
      intro q hl hq
      rw [List.foldl_cons]
      refine ih _ (fun f hf => hl f (by simp [hf])) fun a ha => ?_
      split at ha
      ·
       rename_i hA
       simp only [List.mem_append, List.mem_singleton] at ha
       rcases ha with ha | rfl
       ·
        exact hq a ha
       ·
        obtain ⟨m1, m2⟩ := Ykp hr' (hl e (by simp))
        rw [hgr] at m1
        exact ⟨b3.1 rfl, e, m1, rfl, hA, by unfold okB; rw [hG]; exact m2⟩
      ·
       exact hq a ha
    exact key _ _ (fun _ h => h) (fun a ha => by cases ha)
  ·
   rw [Wf hu]
   exact ⟨[], hno _ rfl, hno2 _ rfl, by simp, fun a ha => by cases ha⟩

theorem Yks {g : Y9k} (hg : Fine g) (u : Int) : ∃ r, Zie g u = some r ∧ Zi8 g u = some r ∧ r.length ≤ 60 := by
 obtain ⟨b, b1, b2, b3⟩ := Yg4 hg
 unfold Zie Zi8
 rw [b1, b2, Wb, Wb, Yd2, Yd6, Wb, Wb]
 have hno : ∀ x : Bool, x = true → Zid g u x = some [] := fun x hx => by subst hx; rfl
 have hno2 : ∀ x : Bool, x = true → Zi7 g u x = some [] := fun x hx => by subst hx; rfl
 cases b with
 | false => exact ⟨[], hno _ rfl, hno2 _ rfl, by simp⟩
 | true =>
  simp only [Wu]
  by_cases hu : 1 ≤ u ∧ u ≤ 6
  ·
   rw [Wt hu]
   have hr := (b3.1 rfl).right
   obtain ⟨h, w, h1, h2, hb⟩ := Yj4 hr
   have hgr := hb.graph
   have hr' : Yiz h.graph := hgr ▸ hr
   have hfl := hr.fits.len
   have hol := Yiq hr.fits
   have hil := Yko hr'
   simp only [Bool.not_true, Zid, Zi7, Wv]
   rw [h1, h2, Wb, Wb, Yfy hr.fits hr.deep, Wb, Ykn hr', Wb]
   have i1 := Ydd (l := Ykl h) (step := fun z : Int × List Int × Int => Zi6 u h (Ykl h) z.1 z.2.1 z.2.2) (fun (q : List Int × Int) j => (q.2, q.1, j)) (fun q => q.1) (fun q e => if lvl g.events (behI h.after e.id) u = q.2 then q else (q.1 ++ [lvl g.events (behI h.after e.id) u], lvl g.events (behI h.after e.id) u)) (fun i q => q.1.length ≤ i) (by omega) (fun i q hi hq => by
    refine ⟨by
     simp only [Zi6, Zi5]
     have hm := (Ykp hr' (Wm hi)).1
     rw [hgr] at hm
     have hbe := (hb.behind hr hm).2
     have hlv := Ygw (hr.sts hbe) (user := u) (by omega)
     rw [hgr, dlt hi, Wu, Ycw hi, Wb]
     show (Zak g (behI h.after (Ykl h)[i].id) u).bind _ = _
     rw [hlv, Wb, Ycx hi (by omega), chk8 (by simp; omega), bned]
     by_cases c1 : lvl g.events (behI h.after (Ykl h)[i].id) u = q.2 <;> simp [c1], by split <;> first | omega | (simp only [List.length_append, List.length_singleton]; omega)⟩)
    (fun q _ => by simp only [Zi6]; rw [dnlt, Wv]) (s := ([], 0)) (by simp)
   have s1 := Ydd (l := Yfm g.events) (step := fun z : List Int × Int × Int => Zic g u w (Yfm g.events) z.1 z.2.1 z.2.2) (fun (q : List Int × Int) j => (q.1, q.2, j)) (fun q => q.1) (fun q id => if refB h id = true then (if lvl g.events (behI h.after (evD g.events id).id) u = q.2 then q else (q.1 ++ [lvl g.events (behI h.after (evD g.events id).id) u], lvl g.events (behI h.after (evD g.events id).id) u)) else q) (fun i q => q.1.length ≤ i) (by omega) (fun i q hi hq => by
    refine ⟨by
     simp only [Zic, Zib]
     obtain ⟨o1, o2, o3⟩ := ordD hr.fits hi
     obtain ⟨c, k1, k2⟩ := hb.code o2
     obtain ⟨g1, g2⟩ := hb.behind hr o2
     have hlv := Ygx (hr.sts g2) u
     rw [o3] at k1 k2 g1 hlv
     rw [dlt hi, Wu, Ycw hi, Wb, Ydt _ _ (by omega), Wb, k1, Wb, g1, Wb, hlv, Wb, Ycx hi (by omega), chk8 (by simp; omega), bned, bned, o3]
     unfold refB
     rw [k2]
     by_cases c0 : c = 0
     ·
      by_cases c1 : lvl g.events (behI h.after (Yfm g.events)[i]) u = q.2 <;> simp [c0, c1]
     ·
      simp [c0], by split <;> first | omega | (split <;> first | omega | (simp only [List.length_append, List.length_singleton]; omega))⟩)
    (fun q _ => by simp only [Zic]; rw [dnlt, Wv]) (s := ([], 0)) (by simp)
   rw [Ykm (refB h) (evD g.events) (fun (q : List Int × Int) e => if lvl g.events (behI h.after e.id) u = q.2 then q else (q.1 ++ [lvl g.events (behI h.after e.id) u], lvl g.events (behI h.after e.id) u))] at s1
   have e1 : ((Yfm g.events).filter (refB h)).map (evD g.events) = Ykl h := by unfold Ykl; rw [hgr]
   rw [e1] at s1
   have i1' := i1.1
   have s1' := s1.1
   simp only at i1' s1'
   rw [i1', s1', Wb]
   refine ⟨_, rfl, rfl, ?_⟩
   have := i1.2
   omega
  ·
   rw [Wf hu]
   exact ⟨[], hno _ rfl, hno2 _ rfl, by simp⟩

theorem Ykt {g : Y9k} (hg : Fine g) (id : Int) : ∃ r, Zh3 g id = some r ∧ Zed g id = some r ∧ r.event.prev = [] ∧ (r.code = 0 → GOk g ∧ ∃ e ∈ g.events, e.id = id ∧ r.event.kind = e.kind ∧ r.event.key = e.key ∧ (e.kind = 2 ∨ (e.kind = 3 ∧ r.event.n = lvl g.events (stP g e) e.key))) := by
 obtain ⟨b, b1, b2, b3⟩ := Yg4 hg
 unfold Zh3 Zed
 rw [b1, b2, Wb, Wb]
 cases b with
 | false => exact ⟨_, rfl, rfl, rfl, fun h => by cases h⟩
 | true =>
  have hk := b3.1 rfl
  have hr := hk.right
  obtain ⟨h1, h2, hb⟩ := Yjo hr
  have hPP : ∀ e ∈ g.events, behI (hiG g).before e.id = stP g e := fun e he => (Yk2 hr he).2.2.2
  generalize hG : hiG g = h at h1 hb hPP
  generalize knG g = w at h2 hb
  have hgr := hb.graph
  have hfl := hr.fits.len
  simp only [Wu]
  rw [h1, h2, Wb, Ydt _ _ (by omega), Wb, hgr, c_at _ _ hr.fits.up (by omega), Wb, Ydv]
  cases he : evAt g.events id with
  | none =>
   rw [Ygp, he]
   exact ⟨_, rfl, rfl, rfl, fun h => by cases h⟩
  | some e =>
   have hh : hasE g.events id = true := by rw [Ygp, he]; rfl
   obtain ⟨hem, hid⟩ := Ye0 he
   obtain ⟨c, k1, k2⟩ := hb.code hem
   obtain ⟨a1, a2⟩ := hb.ahead hem
   have hsts := hr.sts a2
   rw [hid] at k1 k2 a1 a2 hsts
   rw [hh]
   simp only [Bool.not_true, Wv, Wu, Option.getD_some]
   rw [Wb, k1, Wb, k2, bned, (Ygs he).1, Wb]
   simp only [Zh2, Zh1, Zec, Zeb, Zea]
   rw [a1, Wb, hgr]
   have hPe := hPP e hem
   rw [hid] at hPe
   show ∃ r, cond (!decide (c = 0)) _ _ = _ ∧ _
   by_cases c0 : c = 0
   ·
    rw [Wt c0]
    simp only [Bool.not_true, Wv, beqd, bned]
    by_cases k3 : e.kind = 3
    ·
     have hkey := (hr.ev e hem).ask.2 (.inr k3)
     have l1 := Ygx hsts e.key
     have l2 := Ygw hsts hkey
     rw [Wt k3]
     simp only [Wu]
     rw [l1]
     have : Zak g (Option.getD (mget h.before id) []) e.key = some (lvl g.events (behI h.before id) e.key) := l2
     rw [this]
     exact ⟨_, rfl, rfl, rfl, fun _ => ⟨hk, e, hem, hid, rfl, rfl, .inr ⟨k3, by rw [hPe]⟩⟩⟩
    ·
     rw [Wf k3]
     simp only [Wv]
     by_cases k4 : e.kind = 2
     ·
      by_cases k5 : e.key = e.author
      ·
       exact ⟨⟨⟨0, 0, 0, 0, 0, 0, ByteArray.empty, [], 0⟩, 10⟩, by simp [k4, k5], by simp [k4, k5], rfl, fun h => by cases h⟩
      ·
       by_cases k6 : e.n = 2
       ·
        exact ⟨⟨⟨0, e.room, e.author, e.kind, e.key, 4, ByteArray.empty, [], 0⟩, 0⟩, by simp [k4, k5, k6], by simp [k4, k5, k6], rfl, fun _ => ⟨hk, e, hem, hid, rfl, rfl, .inl k4⟩⟩
       ·
        exact ⟨⟨⟨0, e.room, e.author, e.kind, e.key, 2, ByteArray.empty, [], 0⟩, 0⟩, by simp [k4, k5, k6], by simp [k4, k5, k6], rfl, fun _ => ⟨hk, e, hem, hid, rfl, rfl, .inl k4⟩⟩
     ·
      exact ⟨⟨⟨0, 0, 0, 0, 0, 0, ByteArray.empty, [], 0⟩, 10⟩, by simp [k4], by simp [k4], rfl, fun h => by cases h⟩
   ·
    rw [Wf c0]
    exact ⟨_, rfl, rfl, rfl, fun h => by cases h⟩

theorem Yku {g : Y9k} (hk : GOk g) (hg : Fine g) : Zhz g = some (nowG g) ∧ StOk g.events (nowG g) := by
 obtain ⟨b, b1, _, b3⟩ := Yg4 hg
 have hr := hk.right
 obtain ⟨h1, h2, hb⟩ := Yjo hr
 unfold Zhz
 rw [b1, b3.2 hk, Wb, Wu, h2, Wb, Yjm hb hr, Wb, Yjl hb hr]
 exact ⟨rfl, (Yk8 hb hr).2⟩

theorem Ykv {g : Y9k} (hg : Fine g) (u : Int) : ∃ r, Zi2 g u = some r ∧ Ze2 g u = some r ∧ (r ≠ 0 → GOk g ∧ ∃ e ∈ g.events, e.id = r ∧ e.kind = 2 ∧ e.key = u) := by
 obtain ⟨b, b1, b2, b3⟩ := Yg4 hg
 unfold Zi2 Ze2
 rw [b1, b2, Wb, Wb, Yd2, Yd6, Wb, Wb]
 have hno : ∀ x : Bool, x = true → Zi1 g u x = some 0 := fun x hx => by subst hx; rfl
 have hno2 : ∀ x : Bool, x = true → Ze1 g u x = some 0 := fun x hx => by subst hx; rfl
 cases b with
 | false => exact ⟨0, hno _ rfl, hno2 _ rfl, fun h => absurd rfl h⟩
 | true =>
  simp only [Wu]
  by_cases hu : 1 ≤ u ∧ u ≤ 6
  ·
   rw [Wt hu]
   have hk := b3.1 rfl
   have hr := hk.right
   obtain ⟨h1, h2, hb⟩ := Yjo hr
   obtain ⟨n1, n2⟩ := Yk8 hb hr
   have hsl := (hr.sts n2).sl
   obtain ⟨c1, _⟩ := Yku hk hg
   simp only [Bool.not_true, Zi1, Ze1, Wv]
   rw [c1, h1, Wb, Wb, n1, Wb]
   show ∃ r, ((Zep (nowT g (hiG g) (refB (hiG g))) 2 u).bind fun r15 => some r15) = some r ∧ _
   rw [Yg5 _ _ _ (by omega), Ygl _ _ n2.up (by omega)]
   refine ⟨_, rfl, rfl, fun h0 => ⟨hk, ?_⟩⟩
   rcases Ygo (nowT g (hiG g) (refB (hiG g))) 2 u with ⟨h, _⟩ | ⟨x, hx, x1, x2, x3⟩
   ·
    exact absurd h h0
   ·
    obtain ⟨e, he, e1, e2⟩ := n2.ev x hx
    obtain ⟨e3, e4⟩ := Ye0 he
    exact ⟨e, e3, by rw [e4, x3], by rw [e1, x1], by rw [e2, x2]⟩
  ·
   rw [Wf hu]
   exact ⟨0, hno _ rfl, hno2 _ rfl, fun h => absurd rfl h⟩
end Go.Proofs.YtomachnjepgpbaaGreat
namespace Go.Proofs.YtomachnjepgpbaaGreat
open Go Go.Abs

theorem Ykw (s : List Int) (hl : s.length < 1000000) : Zhe s s = some true := by
 unfold Zhe
 rw [bned, Wt rfl, Bool.not_true, Wv, Ydc (l := s) (fun _ => true) (.inl false) (.inr ()) (by omega) (fun i hi => by
  simp only [Zhd]
  rw [dlt hi, Wu, Ycw hi, Wb, Wb, Ycx hi (by omega)]
  simp) (by simp only [Zhd]; rw [dnlt, Wv])]
 rw [List.all_eq_true.2 fun _ _ => rfl]; rfl
theorem Ykx {g : Y9k} (hk : GOk g) (hg : Fine g) {e : Y9j} (he : e ∈ g.events) : Zij g e.id = some e := by
 have hr := hk.right
 obtain ⟨b, b1, _, b3⟩ := Yg4 hg
 unfold Zij
 rw [b1, b3.2 hk, Wb, Wu, Yie (by have := hr.fits.len; omega) (hr.fits.up.evAt_mem he) (by have := (hr.ev e he).prev.1; omega)]; rfl
theorem Yky (e : Y9j) (h : e.prev.length < 1000000) : Zih e e = some true := by
 unfold Zih
 simp only [beq_self_eq_true, Wu]
 rw [Ykw _ h, Wb]; rfl
end Go.Proofs.YtomachnjepgpbaaGreat
namespace Go.Proofs.YtomachnjepgpbaaGreat
open Go Go.Abs

end Go.Proofs.YtomachnjepgpbaaGreat
namespace Go.Proofs.YtomachnjepgpbaaGreat
open Go Go.Abs

theorem Ykz (x : Int) : 0 ≤ IntKind.u64.wrap x ∧ IntKind.u64.wrap x < 18446744073709551616 := by
 have e : IntKind.u64.wrap x = x % 18446744073709551616 := by simp [IntKind.wrap, IntKind.signed, IntKind.bits]
 rw [e]
 omega
theorem Yl0 {x : Int} (h0 : 0 ≤ x) (h1 : x < 18446744073709551616) : IntKind.u64.wrap x = x := by
 have e : IntKind.u64.wrap x = x % 18446744073709551616 := by simp [IntKind.wrap, IntKind.signed, IntKind.bits]
 rw [e]
 omega

structure Yl1 (s : Y9i) : Prop where
 at0 : 0 ≤ s.at_
 atb : s.at_ ≤ s.b.length
 len : s.b.length ≤ 1048576
 size : 0 ≤ s.size ∧ s.size ≤ 12

structure Yl2 (k : Int) (s : Y9i) (r : Int × Y9i) : Prop where
 ok : Yl1 r.2
 size : r.2.size = s.size
 nn : 0 ≤ r.1
 lt : 1 ≤ k → r.1 < k
 one : k ≤ 1 → r.1 = 0

theorem n_ok {s : Y9i} (h : Yl1 s) {k : Int} (hk : k ≤ 4611686018427387904) : ∃ r, Z9 s k = some r ∧ Yl2 k s r := by
 unfold Z9
 by_cases h1 : k ≤ 1
 ·
  rw [Wt h1, Wu]
  exact ⟨_, rfl, h, rfl, by simp, fun h => by simp; omega, fun _ => rfl⟩
 ·
  rw [Wf h1, Wv]
  have key : ∀ a v : Int, 0 ≤ a → a ≤ s.b.length → ∃ r, Z8 s k a v = some r ∧ Yl2 k s r := fun a v a0 a1 => by
   simp only [Z8]
   rw [Yl0 (x := k) (by omega) (by omega)]
   rw [Y4z (by simp; omega), Wb]
   have hr := fun y : Int => Ykz y
   refine ⟨_, rfl, ⟨a0, a1, h.len, h.size⟩, rfl, ?_, fun _ => ?_, fun h2 => absurd h2 h1⟩
   all_goals
    simp only
    generalize hy : IntKind.u64.wrap _ = y
    have hy0 : 0 ≤ y := by rw [← hy]; exact (hr _).1
    have t1 : y.tmod k = y % k := Int.tmod_eq_emod_of_nonneg hy0
    have t2 := Int.emod_nonneg y (by omega : k ≠ 0)
    have t3 := Int.emod_lt_of_pos y (by omega : 0 < k)
    rw [t1, Y4y (by omega) (by omega)]
    assumption
  by_cases h2 : s.at_ < s.b.length
  ·
   rw [Wt h2, Wu]
   have h3 := h.at0
   have h4 := h.len
   obtain ⟨n, hn⟩ := Int.eq_ofNat_of_zero_le h3
   rw [hn] at h2 ⊢
   rw [Ycw (by omega : n < s.b.length), Wb]
   rw [Y4y (by omega) (by omega)]
   exact key _ _ (by omega) (by omega)
  ·
   rw [Wf h2, Wv]
   exact key _ _ h.at0 h.atb

theorem Yl3 {s : Y9i} (h : Yl1 s) {k : Int} (hk : k ≤ 4611686018427387904) : ∃ r, Zc s k = some r ∧ Yl1 r.2 ∧ r.2.size = s.size := by
 obtain ⟨r, h1, h2⟩ := n_ok h hk
 unfold Zc
 rw [h1, Wb]
 exact ⟨_, rfl, h2.ok, h2.size⟩

theorem Yl4 {s : Y9i} (h : Yl1 s) {l : List ByteArray} (h1 : 1 ≤ l.length) (hl : l.length ≤ 1000) : ∃ r, Zj s l = some r ∧ Yl1 r.2 ∧ r.2.size = s.size := by
 obtain ⟨r, e1, e2⟩ := n_ok h (k := (l.length : Int)) (by omega)
 unfold Zj
 rw [e1, Wb]
 obtain ⟨n, hn⟩ := Int.eq_ofNat_of_zero_le e2.nn
 have hlt := e2.lt (by omega)
 rw [hn] at hlt ⊢
 rw [Ycw (by omega : n < l.length), Wb]
 exact ⟨_, rfl, e2.ok, e2.size⟩

theorem Yl5 {s : Y9i} (h : Yl1 s) : ∃ r, Z41 s = some r ∧ Yl1 r.2 ∧ r.2.size = s.size := by
 obtain ⟨r, e1, e2⟩ := n_ok h (k := 14) (by omega)
 unfold Z41
 rw [e1, Wb]
 obtain ⟨n, hn⟩ := Int.eq_ofNat_of_zero_le e2.nn
 have hlt := e2.lt (by omega)
 rw [hn] at hlt ⊢
 rw [Ycw (by simp; omega), Wb]
 exact ⟨_, rfl, e2.ok, e2.size⟩

theorem Yl6 {p : List Int} (hl : p.length ≤ 1048576) : ∃ s, Z5 p = some s ∧ Yl1 s := by
 unfold Z5
 obtain ⟨o, e1, _⟩ := Y51 (step := fun z18 : Int × Int => Z4 p z18.1 z18.2) (p := fun _ : Int => True)
  (fun n (z : Int × Int) => ∃ j : Nat, z.2 = (j : Int) ∧ j ≤ 64 ∧ n = 64 - j) (by
  rintro n ⟨m, y⟩ ⟨j, hy, hj, rfl⟩
  simp only at hy
  subst hy
  simp only [Z4]
  by_cases h1 : (j : Int) < p.length
  ·
   rw [Wt h1, Wu]
   simp only [Z3]
   by_cases h2 : (j : Int) < 64
   ·
    right
    rw [Wt h2, Wu, Ycw (by omega : j < p.length), Wb, Y4y (by omega) (by omega)]
    exact ⟨_, 64 - (j + 1), rfl, by omega, j + 1, rfl, by omega, rfl⟩
   ·
    left
    rw [Wf h2, Wv]
    exact ⟨_, rfl, trivial⟩
  ·
   left
   rw [Wf h1, Wv]
   exact ⟨_, rfl, trivial⟩) big 64 (88172645463325252, 0) ⟨0, rfl, by omega, rfl⟩ (Ycr (by omega))
 rw [e1, Wb]
 simp only [Z2, Z1]
 have hd : IntKind.i64.wrap (Int.tdiv (p.length : Int) 20) = (p.length : Int) / 20 := by
  rw [Int.tdiv_eq_ediv_of_nonneg (by omega), Y4y (by omega) (by omega)]
 rw [hd]
 by_cases h3 : (p.length : Int) / 20 > 12
 ·
  rw [Wt h3, Wu]
  exact ⟨_, rfl, by simp, by simp, hl, by simp⟩
 ·
  rw [Wf h3, Wv]
  exact ⟨_, rfl, by simp, by simp, hl, by simp only; omega⟩

theorem Yl7 {s : Y9i} (h : Yl1 s) {m : Nat} (hm : m ≤ 1000) : ∃ r, Zg s (m : Int) = some r ∧ Yl1 r.2 ∧ r.2.size = s.size := by
 unfold Zg
 obtain ⟨o, e1, e2⟩ := Y51 (step := fun z29 : List Int × Int × Int × Int × List Int × Int => Zf (m : Int) z29.1 z29.2.1 z29.2.2.1 z29.2.2.2.1 z29.2.2.2.2.1 z29.2.2.2.2.2) (p := fun o : List Int × List Int × Int × Int × Int => Yl1 ⟨o.2.1, o.2.2.1, o.2.2.2.1, o.2.2.2.2⟩ ∧ o.2.2.2.2 = s.size)
  (fun n (z : List Int × Int × Int × Int × List Int × Int) => ∃ j : Nat, z.2.2.2.2.2 = (j : Int) ∧ z.2.2.2.2.1.length = j ∧ j ≤ m ∧ Yl1 ⟨z.1, z.2.1, z.2.2.1, z.2.2.2.1⟩ ∧ z.2.2.2.1 = s.size ∧ n = m - j) (by
  rintro n ⟨b, a, x, sz, l, y⟩ ⟨j, hy, hlen, hj, hs, hsz, rfl⟩
  simp only at hy hlen hs hsz
  subst hy
  simp only [Zf]
  by_cases h1 : (j : Int) < m
  ·
   right
   obtain ⟨r, r1, r2⟩ := n_ok hs (k := 256) (by omega)
   rw [Wt h1, Wu, r1, Wb, Y4z (by simp; omega), Wb, Y4y (by omega) (by omega)]
   exact ⟨_, m - (j + 1), rfl, by omega, j + 1, rfl, by simp [hlen], by omega, r2.ok, r2.size.trans hsz, rfl⟩
  ·
   left
   rw [Wf h1, Wv]
   exact ⟨_, rfl, hs, hsz⟩) big m (s.b, s.at_, s.mix, s.size, [], 0) ⟨0, rfl, rfl, by omega, h, rfl, rfl⟩ (Ycr (by omega))
 rw [e1, Wb]
 exact ⟨_, rfl, e2.1, e2.2⟩
end Go.Proofs.YtomachnjepgpbaaGreat
namespace Go.Proofs.YtomachnjepgpbaaGreat
open Go Go.Abs

def DrP {α : Type} (s : Y9i) (P : α → Prop) (x : Option (α × Y9i)) : Prop := ∃ r, x = some r ∧ Yl1 r.2 ∧ r.2.size = s.size ∧ P r.1

theorem DrP.bind {α β : Type} {s s0 : Y9i} {P : β → Prop} {Q : α → Prop} {x : Option (α × Y9i)} {f : α × Y9i → Option (β × Y9i)} (h : DrP s0 Q x) (hs : s0.size = s.size) (k : ∀ r, Yl1 r.2 → r.2.size = s.size → Q r.1 → DrP s P (f r)) : DrP s P (x.bind f) := by
 obtain ⟨r, rfl, h1, h2, h3⟩ := h
 exact k r h1 (h2.trans hs) h3
theorem DrP.cond {β : Type} {s : Y9i} {P : β → Prop} {b : Bool} {x y : Option (β × Y9i)} (h1 : b = true → DrP s P x) (h2 : b = false → DrP s P y) : DrP s P (cond b x y) := by
 cases b with
 | true => exact h1 rfl
 | false => exact h2 rfl
theorem DrP.get {α β : Type} {s : Y9i} {P : β → Prop} {l : List α} {i : Int} {f : α → Option (β × Y9i)} (h0 : 0 ≤ i) (h1 : i < l.length) (k : ∀ e ∈ l, DrP s P (f e)) : DrP s P ((getI l i).bind f) := by
 obtain ⟨n, rfl⟩ := Int.eq_ofNat_of_zero_le h0
 rw [Ycw (by omega : n < l.length), Wb]
 exact k _ (Wm _)
theorem DrP.ret {β : Type} {s s' : Y9i} {P : β → Prop} {v : β} (h : Yl1 s') (hs : s'.size = s.size) (hp : P v) : DrP s P (some (v, s')) := ⟨_, rfl, h, hs, hp⟩

theorem nD {s : Y9i} (h : Yl1 s) {k : Int} (h1 : 1 ≤ k) (hk : k ≤ 4611686018427387904) : DrP s (fun v => 0 ≤ v ∧ v < k) (Z9 s k) := by
 obtain ⟨r, e, d⟩ := n_ok h hk
 exact ⟨r, e, d.ok, d.size, d.nn, d.lt h1⟩
theorem oneD {s : Y9i} (h : Yl1 s) {k : Int} (hk : k ≤ 4611686018427387904) : DrP s (fun _ => True) (Zc s k) := by
 obtain ⟨r, e, d1, d2⟩ := Yl3 h hk
 exact ⟨r, e, d1, d2, trivial⟩
theorem Yl8 {s : Y9i} (h : Yl1 s) {l : List ByteArray} (h1 : 1 ≤ l.length) (hl : l.length ≤ 1000) : DrP s (fun _ => True) (Zj s l) := by
 obtain ⟨r, e, d1, d2⟩ := Yl4 h h1 hl
 exact ⟨r, e, d1, d2, trivial⟩
theorem Yl9 {s : Y9i} (h : Yl1 s) : DrP s (fun _ => True) (Z41 s) := by
 obtain ⟨r, e, d1, d2⟩ := Yl5 h
 exact ⟨r, e, d1, d2, trivial⟩
theorem Yla {s : Y9i} (h : Yl1 s) {m : Int} (h0 : 0 ≤ m) (hm : m ≤ 1000) : DrP s (fun _ => True) (Zg s m) := by
 obtain ⟨n, rfl⟩ := Int.eq_ofNat_of_zero_le h0
 obtain ⟨r, e, d1, d2⟩ := Yl7 h (m := n) (by omega)
 exact ⟨r, e, d1, d2, trivial⟩

theorem Ylb {s : Y9i} (h : Yl1 s) (e : Y9j) : DrP s (fun v : Y9j => v.id = e.id ∧ v.room = e.room ∧ v.author = e.author ∧ v.prev = e.prev ∧ v.time = e.time) (Zm s e) := by
 unfold Zm
 have fin : ∀ (k a b : Int) (t : ByteArray) (s' : Y9i), Yl1 s' → s'.size = s.size → DrP s (fun v : Y9j => v.id = e.id ∧ v.room = e.room ∧ v.author = e.author ∧ v.prev = e.prev ∧ v.time = e.time) (Zl e k a b t s'.b s'.at_ s'.mix s'.size) := fun k a b t s' h1 h2 => ⟨_, rfl, h1, h2, rfl, rfl, rfl, rfl, rfl⟩
 refine DrP.bind (nD h (by omega) (by omega)) rfl fun r4 a1 a2 a3 => ?_
 refine DrP.get a3.1 (by simpa using a3.2) fun k _ => ?_
 refine DrP.cond (fun _ => ?_) (fun _ => DrP.cond (fun _ => ?_) (fun _ => DrP.cond (fun _ => ?_) (fun _ => DrP.cond (fun _ => ?_) (fun _ => DrP.cond (fun _ => ?_) (fun _ => DrP.cond (fun _ => ?_) (fun _ => DrP.cond (fun _ => ?_) (fun _ => ?_)))))))
 ·
  refine DrP.bind (nD a1 (by omega) (by omega)) a2 fun r9 b1 b2 b3 => ?_
  refine DrP.bind (nD b1 (by omega) (by omega)) b2 fun r11 c1 c2 c3 => ?_
  refine DrP.bind (oneD c1 (by omega)) c2 fun r13 d1 d2 _ => ?_
  refine DrP.cond (fun _ => ?_) (fun _ => fin _ _ _ _ _ d1 d2)
  exact DrP.bind (nD d1 (by omega) (by omega)) d2 fun r16 f1 f2 _ => fin _ _ _ _ _ f1 f2
 ·
  refine DrP.bind (nD a1 (by omega) (by omega)) a2 fun r19 b1 b2 b3 => ?_
  refine DrP.bind (nD b1 (by omega) (by omega)) b2 fun r22 c1 c2 c3 => ?_
  exact DrP.get c3.1 (by simpa using c3.2) fun k _ => fin _ _ _ _ _ c1 c2
 ·
  refine DrP.bind (nD a1 (by omega) (by omega)) a2 fun r27 b1 b2 b3 => ?_
  exact DrP.bind (Yla b1 b3.1 (by omega)) b2 fun r29 c1 c2 _ => fin _ _ _ _ _ c1 c2
 ·
  exact DrP.bind (nD a1 (by omega) (by omega)) a2 fun r32 b1 b2 _ => fin _ _ _ _ _ b1 b2
 ·
  exact DrP.bind (nD a1 (by omega) (by omega)) a2 fun r35 b1 b2 _ => fin _ _ _ _ _ b1 b2
 ·
  exact DrP.bind (Yl8 a1 (by simp) (by simp)) a2 fun r38 b1 b2 _ => fin _ _ _ _ _ b1 b2
 ·
  exact DrP.bind (nD a1 (by omega) (by omega)) a2 fun r41 b1 b2 _ => fin _ _ _ _ _ b1 b2
 ·
  exact fin _ _ _ _ _ a1 a2
end Go.Proofs.YtomachnjepgpbaaGreat
namespace Go.Proofs.YtomachnjepgpbaaGreat
open Go Go.Abs

def StP {τ ω : Type} (P : τ → Prop) (x : Option (τ ⊕ ω)) : Prop := ∃ z, x = some (.inl z) ∧ P z
theorem StP.bind {α τ ω : Type} {s s0 : Y9i} {P : τ → Prop} {Q : α → Prop} {x : Option (α × Y9i)} {f : α × Y9i → Option (τ ⊕ ω)} (h : DrP s0 Q x) (hs : s0.size = s.size) (k : ∀ r, Yl1 r.2 → r.2.size = s.size → Q r.1 → StP P (f r)) : StP P (x.bind f) := by
 obtain ⟨r, rfl, h1, h2, h3⟩ := h
 exact k r h1 (h2.trans hs) h3
theorem StP.cond {τ ω : Type} {P : τ → Prop} {b : Bool} {x y : Option (τ ⊕ ω)} (h1 : b = true → StP P x) (h2 : b = false → StP P y) : StP P (cond b x y) := by
 cases b with
 | true => exact h1 rfl
 | false => exact h2 rfl
theorem StP.get {α τ ω : Type} {P : τ → Prop} {l : List α} {i : Int} {f : α → Option (τ ⊕ ω)} (h0 : 0 ≤ i) (h1 : i < l.length) (k : ∀ e ∈ l, StP P (f e)) : StP P ((getI l i).bind f) := by
 obtain ⟨n, rfl⟩ := Int.eq_ofNat_of_zero_le h0
 rw [Ycw (by omega : n < l.length), Wb]
 exact k _ (Wm _)

structure Tale (l : List Y9j) (m : Nat) : Prop where
 len : l.length = m
 ev : ∀ e ∈ l, 1 ≤ e.id ∧ e.id ≤ 100000 ∧ e.prev.length ≤ 4

abbrev Ylc := List Int × Int × Int × Int × List Y9j × Int
def Yld (s : Y9i) (m : Nat) (j : Nat) (z : Ylc) : Prop := Yl1 ⟨z.1, z.2.1, z.2.2.1, z.2.2.2.1⟩ ∧ z.2.2.2.1 = s.size ∧ z.2.2.2.2.1.length = m ∧ (∀ e ∈ z.2.2.2.2.1, 1 ≤ e.id ∧ e.id ≤ (m : Int) ∧ e.prev.length ≤ 2) ∧ z.2.2.2.2.2 = (j : Int)

theorem Yle {s s' : Y9i} {l : List Y9j} {m j : Nat} (hm : l.length = m) (hmm : m ≤ 1000) (hj : j ≤ 1000) (hl : ∀ e ∈ l, 1 ≤ e.id ∧ e.id ≤ (m : Int) ∧ e.prev.length ≤ 2) {i ti r a k n key : Int} {t : ByteArray} {p : List Int} (hi : 1 ≤ i ∧ i ≤ (m : Int) + 1) (hp : p.length ≤ 2) (h1 : Yl1 s') (h2 : s'.size = s.size) :
  StP (Yld s (m + 1) (j + 1)) (Z10 l (j : Int) i ti r a k n t key s'.b s'.at_ s'.mix s'.size p) := by
 simp only [Z10]
 rw [Y4z (by simp; omega), Wb, Y4y (by omega) (by omega)]
 refine ⟨_, rfl, h1, h2, by simp [hm], fun e he => ?_, by simp⟩
 simp only [List.mem_append, List.mem_singleton] at he
 rcases he with he | rfl
 ·
  have := hl e he
  exact ⟨this.1, by omega, this.2.2⟩
 ·
  exact ⟨hi.1, by simp only; omega, hp⟩

section
variable {s s' : Y9i} {l : List Y9j} {m j : Nat} (hm : l.length = m) (h0m : 1 ≤ m) (hmm : m ≤ 1000) (hj : j ≤ 1000) (hl : ∀ e ∈ l, 1 ≤ e.id ∧ e.id ≤ (m : Int) ∧ e.prev.length ≤ 2)
include hm h0m hmm hj hl
theorem Ylf {i ti r a k n key : Int} {t : ByteArray} {x : Int} {e : Y9j} {b : Bool} (hi : 1 ≤ i ∧ i ≤ (m : Int) + 1) (h1 : Yl1 s') (h2 : s'.size = s.size) :
  StP (Yld s (m + 1) (j + 1)) (Z11 l (j : Int) i ti r a k n t key [x] e s'.b s'.at_ s'.mix s'.size b) := by
 have _ := h0m
 simp only [Z11]
 refine StP.cond (fun _ => ?_) (fun _ => Yle hm hmm hj hl hi (by simp) h1 h2)
 rw [Yh5 (by simp) _ (by simp), Wb]
 exact Yle hm hmm hj hl hi (Nat.le_trans Yh8 (by simp)) h1 h2
theorem Ylg {i ti r a k n key : Int} {t : ByteArray} {x : Int} (hi : 1 ≤ i ∧ i ≤ (m : Int) + 1) (h1 : Yl1 s') (h2 : s'.size = s.size) :
  StP (Yld s (m + 1) (j + 1)) (Z12 l (j : Int) i ti r a k n t key s'.b s'.at_ s'.mix s'.size [x]) := by
 simp only [Z12]
 refine StP.bind (nD h1 (by omega) (by omega)) h2 fun q a1 a2 a3 => ?_
 refine StP.get a3.1 a3.2 fun e _ => ?_
 refine StP.bind (oneD a1 (by omega)) a2 fun w b1 b2 _ => ?_
 refine StP.cond (fun _ => ?_) (fun _ => Ylf hm h0m hmm hj hl hi b1 b2)
 exact StP.get (by omega) (by simp) fun y _ => Ylf hm h0m hmm hj hl hi b1 b2
theorem Ylh {i ti r a k n key : Int} {t : ByteArray} {e : Y9j} (he : e ∈ l) (hi : 1 ≤ i ∧ i ≤ (m : Int) + 1) (h1 : Yl1 s') (h2 : s'.size = s.size) :
  StP (Yld s (m + 1) (j + 1)) (Z13 l (j : Int) e i ti r a k n t s'.b s'.at_ s'.mix s'.size key) := by
 have hle := hl e he
 simp only [Z13]
 refine StP.bind (oneD h1 (by omega)) h2 fun w b1 b2 _ => ?_
 refine StP.cond (fun _ => ?_) (fun _ => Ylg hm h0m hmm hj hl hi b1 b2)
 refine StP.bind (nD b1 hle.1 (by omega)) b2 fun q a1 a2 a3 => ?_
 refine StP.get (by omega) (by simp) fun y _ => ?_
 rw [Ydt _ _ (by omega), Wb]
 exact StP.cond (fun _ => Ylg hm h0m hmm hj hl hi a1 a2) (fun _ => Ylg hm h0m hmm hj hl hi a1 a2)
theorem Yli {i ti r a k n key : Int} {t : ByteArray} {e : Y9j} {pl : List Int} (he : e ∈ l) (hi : 1 ≤ i ∧ i ≤ (m : Int) + 1) (h1 : Yl1 s') (h2 : s'.size = s.size) :
  StP (Yld s (m + 1) (j + 1)) (Z14 l (j : Int) e i ti s'.b s'.at_ s'.mix s'.size r a k key n t pl) := by
 have hle := hl e he
 simp only [Z14]
 refine StP.cond (fun _ => ?_) (fun _ => Ylh hm h0m hmm hj hl he hi h1 h2)
 exact StP.bind (nD h1 hle.1 (by omega)) h2 fun q a1 a2 a3 => Ylh hm h0m hmm hj hl he hi a1 a2
theorem Ylj {p1 i ti r a k n key : Int} {t : ByteArray} {e : Y9j} {pl : List Int} {b : Bool} (he : e ∈ l) (hi : 1 ≤ i ∧ i ≤ (m : Int) + 1) (h1 : Yl1 s') (h2 : s'.size = s.size) :
  StP (Yld s (m + 1) (j + 1)) (Z15 p1 l (j : Int) e i r a k key n t pl ti s'.b s'.at_ s'.mix s'.size b) := by
 simp only [Z15]
 exact StP.cond (fun _ => Yli hm h0m hmm hj hl he hi h1 h2) (fun _ => Yli hm h0m hmm hj hl he hi h1 h2)
theorem Ylk {p1 i ti r a k n key : Int} {t : ByteArray} {e : Y9j} {pl : List Int} (he : e ∈ l) (hi : 1 ≤ i ∧ i ≤ (m : Int) + 1) (h1 : Yl1 s') (h2 : s'.size = s.size) :
  StP (Yld s (m + 1) (j + 1)) (Z16 p1 l (j : Int) e s'.b s'.at_ s'.mix s'.size i r a k key n t pl ti) := by
 simp only [Z16]
 refine StP.cond (fun _ => ?_) (fun _ => Ylj hm h0m hmm hj hl he hi h1 h2)
 exact StP.bind (oneD h1 (by omega)) h2 fun w b1 b2 _ => Ylj hm h0m hmm hj hl he hi b1 b2
theorem Yll {p1 p2 : Int} (h1 : Yl1 s') (h2 : s'.size = s.size) (hlt : (j : Int) < p2) :
  StP (Yld s (m + 1) (j + 1)) (Z17 p1 p2 s'.b s'.at_ s'.mix s'.size l (j : Int)) := by
 simp only [Z17]
 rw [Wt hlt, Wu, Y4y (n := (l.length : Int) - 1) (by omega) (by omega)]
 refine StP.get (by omega) (by omega) fun e he => ?_
 have hle := hl e he
 refine StP.bind (nD h1 (by omega) (by omega)) h2 fun q a1 a2 a3 => ?_
 refine StP.bind (nD a1 (by omega) (by omega)) a2 fun q2 b1 b2 b3 => ?_
 refine StP.bind (Ylb b1 _) b2 fun v c1 c2 c3 => ?_
 refine Ylk hm h0m hmm hj hl he ?_ c1 c2
 rw [c3.1]
 simp only
 rw [Y4y (by omega) (by omega)]
 omega
end

theorem Ylm {s : Y9i} (h : Yl1 s) {room many : Int} (hm : many ≤ 100) : DrP s (fun l : List Y9j => 2 ≤ l.length ∧ l.length ≤ 103 ∧ ∀ e ∈ l, 1 ≤ e.id ∧ e.id ≤ 103 ∧ e.prev.length ≤ 2) (Z19 s room many) := by
 have key : ∀ (s' : Y9i) (l : List Y9j) (m : Nat), Yl1 s' → s'.size = s.size → l.length = m → 2 ≤ m → m ≤ 3 → (∀ e ∈ l, 1 ≤ e.id ∧ e.id ≤ (m : Int) ∧ e.prev.length ≤ 2) → DrP s (fun l : List Y9j => 2 ≤ l.length ∧ l.length ≤ 103 ∧ ∀ e ∈ l, 1 ≤ e.id ∧ e.id ≤ 103 ∧ e.prev.length ≤ 2) (Z18 room many s'.b s'.at_ s'.mix s'.size l) := fun s' l m h1 h2 h3 h4 h5 h6 => by
  simp only [Z18]
  obtain ⟨o, e1, e2⟩ := Y51 (step := fun z : Ylc => Z17 room many z.1 z.2.1 z.2.2.1 z.2.2.2.1 z.2.2.2.2.1 z.2.2.2.2.2) (p := fun o : List Y9j × List Int × Int × Int × Int => Yl1 ⟨o.2.1, o.2.2.1, o.2.2.2.1, o.2.2.2.2⟩ ∧ o.2.2.2.2 = s.size ∧ 2 ≤ o.1.length ∧ o.1.length ≤ 103 ∧ ∀ e ∈ o.1, 1 ≤ e.id ∧ e.id ≤ 103 ∧ e.prev.length ≤ 2)
   (fun n (z : Ylc) => ∃ j : Nat, Yld s (m + j) j z ∧ j ≤ 100 ∧ n = 100 - j) (by
   rintro n ⟨b, a, x, sz, q, y⟩ ⟨j, ⟨g1, g2, g3, g4, g5⟩, hj, rfl⟩
   simp only at g1 g2 g3 g4 g5
   subst g5
   by_cases hlt : (j : Int) < many
   ·
    right
    obtain ⟨z, z1, z2⟩ := Yll (p1 := room) (p2 := many) g3 (by omega) (by omega) (by omega) g4 g1 g2 hlt
    exact ⟨z, 100 - (j + 1), z1, by omega, j + 1, z2, by omega, rfl⟩
   ·
    left
    simp only [Z17]
    rw [Wf hlt, Wv]
    refine ⟨_, rfl, g1, g2, by simp only; omega, by simp only; omega, fun e he => ?_⟩
    have := g4 e he
    omega) big 100 (s'.b, s'.at_, s'.mix, s'.size, l, 0) ⟨0, ⟨h1, h2, h3, h6, rfl⟩, by omega, rfl⟩ (Ycr (by omega))
  rw [e1, Wb]
  exact ⟨_, rfl, e2.1, e2.2.1, e2.2.2⟩
 unfold Z19
 rw [Y4z (by simp), Wb]
 refine DrP.bind (oneD h (by omega)) rfl fun r7 a1 a2 _ => ?_
 refine DrP.cond (fun _ => key r7.2 _ 2 a1 a2 rfl (by omega) (by omega) (by simp)) (fun _ => ?_)
 rw [Y4z (by simp), Wb]
 exact key r7.2 _ 3 a1 a2 rfl (by omega) (by omega) (by simp)
end Go.Proofs.YtomachnjepgpbaaGreat
namespace Go.Proofs.YtomachnjepgpbaaGreat
open Go Go.Abs

section
variable {s : Y9i} {Pe : Y9j → Prop}
def Yln (Pe : Y9j → Prop) (m : Nat) (l : List Y9j) : Prop := l.length ≤ m ∧ ∀ e ∈ l, Pe e

theorem Ylo {s' : Y9i} {l : List Y9j} {m : Nat} {b : Bool} (hm : m ≤ 1000) (hl : Yln Pe m l) (hb : b = true → 2 ≤ l.length) (h1 : Yl1 s') (h2 : s'.size = s.size) : DrP s (Yln Pe m) (Z1d l s'.b s'.at_ s'.mix s'.size b) := by
 have hlen := hl.1
 simp only [Z1d, Z1c]
 refine DrP.cond (fun hb1 => ?_) (fun _ => DrP.ret h1 h2 hl)
 have hb2 := hb hb1
 refine DrP.bind (nD h1 (by omega) (by omega)) h2 fun q a1 a2 a3 => ?_
 obtain ⟨n, hn⟩ := Int.eq_ofNat_of_zero_le a3.1
 have h3 := a3.2
 rw [hn] at h3 ⊢
 rw [Y4y (by omega) (by omega), Y4z (Wt (by omega)), Wb, Y4z (Wt (by omega)), Wb, Y4z (Wt (by omega)), Wb]
 refine DrP.ret a1 a2 ⟨by simp; omega, fun e he => ?_⟩
 rcases List.mem_append.1 he with he | he
 ·
  exact hl.2 e (List.mem_of_mem_take he)
 ·
  exact hl.2 e (List.mem_of_mem_drop he)

theorem Ylp {s' : Y9i} {l : List Y9j} {m : Nat} {p2 : Bool} (hm : m ≤ 1000) (hl : Yln Pe m l) (h1 : Yl1 s') (h2 : s'.size = s.size) : DrP s (Yln Pe m) (Z1e p2 s'.b s'.at_ s'.mix s'.size l) := by
 simp only [Z1e]
 refine DrP.cond (fun _ => ?_) (fun _ => Ylo hm hl (by simp) h1 h2)
 refine DrP.bind (oneD h1 (by omega)) h2 fun q a1 a2 _ => ?_
 exact DrP.cond (fun _ => Ylo hm hl (fun h => by have := Wo h; omega) a1 a2) (fun _ => Ylo hm hl (by simp) a1 a2)

theorem Ylq {s' : Y9i} {l : List Y9j} {m : Nat} {p2 b : Bool} (hm : m ≤ 999) (hl : Yln Pe m l) (hb : b = true → 1 ≤ l.length) (h1 : Yl1 s') (h2 : s'.size = s.size) : DrP s (Yln Pe (m + 1)) (Z1f p2 l s'.b s'.at_ s'.mix s'.size b) := by
 have hlen := hl.1
 simp only [Z1f]
 refine DrP.cond (fun hb1 => ?_) (fun _ => Ylp (by omega) ⟨by omega, hl.2⟩ h1 h2)
 have hb2 := hb hb1
 refine DrP.bind (nD h1 (by omega) (by omega)) h2 fun q a1 a2 a3 => ?_
 refine DrP.get a3.1 a3.2 fun e he => ?_
 rw [Y4z (by simp; omega), Wb]
 refine Ylp (by omega) ⟨by simp; omega, fun x hx => ?_⟩ a1 a2
 simp only [List.mem_append, List.mem_singleton] at hx
 rcases hx with hx | rfl
 ·
  exact hl.2 x hx
 ·
  exact hl.2 _ he

theorem Ylr {l : List Y9j} {m : Nat} {p2 : Bool} (h : Yl1 s) (hm : m ≤ 900) (hl : Yln Pe m l) : DrP s (Yln Pe (m + 1)) (Z1j s l p2) := by
 have hlen := hl.1
 unfold Z1j
 rw [Y4z (by simp; omega), Wb]
 refine DrP.bind (nD h (by omega) (by omega)) rfl fun r5 a1 a2 a3 => ?_
 obtain ⟨o, e1, e2⟩ := Y51 (step := fun z : Ylc => Z1i z.1 z.2.1 z.2.2.1 z.2.2.2.1 z.2.2.2.2.1 z.2.2.2.2.2) (p := fun o : List Int × Int × Int × Int × List Y9j => Yl1 ⟨o.1, o.2.1, o.2.2.1, o.2.2.2.1⟩ ∧ o.2.2.2.1 = s.size ∧ Yln Pe m o.2.2.2.2)
  (fun n (z : Ylc) => Yl1 ⟨z.1, z.2.1, z.2.2.1, z.2.2.2.1⟩ ∧ z.2.2.2.1 = s.size ∧ Yln Pe m z.2.2.2.2.1 ∧ ∃ j : Nat, z.2.2.2.2.2 = (j : Int) ∧ j ≤ 6 ∧ n = j) (by
  rintro n ⟨b, a, x, sz, q, y⟩ ⟨g1, g2, g3, j, g4, hj, rfl⟩
  simp only at g1 g2 g3 g4
  subst g4
  have hq := g3.1
  simp only [Z1i]
  by_cases h1 : (n : Int) > 0
  ·
   rw [Wt h1, Wu]
   simp only [Z1h]
   by_cases h2 : (q.length : Int) > 1
   ·
    right
    rw [Wt h2, Wu]
    obtain ⟨u, u1, u2, u3, u4⟩ := nD g1 (k := (q.length : Int)) (by omega) (by omega)
    obtain ⟨v, v1, v2, v3, v4⟩ := nD u2 (k := (q.length : Int)) (by omega) (by omega)
    obtain ⟨iu, hiu⟩ := Int.eq_ofNat_of_zero_le u4.1
    obtain ⟨iv, hiv⟩ := Int.eq_ofNat_of_zero_le v4.1
    have u5 := u4.2
    have v5 := v4.2
    rw [u1, Wb, v1, Wb]
    rw [hiu] at u5 ⊢
    rw [hiv] at v5 ⊢
    rw [Ycw (by omega : iu < q.length), Wb, Ycw (by omega : iv < q.length), Wb, Ycw (by simp; omega : iv < (List.set q (Int.toNat (iu : Int)) q[iv]).length), Wb, Y4y (by omega) (by omega)]
    refine ⟨_, n - 1, rfl, by omega, v2, v3.trans (u3.trans g2), ⟨by simp; omega, fun e he => ?_⟩, n - 1, by simp only; omega, by omega, rfl⟩
    rcases List.mem_or_eq_of_mem_set he with he | rfl
    ·
     rcases List.mem_or_eq_of_mem_set he with he | rfl
     ·
      exact g3.2 e he
     ·
      exact g3.2 _ (Wm _)
    ·
     exact g3.2 _ (Wm _)
   ·
    left
    rw [Wf h2, Wv]
    exact ⟨_, rfl, g1, g2, g3⟩
  ·
   left
   rw [Wf h1, Wv]
   simp only [Z1h, Wv]
   exact ⟨_, rfl, g1, g2, g3⟩) big r5.1.toNat (r5.2.b, r5.2.at_, r5.2.mix, r5.2.size, ([] : List Y9j) ++ l, r5.1) ⟨a1, a2, by simpa using hl, r5.1.toNat, by simp only; omega, by omega, rfl⟩ (Ycr (by omega))
 rw [e1, Wb]
 simp only [Z1g]
 have hlen2 := e2.2.2.1
 refine DrP.bind (oneD e2.1 (by omega)) e2.2.1 fun q b1 b2 _ => ?_
 exact DrP.cond (fun _ => Ylq (by omega) e2.2.2 (fun h => by have := Wo h; omega) b1 b2) (fun _ => Ylq (by omega) e2.2.2 (by simp) b1 b2)
end
end Go.Proofs.YtomachnjepgpbaaGreat
namespace Go.Proofs.YtomachnjepgpbaaGreat
open Go Go.Abs

theorem Yls {α β : Type} (f : α → β) : ∀ (l : List α) (s : List β), l.foldl (fun q x => q ++ [f x]) s = s ++ l.map f
 | [], s => by simp
 | x :: l, s => by rw [List.foldl_cons, Yls f l]; simp
theorem Ylt {α β τ ω : Type} {l : List α} {step : τ → Option (τ ⊕ ω)} (f : α → β) (emb : List β → Int → τ) (fin : List β → ω) (hl : l.length < 9223372036854775807)
  (h1 : ∀ (i : Nat) (s : List β) (hi : i < l.length), s.length = i → step (emb s i) = some (.inl (emb (s ++ [f l[i]]) ((i + 1 : Nat) : Int)))) (h2 : ∀ s : List β, step (emb s l.length) = some (.inr (fin s))) :
  iter step big (emb [] 0) = some (fin (l.map f)) := by
 have := (Ydd (l := l) (step := step) emb fin (fun q x => q ++ [f x]) (fun i q => q.length = i) hl (fun i s hi hs => ⟨h1 i s hi hs, by rw [List.length_append, hs]; rfl⟩) (fun s _ => h2 s) (s := []) rfl).1
 rwa [Yls, List.nil_append] at this
theorem l02c (e : Y9j) (h : e.prev.length ≤ 1048576) : Z39 e = some e := by
 unfold Z39
 rw [Y4z (Wt (by simp only [List.length_nil]; omega))]; rfl
theorem l03c (g : Y9k) (h : Fine g) : Z3f g = some g := by
 have h1 := h.elen
 have h2 := h.plen
 unfold Z3f
 rw [Ylt (l := g.events) (step := fun z : List Y9j × List Y9j × Int => Z3e g z.1 z.2.1 z.2.2) (fun x => x) (fun q j => ([], q, j)) (fun q => ([], q)) (by omega) (fun i s hi hs => by
  simp only [Z3e]
  rw [dlt hi, Wu, Ycw hi, Wb, l02c _ (h.ep _ (Wm hi)), Wb, Y4z (Wt (by simp only [List.length_cons, List.length_nil]; omega)), Wb, Ycx hi (by omega)]) (fun s => by simp only [Z3e]; rw [dnlt, Wv])]
 rw [Wb]
 simp only [Z3d]
 rw [Ylt (l := g.parked) (step := fun z : List Y9j × Int => Z3c g z.1 z.2) (fun x => x) (fun q j => (q, j)) (fun q => q) (by omega) (fun i s hi hs => by
  simp only [Z3c]
  rw [dlt hi, Wu, Ycw hi, Wb, l02c _ (h.pp _ (Wm hi)), Wb, Y4z (Wt (by simp only [List.length_cons, List.length_nil]; omega)), Wb, Ycx hi (by omega)]) (fun s => by simp only [Z3c]; rw [dnlt, Wv])]
 simp [Z3b]
end Go.Proofs.YtomachnjepgpbaaGreat
namespace Go.Proofs.YtomachnjepgpbaaGreat
open Go Go.Abs


def insE (l : List Y9j) (x : Y9j) : List Y9j := (l.takeWhile fun e => decide (e.id < x.id)) ++ x :: (l.dropWhile fun e => decide (e.id < x.id))
theorem Ylu {l : List Y9j} {x y : Y9j} : y ∈ insE l x ↔ y = x ∨ y ∈ l := by
 unfold insE
 rw [List.mem_append, List.mem_cons]
 have h : y ∈ l ↔ y ∈ (l.takeWhile fun e => decide (e.id < x.id)) ∨ y ∈ (l.dropWhile fun e => decide (e.id < x.id)) := by
  rw [← List.mem_append, List.takeWhile_append_dropWhile]
 rw [h]
 constructor
 ·
  rintro (h | h | h)
  ·
   exact .inr (.inl h)
  ·
   exact .inl h
  ·
   exact .inr (.inr h)
 ·
  rintro (h | h | h)
  ·
   exact .inr (.inl h)
  ·
   exact .inl h
  ·
   exact .inr (.inr h)
theorem Ylv (l : List Y9j) (x : Y9j) : (insE l x).length = l.length + 1 := by
 unfold insE
 have := congrArg List.length (List.takeWhile_append_dropWhile (p := fun e : Y9j => decide (e.id < x.id)) (l := l))
 rw [List.length_append] at this
 rw [List.length_append, List.length_cons]; omega
theorem Ylw {l : List Y9j} (h : Up2 l) {x : Y9j} (hx : hasE l x.id = false) : Up2 (insE l x) := by
 have hs : ∀ e ∈ l, e.id ≠ x.id := fun e he hi => by rw [Ydz.2 ⟨e, he, hi⟩] at hx; cases hx
 have htd := List.takeWhile_append_dropWhile (p := fun e : Y9j => decide (e.id < x.id)) (l := l)
 have h2 := h
 rw [← htd] at h2
 obtain ⟨p1, p2, p3⟩ := Yeu.1 h2
 have hlt : ∀ e ∈ (l.takeWhile fun e => decide (e.id < x.id)), e.id < x.id := fun e he => by
  have := List.all_eq_true.1 (List.all_takeWhile (p := fun e : Y9j => decide (e.id < x.id)) (l := l)) e he
  simpa using this
 have hgt : ∀ e ∈ (l.dropWhile fun e => decide (e.id < x.id)), x.id < e.id := by
  intro e he
  cases hd : l.dropWhile fun e => decide (e.id < x.id) with
  | nil => rw [hd] at he; cases he
  | cons a r =>
   have ha : ¬ a.id < x.id := by
    have := List.head?_dropWhile_not (fun e : Y9j => decide (e.id < x.id)) l
    rw [hd] at this
    simpa using this
   have hal : a ∈ l := by rw [← htd, hd]; simp
   have hne := hs a hal
   rw [hd] at he p2
   obtain ⟨q1, _⟩ := List.pairwise_cons.1 p2
   rcases List.mem_cons.1 he with rfl | he
   ·
    omega
   ·
    have := q1 e he; omega
 unfold insE
 refine Yeu.2 ⟨p1, List.pairwise_cons.2 ⟨hgt, p2⟩, fun a ha b hb => ?_⟩
 have h3 := hlt a ha
 rcases List.mem_cons.1 hb with rfl | hb
 ·
  exact h3
 ·
  have := hgt b hb; omega
theorem Ylx {l : List Y9j} {x : Y9j} {id : Int} : hasE (insE l x) id = (hasE l id || decide (x.id = id)) := by
 rw [Bool.eq_iff_iff, Ydz, Bool.or_eq_true, Ydz, decide_eq_true_iff]
 constructor
 ·
  rintro ⟨e, he, rfl⟩
  rcases Ylu.1 he with rfl | he
  ·
   exact .inr rfl
  ·
   exact .inl ⟨e, he, rfl⟩
 ·
  rintro (⟨e, he, rfl⟩ | rfl)
  ·
   exact ⟨e, Ylu.2 (.inr he), rfl⟩
  ·
   exact ⟨x, Ylu.2 (.inl rfl), rfl⟩

theorem Yly {l : List Y9j} (x : Y9j) (hl : l.length < 1000000) (hx : x.prev.length < 1000000) : Z3k l x = some (insE l x) := by
 unfold Z3k
 rw [Yg7 (l := l) (fun e => decide (e.id < x.id)) (by omega) (fun i hi => by
  simp only [Z3j, Z3i]
  rw [dlt hi, Wu, Ycw hi, Wb, Ycx hi (by omega)]
  cases decide (l[i].id < x.id) <;> rfl) (by simp only [Z3j, Z3i]; rw [dnlt, Wv, Wv]), Wb]
 have hk : (l.takeWhile fun e => decide (e.id < x.id)).length ≤ l.length := (List.takeWhile_prefix _).length_le
 obtain ⟨e1, e2⟩ := Yg8 (fun e : Y9j => decide (e.id < x.id)) l
 have hd : (l.dropWhile fun e => decide (e.id < x.id)).length ≤ l.length := (List.dropWhile_suffix _).length_le
 simp only [Z3h]
 rw [Y65 hk, Wb, e1, Yhp (by simp; omega), Wb, Yid x hx, Wb, Yhp (by simp; omega), Wb, Y66 hk, Wb, e2, Yhp (by simp; omega), Wb]
 simp [insE]

theorem Ylz {g : Y9k} (he : g.events.length < 1000000) (hp : g.parked.length < 1000000) (hpp : ∀ e ∈ g.parked, e.prev.length < 9223372036854775807) : Z3o g = some (idxP (Yg0 g.events) g.parked) := by
 unfold Z3o
 rw [Ydf (Yda (l := g.parked) (step := Z3n g) (Yg0 g.events) (by omega) (fun i hi => by
  simp only [Z3n]
  rw [dlt hi, Wu, Ycw hi, Wb, Ye1 _ _ (by omega) (hpp _ (Wm hi)), Wb, Ycx hi (by omega)]
  show cond (Yg0 g.events g.parked[i]) _ _ = _
  cases Yg0 g.events g.parked[i] <;> rfl) (by simp only [Z3n]; rw [dnlt, Wv])) (fun _ => rfl) rfl]


theorem Ym0 {l : List Y9j} (hf : Fits l) (hd : Deep l) {x : Y9j} (hw : Yg0 l x = true) (hn : hasE l x.id = false) (h60 : l.length < 60) (hx : x.prev.length ≤ 4) : Fits (insE l x) ∧ Deep (insE l x) := by
 have hall : ∀ p ∈ x.prev, hasE l p = true := List.all_eq_true.1 hw
 have hfit : Fits (insE l x) := ⟨Ylw hf.up hn, fun e he p hp => by
   rw [Ylx]
   rcases Ylu.1 he with rfl | he
   ·
    rw [hall p hp]; rfl
   ·
    rw [hf.whole e he p hp]; rfl, by rw [Ylv]; omega, fun e he => by
   rcases Ylu.1 he with rfl | he
   ·
    omega
   ·
    exact hf.plen e he⟩
 refine ⟨hfit, Yj7 hfit (fun id => if id = x.id then 4000 else (dOf l (Yed l) id).toNat) fun e he p hp => ?_⟩
 have hb := (Yej hf).2
 have hm : l.length * l.length ≤ 60 * 60 := Nat.mul_le_mul hf.len hf.len
 have hlow : ∀ p, hasE l p = true → p ≠ x.id ∧ (dOf l (Yed l) p).toNat < 4000 := fun p hp => by
  refine ⟨fun e => (by rw [e, hn] at hp; cases hp), ?_⟩
  have := (hb.in_ _ (Yee hb.len hp).2).2
  omega
 rcases Ylu.1 he with rfl | he
 ·
  obtain ⟨h1, h2⟩ := hlow p (hall p hp)
  simp only [if_neg h1, if_true]; exact h2
 ·
  obtain ⟨h1, _⟩ := hlow p (hf.whole e he p hp)
  obtain ⟨h2, _⟩ := hlow e.id (Ydy he)
  simp only [if_neg h1, if_neg h2]
  have h3 := Yil hf hd he hp
  obtain ⟨f, hfl, rfl⟩ := Ydz.1 (hf.whole e he p hp)
  have := (Yj5 hf hd hfl).2
  omega
structure Grow (g : Y9k) (ev pk : List Y9j) (ad : List Int) : Prop where
 fits : Fits ev
 deep : Deep ev
 evok : ∀ e ∈ ev, EvOk e ∧ e.room = g.room
 sub : ∀ e ∈ g.events, e ∈ ev
 pup : Up2 pk
 pev : ∀ e ∈ pk, EvOk e ∧ e.room = g.room
 apart : ∀ e ∈ ev, hasE pk e.id = false
 alen : ad.length + pk.length ≤ 21
 nodup : ad.Nodup
 anew : ∀ id ∈ ad, hasE g.events id = false
 amem : ∀ id, hasE ev id = true ↔ hasE g.events id = true ∨ id ∈ ad
 aord : ∀ (i : Nat) (hi : i < ad.length), ∀ p ∈ (evD ev ad[i]).prev, hasE g.events p = true ∨ p ∈ ad.take i

theorem Grow.step {g : Y9k} {ev pk pk' : List Y9j} {ad : List Int} (w : Grow g ev pk ad) {x : Y9j} (hx : EvOk x ∧ x.room = g.room) (hw : Yg0 ev x = true) (hn : hasE ev x.id = false) (h60 : ev.length < 60) (hl : pk'.length + ad.length + 1 ≤ 21) (hu : Up2 pk') (hs : ∀ e ∈ pk', e ∈ pk ∧ e.id ≠ x.id) : Grow g (insE ev x) pk' (ad ++ [x.id]) := by
 obtain ⟨f1, f2⟩ := Ym0 w.fits w.deep hw hn h60 hx.1.prev.1
 have hna : x.id ∉ ad := fun h => by rw [(w.amem _).2 (.inr h)] at hn; cases hn
 have hev : ∀ id, hasE ev id = true → evD (insE ev x) id = evD ev id := fun id hi => by
  obtain ⟨e, he, rfl⟩ := Ydz.1 hi
  unfold evD
  rw [w.fits.up.evAt_mem he, f1.up.evAt_mem (Ylu.2 (.inr he))]
 have hxx : evD (insE ev x) x.id = x := by
  unfold evD
  rw [f1.up.evAt_mem (Ylu.2 (.inl rfl))]; rfl
 refine ⟨f1, f2, fun e he => ?_, fun e he => Ylu.2 (.inr (w.sub e he)), hu, fun e he => w.pev e (hs e he).1, fun e he => ?_, by simp; omega, ?_, fun id hi => ?_, fun id => ?_, fun i hi p hp => ?_⟩
 ·
  rcases Ylu.1 he with rfl | he
  ·
   exact hx
  ·
   exact w.evok e he
 ·
  rw [Bool.eq_false_iff]
  intro hh
  obtain ⟨f, hf, hid⟩ := Ydz.1 hh
  obtain ⟨q1, q2⟩ := hs f hf
  rcases Ylu.1 he with rfl | he
  ·
   exact q2 hid
  ·
   have := w.apart e he
   rw [Ydz.2 ⟨f, q1, hid⟩] at this; cases this
 ·
  rw [List.nodup_append]
  exact ⟨w.nodup, by simp, fun a ha b hb e => by rw [List.mem_singleton] at hb; subst hb; subst e; exact hna ha⟩
 ·
  rcases List.mem_append.1 hi with hi | hi
  ·
   exact w.anew id hi
  ·
   rw [List.mem_singleton] at hi
   subst hi
   rw [Bool.eq_false_iff]
   intro hh
   rw [(w.amem _).2 (.inl hh)] at hn; cases hn
 ·
  rw [Ylx, Bool.or_eq_true, w.amem, decide_eq_true_iff, List.mem_append, List.mem_singleton, or_assoc]
  constructor
  ·
   rintro (h | h | h)
   ·
    exact .inl h
   ·
    exact .inr (.inl h)
   ·
    exact .inr (.inr h.symm)
  ·
   rintro (h | h | h)
   ·
    exact .inl h
   ·
    exact .inr (.inl h)
   ·
    exact .inr (.inr h.symm)
 ·
  rw [List.length_append, List.length_singleton] at hi
  by_cases hil : i < ad.length
  ·
   rw [List.getElem_append_left hil, hev _ ((w.amem _).2 (.inr (Wm hil)))] at hp
   rcases w.aord i hil p hp with h | h
   ·
    exact .inl h
   ·
    exact .inr (by rw [List.take_append_of_le_length (by omega)]; exact h)
  ·
   obtain rfl : i = ad.length := by omega
   rw [List.getElem_append_right (Nat.le_refl _)] at hp
   simp only [Nat.sub_self, List.getElem_cons_zero] at hp
   rw [hxx] at hp
   rcases (w.amem p).1 (List.all_eq_true.1 hw p hp) with h | h
   ·
    exact .inl h
   ·
    exact .inr (by rw [List.take_append_of_le_length (Nat.le_refl _), List.take_length]; exact h)

theorem Grow.skip {g : Y9k} {ev pk pk' : List Y9j} {ad : List Int} (w : Grow g ev pk ad) (hl : pk'.length ≤ pk.length) (hu : Up2 pk') (hs : ∀ e ∈ pk', e ∈ pk) : Grow g ev pk' ad :=
 ⟨w.fits, w.deep, w.evok, w.sub, hu, fun e he => w.pev e (hs e he), fun e he => (by
  rw [Bool.eq_false_iff]
  intro hh
  obtain ⟨f, hf, hid⟩ := Ydz.1 hh
  have := w.apart e he
  rw [Ydz.2 ⟨f, hs f hf, hid⟩] at this
  cases this), by have := w.alen; omega, w.nodup, w.anew, w.amem, w.aord⟩

theorem Grow.done {g : Y9k} {ev pk : List Y9j} {ad : List Int} (w : Grow g ev pk ad) (hr : 1 ≤ g.room ∧ g.room ≤ 3) (hp : pk.length ≤ 20) (h : pk.any (Yg0 ev) = false) : GOk ⟨g.room, ev, pk⟩ :=
 ⟨hr, w.fits, w.evok, hp, w.pup, w.pev, w.apart, fun e he => by
  have := List.any_eq_false.1 h e he
  rw [Bool.eq_false_iff]; exact this, w.deep⟩

def relE (ev pk : List Y9j) (ad : List Int) : Nat → List Y9j × List Y9j × List Int
 | 0 => (ev, pk, ad)
 | n + 1 => match pk.findIdx? (Yg0 ev) with
  | none => (ev, pk, ad)
  | some k => if ev.length < 60 then relE (insE ev (pk.getD k zEv)) (pk.eraseIdx k) (ad ++ [(pk.getD k zEv).id]) n else relE ev (pk.eraseIdx k) ad n

theorem Ym1 {g : Y9k} : ∀ (n : Nat) {ev pk : List Y9j} {ad : List Int}, Grow g ev pk ad → pk.length ≤ n → Grow g (relE ev pk ad n).1 (relE ev pk ad n).2.1 (relE ev pk ad n).2.2 ∧ (relE ev pk ad n).2.1.length ≤ pk.length ∧ (relE ev pk ad n).2.1.any (Yg0 (relE ev pk ad n).1) = false ∧ ∃ r, (relE ev pk ad n).2.2 = ad ++ r
 | 0, ev, pk, ad, w, hn => by
  obtain rfl : pk = [] := List.eq_nil_of_length_eq_zero (by omega)
  exact ⟨w, Nat.le_refl _, rfl, [], by simp [relE]⟩
 | n + 1, ev, pk, ad, w, hn => by
  unfold relE
  cases hf : pk.findIdx? (Yg0 ev) with
  | none =>
   rw [List.findIdx?_eq_none_iff] at hf
   exact ⟨w, Nat.le_refl _, List.any_eq_false.2 fun e he => by rw [hf e he]; simp, [], by simp⟩
  | some k =>
   obtain ⟨hk, hkp, _⟩ := List.findIdx?_eq_some_iff_getElem.1 hf
   have hg : pk.getD k zEv = pk[k] := by simp [hk]
   have hel : (pk.eraseIdx k).length + 1 = pk.length := by rw [List.length_eraseIdx]; rw [if_pos hk]; omega
   have hu : Up2 (pk.eraseIdx k) := w.pup.sublist (List.eraseIdx_sublist _ _)
   have hs : ∀ e ∈ pk.eraseIdx k, e ∈ pk := fun e he => (List.eraseIdx_sublist _ _).subset he
   have hne : ∀ e ∈ pk.eraseIdx k, e.id ≠ pk[k].id := fun e he hid => by
    obtain ⟨j, hj, rfl⟩ := List.mem_iff_getElem.1 he
    rw [List.getElem_eraseIdx] at hid
    split at hid
    ·
     have := w.pup.inj (by omega) hk hid; omega
    ·
     have := w.pup.inj (by omega) hk hid; omega
   simp only
   rw [hg]
   by_cases h60 : ev.length < 60
   ·
    rw [if_pos h60]
    have hn2 : hasE ev pk[k].id = false := by
     rw [Bool.eq_false_iff]
     intro hh
     obtain ⟨f, hf, hid⟩ := Ydz.1 hh
     have := w.apart f hf
     rw [Ydz.2 ⟨pk[k], Wm hk, hid.symm⟩] at this; cases this
    have hal := w.alen
    obtain ⟨i1, i2, i3, r, i4⟩ := Ym1 n (w.step (x := pk[k]) (w.pev _ (Wm hk)) hkp hn2 h60 (by omega) hu fun e he => ⟨hs e he, hne e he⟩) (by omega)
    exact ⟨i1, by omega, i3, pk[k].id :: r, by rw [i4]; simp⟩
   ·
    rw [if_neg h60]
    obtain ⟨i1, i2, i3, i4⟩ := Ym1 n (w.skip (by omega) hu hs) (by omega)
    exact ⟨i1, by omega, i3, i4⟩

def addG (g : Y9k) (e : Y9j) : Y9l :=
 if hasE g.events e.id = true ∨ hasE g.parked e.id = true then ⟨⟨0, [], []⟩, [], 7⟩
 else if g.events.length ≥ 60 ∨ (Yg0 g.events e = false ∧ g.parked.length ≥ 20) then ⟨⟨0, [], []⟩, [], 9⟩
 else if Yg0 g.events e = true then ⟨⟨g.room, (relE (insE g.events e) g.parked [e.id] 20).1, (relE (insE g.events e) g.parked [e.id] 20).2.1⟩, (relE (insE g.events e) g.parked [e.id] 20).2.2, 0⟩
 else ⟨⟨g.room, g.events, insE g.parked e⟩, [], 0⟩

theorem Ym2 {g : Y9k} (k : GOk g) {e : Y9j} (he : EvOk e) (hr : e.room = g.room) (h1 : hasE g.events e.id = false) (h2 : hasE g.parked e.id = false) (h3 : g.events.length < 60) (h4 : Yg0 g.events e = true) : Grow g (insE g.events e) g.parked [e.id] := by
 have w0 : Grow g g.events g.parked [] := ⟨k.fits, k.deep, k.ev, fun e he => he, k.pup, k.pev, k.apart, by have := k.plen; simp; omega, .nil, fun id h => (by cases h), fun id => (by simp), fun i hi => (by simp at hi)⟩
 exact w0.step ⟨he, hr⟩ h4 h1 h3 (by have := k.plen; simp; omega) k.pup fun f hf => ⟨hf, fun hid => by rw [Ydz.2 ⟨f, hf, hid⟩] at h2; cases h2⟩

theorem Ym3 {g : Y9k} (k : GOk g) {e : Y9j} (he : EvOk e) (hr : e.room = g.room) (h0 : (addG g e).code = 0) : GOk (addG g e).graph ∧ (addG g e).graph.room = g.room ∧ Grow g (addG g e).graph.events (addG g e).graph.parked (addG g e).added := by
 unfold addG at h0 ⊢
 by_cases h1 : hasE g.events e.id = true ∨ hasE g.parked e.id = true
 ·
  rw [if_pos h1] at h0; cases h0
 ·
  rw [if_neg h1] at h0 ⊢
  obtain ⟨h1a, h1b⟩ := not_or.1 h1
  rw [Bool.not_eq_true] at h1a h1b
  by_cases h2 : g.events.length ≥ 60 ∨ (Yg0 g.events e = false ∧ g.parked.length ≥ 20)
  ·
   rw [if_pos h2] at h0; cases h0
  ·
   rw [if_neg h2]
   obtain ⟨h2a, h2b⟩ := not_or.1 h2
   by_cases h3 : Yg0 g.events e = true
   ·
    rw [if_pos h3]
    have w := Ym2 k he hr h1a h1b (by omega) h3
    obtain ⟨i1, i2, i3, _⟩ := Ym1 20 w k.plen
    exact ⟨i1.done k.room (by have := k.plen; omega) i3, rfl, i1⟩
   ·
    rw [if_neg h3]
    rw [Bool.not_eq_true] at h3
    have hpl : g.parked.length < 20 := by
     rcases Nat.lt_or_ge g.parked.length 20 with h | h
     ·
      exact h
     ·
      exact absurd ⟨h3, h⟩ h2b
    have hpu := Ylw k.pup h1b
    refine ⟨⟨k.room, k.fits, k.ev, by simp only [Ylv]; omega, hpu, fun f hf => ?_, fun f hf => ?_, fun f hf => ?_, k.deep⟩, rfl, ⟨k.fits, k.deep, k.ev, fun e he => he, hpu, fun f hf => ?_, fun f hf => ?_, by simp only [Ylv]; simp; omega, .nil, fun id h => (by cases h), fun id => (by simp), fun i hi => (by simp at hi)⟩⟩
    ·
     rcases Ylu.1 hf with rfl | hf
     ·
      exact ⟨he, hr⟩
     ·
      exact k.pev f hf
    ·
     simp only [Ylx]
     rw [k.apart f hf, Bool.false_or, decide_eq_false_iff_not]
     intro hid
     rw [Ydz.2 ⟨f, hf, hid.symm⟩] at h1a; cases h1a
    ·
     rcases Ylu.1 hf with rfl | hf
     ·
      exact h3
     ·
      exact k.lack f hf
    ·
     rcases Ylu.1 hf with rfl | hf
     ·
      exact ⟨he, hr⟩
     ·
      exact k.pev f hf
    ·
     simp only [Ylx]
     rw [k.apart f hf, Bool.false_or, decide_eq_false_iff_not]
     intro hid
     rw [Ydz.2 ⟨f, hf, hid.symm⟩] at h1a; cases h1a

theorem Ym4 (p : Y9j → Bool) (l : List Y9j) : (l.findIdx? p = none ∧ idxP p l = -1) ∨ ∃ k, l.findIdx? p = some k ∧ k < l.length ∧ idxP p l = (k : Int) := by
 unfold idxP
 cases h : l.findIdx? p with
 | none => exact .inl ⟨rfl, rfl⟩
 | some k => exact .inr ⟨k, rfl, (List.findIdx?_eq_some_iff_getElem.1 h).1, rfl⟩

theorem Ym5 {g : Y9k} (k : GOk g) {e : Y9j} (he : EvOk e) (hr : e.room = g.room) : Z3v g e = some (addG g e) := by
 have hel := k.fits.len
 have hpl := k.plen
 have hp4 := he.prev.1
 have hfine : Fine g := ⟨by omega, by omega, fun f hf => by have := (k.ev f hf).1.prev.1; omega, fun f hf => by have := (k.pev f hf).1.prev.1; omega⟩
 unfold Z3v addG
 rw [Ye1 _ _ (by omega) (by omega), Wb, Ydt _ _ (by omega), Wb, Ydu]
 show cond (hasE g.events e.id) _ _ = _
 cases h1 : hasE g.events e.id with
 | true => rw [if_pos (.inl rfl)]; rfl
 | false =>
  rw [Wv, Ydt _ _ (by omega), Wb, Ydu]
  cases h2 : hasE g.parked e.id with
  | true => rw [if_pos (.inr rfl)]; rfl
  | false =>
   rw [if_neg (by simp)]
   simp only [Z3u, Wv]
   by_cases h3 : g.events.length ≥ 60
   ·
    rw [Wt (by omega : (g.events.length : Int) ≥ 60), if_pos (.inl h3)]; rfl
   ·
    rw [Wf (by omega : ¬ (g.events.length : Int) ≥ 60), Wv]
    cases h4 : Yg0 g.events e with
    | false =>
     have h4' : (e.prev.all fun p => hasE g.events p) = false := h4
     rw [h4', Wv]
     by_cases h5 : g.parked.length ≥ 20
     ·
      rw [Wt (by omega : (g.parked.length : Int) ≥ 20), if_pos (.inr ⟨rfl, h5⟩)]; rfl
     ·
      rw [Wf (by omega : ¬ (g.parked.length : Int) ≥ 20), if_neg (by rintro (h | ⟨_, h⟩) <;> omega), if_neg (by simp)]
      simp only [Z3t, Wv]
      rw [l03c g hfine, Wb, Yly e (by omega) (by omega), Wb]
    | true =>
     have h4' : (e.prev.all fun p => hasE g.events p) = true := h4
     rw [h4', Wu, if_neg (fun x => x.elim (fun h => by omega) fun h => by cases h.1), if_pos rfl]
     simp only [Z3t, Wv, Wu]
     rw [l03c g hfine, Wb, Yly e (by omega) (by omega), Wb]
     have w0 := Ym2 k he hr h1 h2 (by omega) h4
     have hfr : ∀ {ev pk : List Y9j} {ad : List Int}, Grow g ev pk ad → Z3o ⟨g.room, ev, pk⟩ = some (idxP (Yg0 ev) pk) := fun {ev pk ad} w => by
      have h6 := w.fits.len
      have h7 := w.alen
      exact Ylz (g := ⟨g.room, ev, pk⟩) (by simp only; omega) (by simp only; omega) fun f hf => by have := (w.pev f hf).1.prev.1; omega
     rw [hfr w0, Wb]
     obtain ⟨⟨o1, o2, o3⟩, e1, e2⟩ := Y51 (step := fun z : List Y9j × List Y9j × List Int × Int => Z3s g z.1 z.2.1 z.2.2.1 z.2.2.2) (p := fun o : List Y9j × List Y9j × List Int => o = relE (insE g.events e) g.parked [e.id] 20)
      (fun m (z : List Y9j × List Y9j × List Int × Int) => ∃ ev pk ad, z = (ev, pk, ad, idxP (Yg0 ev) pk) ∧ Grow g ev pk ad ∧ pk.length ≤ m ∧ relE ev pk ad m = relE (insE g.events e) g.parked [e.id] 20) (by
      rintro m z ⟨ev, pk, ad, rfl, w, hm, hrel⟩
      have h6 := w.fits.len
      have h7 := w.alen
      simp only [Z3s]
      rcases Ym4 (Yg0 ev) pk with ⟨c1, c2⟩ | ⟨j, c1, hj, c2⟩
      ·
       left
       rw [c2]
       refine ⟨_, rfl, ?_⟩
       rw [← hrel]
       cases m with
       | zero => rfl
       | succ m => simp [relE, c1]
      ·
       right
       rw [c2]
       cases m with
       | zero => omega
       | succ m =>
        have hw := Ycx hj (by omega)
        have hel2 : (pk.eraseIdx j).length + 1 = pk.length := by rw [List.length_eraseIdx]; rw [if_pos hj]; omega
        have her : ([] : List Y9j) ++ pk.take j ++ pk.drop (j + 1) = pk.eraseIdx j := by rw [List.nil_append, List.eraseIdx_eq_take_drop_succ]
        have hu : Up2 (pk.eraseIdx j) := w.pup.sublist (List.eraseIdx_sublist _ _)
        have hs : ∀ f ∈ pk.eraseIdx j, f ∈ pk := fun f hf => (List.eraseIdx_sublist _ _).subset hf
        have hne : ∀ f ∈ pk.eraseIdx j, f.id ≠ pk[j].id := fun f hf hid => by
         obtain ⟨i, hi, rfl⟩ := List.mem_iff_getElem.1 hf
         rw [List.getElem_eraseIdx] at hid
         split at hid
         ·
          have := w.pup.inj (by omega) hj hid; omega
         ·
          have := w.pup.inj (by omega) hj hid; omega
        have hpj := w.pev _ (Wm hj)
        have hp4j := hpj.1.prev.1
        rw [Wt (by omega : (j : Int) ≥ 0), Wu, Ycw hj, Wb, hw, Y4z (Wt ⟨by omega, by omega⟩), Wb, Int.toNat_natCast, Int.toNat_natCast, Y4z (Wt (by omega)), Wb, Yhp (by simp; omega), Wb, Y4z (Wt ⟨by omega, by omega⟩), Wb, Y4z (Wt (by omega)), Wb, Yhp (by simp; omega), Wb]
        have hgd : pk.getD j zEv = pk[j] := by simp [hj]
        by_cases h60 : ev.length < 60
        ·
         have hnE : hasE ev pk[j].id = false := by
          rw [Bool.eq_false_iff]
          intro hh
          obtain ⟨f, hf, hid⟩ := Ydz.1 hh
          have := w.apart f hf
          rw [Ydz.2 ⟨pk[j], Wm hj, hid.symm⟩] at this; cases this
         have w2 := w.step (x := pk[j]) (pk' := pk.eraseIdx j) hpj (List.findIdx?_eq_some_iff_getElem.1 c1).2.1 hnE h60 (by omega) hu fun f hf => ⟨hs f hf, hne f hf⟩
         rw [Wt (by omega : (ev.length : Int) < 60), Wu, Yly _ (by omega) (by omega), Wb, chk8 (by simp; omega), Wb]
         simp only [Z3r, Int.toNat_natCast, hw]
         rw [her, hfr w2, Wb]
         refine ⟨_, m, rfl, by omega, _, _, _, rfl, w2, by omega, ?_⟩
         rw [← hrel]
         simp only [relE, c1, hgd, if_pos h60]
        ·
         have w2 := w.skip (pk' := pk.eraseIdx j) (by omega) hu hs
         rw [Wf (by omega : ¬ (ev.length : Int) < 60), Wv]
         simp only [Z3r, Int.toNat_natCast, hw]
         rw [her, hfr w2, Wb]
         refine ⟨_, m, rfl, by omega, _, _, _, rfl, w2, by omega, ?_⟩
         rw [← hrel]
         simp only [relE, c1, if_neg h60]) big 20 (insE g.events e, g.parked, [e.id], idxP (Yg0 (insE g.events e)) g.parked) ⟨_, _, _, rfl, w0, hpl, rfl⟩ (Ycr (by omega))
     rw [e1, Wb]
     rw [← e2]
     rfl
end Go.Proofs.YtomachnjepgpbaaGreat
namespace Go.Proofs.YtomachnjepgpbaaGreat
open Go Go.Abs

theorem Ym6 (g : Y9k) (e : Y9j) : Z4t g e = Z3z g e := rfl

theorem Ym7 {g : Y9k} (hg : Fine g) (e : Y9j) : ∃ r, Z3z g e = some r ∧ (r.code = 0 → GOk g ∧ EvOk e ∧ e.room = g.room ∧ r = addG g e ∧ GOk r.graph) := by
 obtain ⟨b, b1, _, b3⟩ := Yg4 hg
 obtain ⟨c1, c2⟩ := Ydn e
 have ill : ∀ x : Y9l → Prop, ∃ r, Z3y g e true = some r ∧ (r.code = 0 → x r) := fun x => ⟨_, rfl, fun h => by cases h⟩
 unfold Z3z
 rw [b1, Wb]
 cases b with
 | false => rw [Wv]; exact ill fun r => GOk g ∧ EvOk e ∧ e.room = g.room ∧ r = addG g e ∧ GOk r.graph
 | true =>
  have hk := b3.1 rfl
  rw [Wu, c1, Wb]
  cases hev : evOk e with
  | false => rw [Wv]; exact ill fun r => GOk g ∧ EvOk e ∧ e.room = g.room ∧ r = addG g e ∧ GOk r.graph
  | true =>
   have he := c2.1 hev
   rw [Wu]
   by_cases hr : e.room = g.room
   ·
    have hb : (e.room != g.room) = false := by simp [hr]
    rw [hb]
    simp only [Z3y, Wv]
    rw [Ym5 hk he hr, Wb]
    exact ⟨_, rfl, fun h0 => ⟨hk, he, hr, rfl, (Ym3 hk he hr h0).1⟩⟩
   ·
    have hb : (e.room != g.room) = true := by simp [hr]
    rw [hb]
    exact ill fun r => GOk g ∧ EvOk e ∧ e.room = g.room ∧ r = addG g e ∧ GOk r.graph
end Go.Proofs.YtomachnjepgpbaaGreat
namespace Go.Proofs.YtomachnjepgpbaaGreat
open Go Go.Abs

def Y8g (e : Y9j) : Prop := e.prev.length ≤ 10

theorem Ym8 {s s' : Y9i} {i r a k key n ti : Int} {t : ByteArray} {pl : List Int} (hp : pl.length ≤ 9) (h1 : Yl1 s') (h2 : s'.size = s.size) :
  DrP s Y8g (Z44 s'.b s'.at_ s'.mix s'.size i r a k key n t pl ti) := by
 simp only [Z44, Z43]
 have fin : ∀ {q : Y9i} {e : Y9j}, Yl1 q → q.size = s.size → e.prev.length ≤ 10 → DrP s Y8g (some (e, q)) := fun a b c => DrP.ret a b c
 refine DrP.bind (oneD h1 (by omega)) h2 fun r96 a1 a2 _ => ?_
 refine DrP.cond (fun _ => ?_) (fun _ => fin a1 a2 (by simp only; omega))
 refine DrP.bind (nD a1 (by omega) (by omega)) a2 fun r99 b1 b2 b3 => ?_
 refine DrP.cond (fun _ => ?_) (fun _ => DrP.cond (fun _ => ?_) (fun _ => DrP.cond (fun _ => ?_) (fun _ => DrP.cond (fun _ => ?_) (fun _ => DrP.cond (fun _ => ?_) (fun _ => DrP.cond (fun _ => ?_) (fun _ => ?_))))))
 ·
  refine DrP.bind (nD b1 (by omega) (by omega)) b2 fun q c1 c2 c3 => ?_
  exact DrP.get c3.1 (by simpa using c3.2) fun _ _ => fin c1 c2 (by simp only; omega)
 ·
  exact DrP.bind (nD b1 (by omega) (by omega)) b2 fun q c1 c2 c3 => fin c1 c2 (by simp only; omega)
 ·
  exact DrP.bind (nD b1 (by omega) (by omega)) b2 fun q c1 c2 c3 => fin c1 c2 (by simp only; omega)
 ·
  exact DrP.bind (nD b1 (by omega) (by omega)) b2 fun q c1 c2 c3 => fin c1 c2 (by simp only; omega)
 ·
  refine DrP.bind (nD b1 (by omega) (by omega)) b2 fun q c1 c2 c3 => ?_
  rw [Y4z (by simp; omega), Wb]
  exact fin c1 c2 (by simp; omega)
 ·
  refine DrP.bind (nD b1 (by omega) (by omega)) b2 fun q c1 c2 c3 => ?_
  have := c3.1
  have := c3.2
  rw [Y4y (by omega) (by omega), Y4z (Wt (by omega)), Wb]
  exact fin c1 c2 (by simp only; omega)
 ·
  exact DrP.bind (Yl9 b1) b2 fun q c1 c2 c3 => fin c1 c2 (by simp only; omega)

theorem Ym9 {s : Y9i} (h : Yl1 s) : DrP s Y8g (Z4b s) := by
 unfold Z4b
 refine DrP.bind (nD h (by omega) (by omega)) rfl fun r2 a1 a2 _ => ?_
 refine DrP.bind (nD a1 (by omega) (by omega)) a2 fun r4 b1 b2 _ => ?_
 refine DrP.bind (nD b1 (by omega) (by omega)) b2 fun r6 c1 c2 _ => ?_
 refine DrP.bind (nD c1 (by omega) (by omega)) c2 fun r8 d1 d2 _ => ?_
 refine DrP.bind (Ylb d1 _) d2 fun r10 e1 e2 e3 => ?_
 have hpv : r10.1.prev = [] := e3.2.2.2.1
 obtain ⟨o, i1, i2⟩ := Y51 (step := fun z : List Int × Int × Int × Int × List Int × Int => Z4a r10 z.1 z.2.1 z.2.2.1 z.2.2.2.1 z.2.2.2.2.1 z.2.2.2.2.2) (p := fun o : List Int × Int × Int × Int × List Int => Yl1 ⟨o.1, o.2.1, o.2.2.1, o.2.2.2.1⟩ ∧ o.2.2.2.1 = s.size ∧ o.2.2.2.2.length ≤ 8)
  (fun n (z : List Int × Int × Int × Int × List Int × Int) => Yl1 ⟨z.1, z.2.1, z.2.2.1, z.2.2.2.1⟩ ∧ z.2.2.2.1 = s.size ∧ ∃ j : Nat, z.2.2.2.2.2 = (j : Int) ∧ z.2.2.2.2.1.length ≤ j ∧ j ≤ 8 ∧ n = 8 - j) (by
  rintro n ⟨b, a, x, sz, l, y⟩ ⟨g1, g2, j, g3, g4, hj, rfl⟩
  simp only at g1 g2 g3 g4
  subst g3
  simp only [Z4a]
  by_cases h1 : (j : Int) < 8
  ·
   right
   have key : ∀ (q : Y9i) (bb : Bool), Yl1 q → q.size = s.size → ∃ (x' : List Int × Int × Int × Int × List Int × Int) (m' : Nat), Z49 l (j : Int) q.b q.at_ q.mix q.size bb = some (.inl x') ∧ m' < 8 - j ∧ (Yl1 ⟨x'.1, x'.2.1, x'.2.2.1, x'.2.2.2.1⟩ ∧ x'.2.2.2.1 = s.size ∧ ∃ j : Nat, x'.2.2.2.2.2 = (j : Int) ∧ x'.2.2.2.2.1.length ≤ j ∧ j ≤ 8 ∧ m' = 8 - j) := fun q bb q1 q2 => by
    simp only [Z49, Z48]
    cases bb with
    | false =>
     rw [Wv, Y4y (by omega) (by omega)]
     exact ⟨_, 8 - (j + 1), rfl, by omega, q1, q2, j + 1, by simp, by simp only; omega, by omega, rfl⟩
    | true =>
     rw [Wu, Y4z (by simp; omega), Wb, Y4y (by omega) (by omega)]
     exact ⟨_, 8 - (j + 1), rfl, by omega, q1, q2, j + 1, by simp, by simp; omega, by omega, rfl⟩
   rw [Wt h1, Wu]
   cases ((j : Int) != r10.1.id) with
   | false => rw [Wv]; exact key ⟨b, a, x, sz⟩ false g1 g2
   | true =>
    rw [Wu]
    cases decide ((l.length : Int) < 2) with
    | false => rw [Wv]; exact key ⟨b, a, x, sz⟩ false g1 g2
    | true =>
     rw [Wu]
     obtain ⟨u, u1, u2, u3, _⟩ := oneD g1 (k := 4) (by omega)
     rw [u1, Wb]
     exact key u.2 u.1 u2 (u3.trans g2)
  ·
   left
   rw [Wf h1, Wv]
   exact ⟨_, rfl, g1, g2, by simp only; omega⟩) big 7 (r10.2.b, r10.2.at_, r10.2.mix, r10.2.size, r10.1.prev, 1) ⟨e1, e2, 1, rfl, by simp [hpv], by omega, rfl⟩ (Ycr (by omega))
 rw [i1, Wb]
 have j3 : ∀ (pl : List Int), pl.length ≤ 9 → DrP s Y8g (Z45 r10 o.1 o.2.1 o.2.2.1 o.2.2.2.1 pl) := fun pl hp => by
  simp only [Z45]
  refine DrP.bind (oneD i2.1 (by omega)) i2.2.1 fun q q1 q2 _ => ?_
  refine DrP.cond (fun _ => ?_) (fun _ => Ym8 hp q1 q2)
  exact DrP.bind (nD q1 (by omega) (by omega)) q2 fun w w1 w2 _ => Ym8 (by simp) w1 w2
 have hol := i2.2.2
 simp only [Z47, Z46]
 exact DrP.cond (fun _ => DrP.cond (fun _ => j3 _ (by simp)) (fun _ => j3 _ (Nat.le_trans hol (by decide)))) (fun _ => j3 _ (Nat.le_trans hol (by decide)))
end Go.Proofs.YtomachnjepgpbaaGreat
namespace Go.Proofs.YtomachnjepgpbaaGreat
open Go Go.Abs

structure SmG (g : Y9k) : Prop where
 elen : g.events.length ≤ 100
 plen : g.parked.length ≤ 100
 ep : ∀ e ∈ g.events, e.prev.length ≤ 10
 pp : ∀ e ∈ g.parked, e.prev.length ≤ 10

theorem SmG.fine {g : Y9k} (h : SmG g) : Fine g := ⟨by have := h.elen; omega, by have := h.plen; omega, fun e he => by have := h.ep e he; omega, fun e he => by have := h.pp e he; omega⟩
theorem GOk.small {g : Y9k} (h : GOk g) : g.events.length ≤ 60 ∧ g.parked.length ≤ 20 ∧ (∀ e ∈ g.events, e.prev.length ≤ 10) ∧ ∀ e ∈ g.parked, e.prev.length ≤ 10 :=
 ⟨h.fits.len, h.plen, fun e he => by have := (h.ev e he).1.prev.1; omega, fun e he => by have := (h.pev e he).1.prev.1; omega⟩

theorem Yma {s s' : Y9i} {x : Int} {l p : List Y9j} {b : Bool} (hl : l.length ≤ 60) (hp : p.length ≤ 20) (hle : ∀ e ∈ l, e.prev.length ≤ 10) (hpe : ∀ e ∈ p, e.prev.length ≤ 10) (hb : b = true → 1 ≤ l.length) (h1 : Yl1 s') (h2 : s'.size = s.size) :
  DrP s SmG (Z4w x l p s'.b s'.at_ s'.mix s'.size b) := by
 simp only [Z4w, Z4v]
 have base : ∀ y, SmG ⟨y, l, p⟩ := fun y => ⟨by simp only; omega, by simp only; omega, hle, hpe⟩
 refine DrP.cond (fun hb1 => ?_) (fun _ => DrP.ret h1 h2 (base _))
 have h0 := hb hb1
 refine DrP.bind (nD h1 (by omega) (by omega)) h2 fun q a1 a2 _ => ?_
 refine DrP.cond (fun _ => ?_) (fun _ => DrP.cond (fun _ => ?_) (fun _ => DrP.cond (fun _ => ?_) (fun _ => DrP.cond (fun _ => ?_) (fun _ => ?_))))
 ·
  exact DrP.bind (nD a1 (by omega) (by omega)) a2 fun w b1 b2 _ => DrP.ret b1 b2 (base _)
 ·
  rw [Y4z (Wt (by omega)), Wb]
  exact DrP.ret a1 a2 ⟨by simp; omega, by simp only; omega, fun e he => hle e (List.mem_of_mem_drop he), hpe⟩
 ·
  refine DrP.get (by omega) (by omega) fun e he => ?_
  rw [Y4z (by simp; omega), Wb]
  refine DrP.ret a1 a2 ⟨by simp only; omega, by simp; omega, hle, fun y hy => ?_⟩
  simp only [List.mem_append, List.mem_singleton] at hy
  rcases hy with hy | rfl
  ·
   exact hpe y hy
  ·
   exact hle _ he
 ·
  rw [Y4y (n := (l.length : Int) - 1) (by omega) (by omega)]
  refine DrP.get (by omega) (by omega) fun e he => ?_
  refine DrP.ret a1 a2 ⟨by simp; omega, by simp only; omega, fun y hy => ?_, hpe⟩
  rcases List.mem_or_eq_of_mem_set hy with hy | rfl
  ·
   exact hle y hy
  ·
   simp
 ·
  refine DrP.bind (Ym9 a1) a2 fun w b1 b2 b3 => ?_
  rw [Y4z (by simp; omega), Wb]
  refine DrP.ret b1 b2 ⟨by simp; omega, by simp only; omega, fun y hy => ?_, hpe⟩
  simp only [List.mem_append, List.mem_singleton] at hy
  rcases hy with hy | rfl
  ·
   exact hle y hy
  ·
   exact b3

theorem Ymb {s : Y9i} (h : Yl1 s) : DrP s SmG (Z51 s) := by
 have hsz := h.size
 unfold Z51
 rw [Y4y (n := 9 + s.size) (by omega) (by omega)]
 refine DrP.bind (nD h (by omega) (by omega)) rfl fun r3 a1 a2 a3 => ?_
 refine DrP.bind (Ylm a1 (by omega)) a2 fun r5 b1 b2 b3 => ?_
 refine DrP.bind (Ylr (Pe := fun _ => True) (m := 103) b1 (by omega) ⟨b3.2.1, fun _ _ => trivial⟩) b2 fun r8 c1 c2 c3 => ?_
 have hlen := c3.1
 obtain ⟨o, e1, e2⟩ := Y51 (step := fun z : Int × List Y9j × List Y9j × Int => Z50 r8 z.1 z.2.1 z.2.2.1 z.2.2.2) (p := fun o : Int × List Y9j × List Y9j => o.2.1.length ≤ 60 ∧ o.2.2.length ≤ 20 ∧ (∀ e ∈ o.2.1, e.prev.length ≤ 10) ∧ ∀ e ∈ o.2.2, e.prev.length ≤ 10)
  (fun n (z : Int × List Y9j × List Y9j × Int) => (z.2.1.length ≤ 60 ∧ z.2.2.1.length ≤ 20 ∧ (∀ e ∈ z.2.1, e.prev.length ≤ 10) ∧ ∀ e ∈ z.2.2.1, e.prev.length ≤ 10) ∧ ∃ j : Nat, z.2.2.2 = (j : Int) ∧ j ≤ r8.1.length ∧ n = r8.1.length - j) (by
  rintro n ⟨x, l, p, y⟩ ⟨g1, j, g2, hj, rfl⟩
  simp only at g1 g2
  subst g2
  simp only [Z50]
  by_cases h1 : (j : Int) < r8.1.length
  ·
   right
   have hjl : j < r8.1.length := by omega
   rw [Wt h1, Wu, Ycw hjl, Wb, Ym6]
   have hf : Fine ⟨x, l, p⟩ := ⟨by simp only; omega, by simp only; omega, fun e he => by have := g1.2.2.1 e he; omega, fun e he => by have := g1.2.2.2 e he; omega⟩
   obtain ⟨r, r1, r2⟩ := Ym7 hf r8.1[j]
   rw [r1, Wb]
   simp only [Z4z, Z4y]
   rw [Y4y (by omega) (by omega)]
   by_cases h0 : r.code = 0
   ·
    have hk := (r2 h0).2.2.2.2.small
    rw [show (r.code == 0) = true by simp [h0], Wu]
    exact ⟨_, r8.1.length - (j + 1), rfl, by omega, hk, j + 1, by simp, by omega, rfl⟩
   ·
    rw [show (r.code == 0) = false by simp [h0], Wv]
    exact ⟨_, r8.1.length - (j + 1), rfl, by omega, g1, j + 1, by simp, by omega, rfl⟩
  ·
   left
   rw [Wf h1, Wv]
   exact ⟨_, rfl, g1⟩) big r8.1.length (1, [], [], 0) ⟨⟨by simp, by simp, by simp, by simp⟩, 0, rfl, by omega, by omega⟩ (Ycr (by omega))
 rw [e1, Wb]
 simp only [Z4x]
 refine DrP.bind (oneD c1 (by omega)) c2 fun q d1 d2 _ => ?_
 exact DrP.cond (fun _ => Yma e2.1 e2.2.1 e2.2.2.1 e2.2.2.2 (fun h => by have := Wo h; omega) d1 d2) (fun _ => Yma e2.1 e2.2.1 e2.2.2.1 e2.2.2.2 (by simp) d1 d2)
end Go.Proofs.YtomachnjepgpbaaGreat
namespace Go.Proofs.YtomachnjepgpbaaGreat
open Go Go.Abs

theorem idD {s : Y9i} (h : Yl1 s) {g : Y9k} (hg : SmG g) : DrP s (fun _ => True) (Ze5 s g) := by
 have hl := hg.elen
 have key : ∀ (q : Y9i) (b : Bool), Yl1 q → q.size = s.size → (b = true → 1 ≤ g.events.length) → DrP s (fun _ : Int => True) (Ze4 g q.b q.at_ q.mix q.size b) := fun q b q1 q2 hb => by
  simp only [Ze4]
  refine DrP.cond (fun hb1 => ?_) (fun _ => ?_)
  ·
   have := hb hb1
   refine DrP.bind (nD q1 (by omega) (by omega)) q2 fun r a1 a2 a3 => ?_
   exact DrP.get a3.1 a3.2 fun e _ => DrP.ret a1 a2 trivial
  ·
   exact DrP.bind (nD q1 (by omega) (by omega)) q2 fun r a1 a2 a3 => DrP.ret a1 a2 trivial
 unfold Ze5
 refine DrP.cond (fun h1 => ?_) (fun _ => key s false h rfl (by simp))
 have := Wo h1
 exact DrP.bind (oneD h (by omega)) rfl fun r a1 a2 _ => key r.2 _ a1 a2 (fun _ => by omega)

end Go.Proofs.YtomachnjepgpbaaGreat
namespace Go.Proofs.YtomachnjepgpbaaGreat
open Go Go.Abs

abbrev Ymc := List Int × Int × Int × Int × Int × List Y9j × List Y9j × Int
def Ymd (s : Y9i) (j : Int) (z : Ymc) : Prop := Yl1 ⟨z.1, z.2.1, z.2.2.1, z.2.2.2.1⟩ ∧ z.2.2.2.1 = s.size ∧ SmG ⟨z.2.2.2.2.1, z.2.2.2.2.2.1, z.2.2.2.2.2.2.1⟩ ∧ z.2.2.2.2.2.2.2 = j

theorem GOk.smG {g : Y9k} (h : GOk g) : SmG g := by
 obtain ⟨h1, h2, h3, h4⟩ := h.small
 exact ⟨by omega, by omega, h3, h4⟩

theorem Yme {s s' : Y9i} {x : Int} {l p : List Y9j} {j : Int} {e : Y9j} {a b c : Int} (hj : 0 < j ∧ j ≤ 10) (hg : SmG ⟨x, l, p⟩) (h1 : Yl1 s') (h2 : s'.size = s.size) :
  StP (Ymd s (j - 1)) (Z56 x l p j e a s'.b s'.at_ s'.mix s'.size b c) := by
 simp only [Z56, Z55]
 obtain ⟨r, r1, r2⟩ := Ym7 hg.fine ⟨IntKind.i64.wrap (e.id + 1), 1, 1, b, a, c, ByteArray.empty, [e.id], 0⟩
 rw [r1, Wb, Y4y (n := j - 1) (by omega) (by omega)]
 by_cases h0 : r.code = 0
 ·
  rw [show (r.code == 0) = true by simp [h0], Wu]
  exact ⟨_, rfl, h1, h2, (r2 h0).2.2.2.2.smG, rfl⟩
 ·
  rw [show (r.code == 0) = false by simp [h0], Wv]
  exact ⟨_, rfl, h1, h2, hg, rfl⟩

theorem Ymf {s : Y9i} (h : Yl1 s) : DrP s SmG (Z5a s) := by
 unfold Z5a
 refine DrP.bind (Ymb h) rfl fun r2 a1 a2 a3 => ?_
 refine DrP.bind (nD a1 (by omega) (by omega)) a2 fun r6 b1 b2 b3 => ?_
 obtain ⟨k, hk⟩ := Int.eq_ofNat_of_zero_le b3.1
 have hk5 := b3.2
 rw [hk] at hk5 ⊢
 obtain ⟨o, e1, e2⟩ := Y51 (step := fun z : Ymc => Z59 z.1 z.2.1 z.2.2.1 z.2.2.2.1 z.2.2.2.2.1 z.2.2.2.2.2.1 z.2.2.2.2.2.2.1 z.2.2.2.2.2.2.2) (p := fun o : Int × List Y9j × List Y9j × List Int × Int × Int × Int => SmG ⟨o.1, o.2.1, o.2.2.1⟩ ∧ Yl1 ⟨o.2.2.2.1, o.2.2.2.2.1, o.2.2.2.2.2.1, o.2.2.2.2.2.2⟩ ∧ o.2.2.2.2.2.2 = s.size)
  (fun n (z : Ymc) => Ymd s (n : Int) z ∧ n ≤ 10) (by
  rintro n ⟨b, a, x, sz, rm, l, p, y⟩ ⟨⟨g1, g2, g3, g4⟩, hn⟩
  simp only at g1 g2 g3 g4
  subst g4
  have hll := g3.elen
  simp only at hll
  simp only [Z59]
  by_cases h1 : (n : Int) > 0
  ·
   rw [Wt h1, Wu]
   simp only [Z58]
   by_cases h2 : (l.length : Int) > 0
   ·
    right
    rw [Wt h2, Wu, Y4y (n := (l.length : Int) - 1) (by omega) (by omega)]
    have : StP (Ymd s ((n : Int) - 1)) ((getI l ((l.length : Int) - 1)).bind fun e75 => (Z9 ⟨b, a, x, sz⟩ 4).bind fun r84 => (Z9 r84.2 3).bind fun r88 => Z57 rm l p (n : Int) e75 r88.2.b r88.2.at_ r88.2.mix r88.2.size (IntKind.i64.wrap (1 + r84.1)) (IntKind.i64.wrap (2 + r88.1))) := by
     refine StP.get (by omega) (by omega) fun e _ => ?_
     refine StP.bind (nD g1 (by omega) (by omega)) g2 fun q q1 q2 _ => ?_
     refine StP.bind (nD q1 (by omega) (by omega)) q2 fun w w1 w2 _ => ?_
     simp only [Z57]
     refine StP.bind (oneD w1 (by omega)) w2 fun u u1 u2 _ => ?_
     refine StP.cond (fun _ => ?_) (fun _ => Yme ⟨by omega, by omega⟩ g3 u1 u2)
     exact StP.bind (nD u1 (by omega) (by omega)) u2 fun v v1 v2 _ => Yme ⟨by omega, by omega⟩ g3 v1 v2
    obtain ⟨z, z1, z2⟩ := this
    refine ⟨z, n - 1, z1, by omega, ?_, by omega⟩
    rwa [show ((n - 1 : Nat) : Int) = (n : Int) - 1 by omega]
   ·
    left
    rw [Wf h2, Wv]
    exact ⟨_, rfl, g3, g1, g2⟩
  ·
   left
   rw [Wf h1, Wv]
   simp only [Z58, Wv]
   exact ⟨_, rfl, g3, g1, g2⟩) big k (r6.2.b, r6.2.at_, r6.2.mix, r6.2.size, r2.1.room, r2.1.events, r2.1.parked, (k : Int)) ⟨⟨b1, b2, a3, rfl⟩, by omega⟩ (Ycr (by omega))
 rw [e1, Wb]
 exact DrP.ret e2.2.1 e2.2.2 e2.1
end Go.Proofs.YtomachnjepgpbaaGreat
namespace Go.Proofs.YtomachnjepgpbaaGreat
open Go Go.Abs

theorem Ymg {p : List Int} (hl : p.length ≤ 1048576) : ∃ r, Z5d p = some r ∧ SmG r.1 ∧ 0 ≤ r.2 ∧ r.2 < 6 := by
 obtain ⟨s, s1, s2⟩ := Yl6 hl
 obtain ⟨g, g1, g2, g3, g4⟩ := Ymf s2
 obtain ⟨i, i1, _, _, i2⟩ := nD g2 (k := 6) (by omega) (by omega)
 unfold Z5d
 rw [s1, Wb, g1, Wb, i1, Wb]
 exact ⟨_, rfl, g4, i2.1, i2.2⟩

theorem Ymh {p : List Int} (hl : p.length ≤ 1048576) : ∃ r, Ze8 p = some r ∧ SmG r.1 := by
 obtain ⟨s, s1, s2⟩ := Yl6 hl
 obtain ⟨g, g1, g2, g3, g4⟩ := Ymf s2
 have hel := g4.elen
 have key : ∀ (q : Y9i) (b : Bool), Yl1 q → (b = true → 1 ≤ g.1.events.length) → ∃ r, Ze7 g q.b q.at_ q.mix q.size b = some r ∧ SmG r.1 := fun q b q1 hb => by
  simp only [Ze7]
  cases b with
  | true =>
   have h1 := hb rfl
   obtain ⟨n, hn⟩ : ∃ n : Nat, (g.1.events.length : Int) - 1 = n := ⟨g.1.events.length - 1, by omega⟩
   rw [Wu, Y4y (n := (g.1.events.length : Int) - 1) (by omega) (by omega), hn, Ycw (by omega : n < g.1.events.length), Wb]
   exact ⟨_, rfl, g4⟩
  | false =>
   obtain ⟨i, i1, _⟩ := idD q1 g4
   rw [Wv, i1, Wb]
   exact ⟨_, rfl, g4⟩
 unfold Ze8
 rw [s1, Wb, g1, Wb]
 by_cases h1 : (g.1.events.length : Int) > 0
 ·
  obtain ⟨i, i1, i2, _⟩ := oneD g2 (k := 2) (by omega)
  rw [Wt h1, Wu, i1, Wb]
  exact key i.2 _ i2 (fun _ => by omega)
 ·
  rw [Wf h1, Wv]
  exact key g.2 false g2 (by simp)
end Go.Proofs.YtomachnjepgpbaaGreat
namespace Go.Proofs.YtomachnjepgpbaaGreat
open Go Go.Abs

theorem Ymi : ∀ (n : Nat) {ev pk : List Y9j} {ad : List Int} {f : Y9j}, f ∈ ev → f ∈ (relE ev pk ad n).1
 | 0, _, _, _, _, h => h
 | n + 1, ev, pk, ad, f, h => by
  unfold relE
  split
  ·
   exact h
  ·
   split
   ·
    exact Ymi n (Ylu.2 (.inr h))
   ·
    exact Ymi n h

theorem Ymj {g : Y9k} {e : Y9j} (h0 : (addG g e).code = 0) (hh : hasE (addG g e).graph.events e.id = true) : e ∈ (addG g e).graph.events := by
 unfold addG at h0 hh ⊢
 by_cases h1 : hasE g.events e.id = true ∨ hasE g.parked e.id = true
 ·
  rw [if_pos h1] at h0; cases h0
 ·
  rw [if_neg h1] at h0 hh ⊢
  by_cases h2 : g.events.length ≥ 60 ∨ (Yg0 g.events e = false ∧ g.parked.length ≥ 20)
  ·
   rw [if_pos h2] at h0; cases h0
  ·
   rw [if_neg h2] at hh ⊢
   by_cases h3 : Yg0 g.events e = true
   ·
    rw [if_pos h3]
    exact Ymi 20 (Ylu.2 (.inl rfl))
   ·
    rw [if_neg h3] at hh
    exact absurd (.inl hh) h1

theorem Ymk {g : Y9k} (hk : GOk g) (hg : Fine g) {s : List Y9m} (hs : StOk g.events s) (hb : stB g.events s = true) {u : Int} (hu : 1 ≤ u ∧ u ≤ 6) : Zj8 g s u = some (mbr g.events s u) := by
 have hr := hk.right
 obtain ⟨b, b1, _, b3⟩ := Yg4 hg
 have hsl := (hr.sts hs).sl
 unfold Zj8
 rw [b1, b3.2 hk, Wb, Wu, Ykg (by have := hr.fits.len; omega) s (by omega), hb, Wb, Wu, Yd2, Wt hu, Wb]
 simp only [Zj7, Bool.not_true, Wv]
 rw [Ygv (hr.sts hs)]; rfl

theorem Yml {g : Y9k} (hk : GOk g) (hg : Fine g) {s : List Y9m} (hs : StOk g.events s) (hb : stB g.events s = true) {u : Int} (hu : 1 ≤ u ∧ u ≤ 6) : Zjb g s u = some (lvl g.events s u) := by
 have hr := hk.right
 obtain ⟨b, b1, _, b3⟩ := Yg4 hg
 have hsl := (hr.sts hs).sl
 unfold Zjb
 rw [b1, b3.2 hk, Wb, Wu, Ykg (by have := hr.fits.len; omega) s (by omega), hb, Wb, Wu, Yd2, Wt hu, Wb]
 simp only [Zja, Bool.not_true, Wv]
 rw [Ygx (hr.sts hs)]; rfl

theorem EvOk.user {e : Y9j} (h : EvOk e) (hk : e.kind = 2 ∨ e.kind = 3) : 1 ≤ e.key ∧ e.key ≤ 6 := by
 obtain ⟨_, h1, h2⟩ := h.key6 (by omega)
 have := h.ask.2 hk
 omega

end Go.Proofs.YtomachnjepgpbaaGreat
