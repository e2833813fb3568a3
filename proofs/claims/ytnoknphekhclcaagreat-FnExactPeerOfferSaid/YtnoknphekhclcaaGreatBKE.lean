/- Plain laws for the graphs: who is ahead of whom; depths rise. -/
import Derived.Test.YtnoknphekhclcaaGreatBGO
set_option autoImplicit false
set_option linter.unusedVariables false
set_option linter.unusedSimpArgs false
namespace Go.Proofs.YtnoknphekhclcaaGreat
open Go Go.Abs

inductive Bf (l : List Yaa) (a : Int) : List Int → List Int → Bool → Prop
 | nil (seen : List Int) : Bf l a seen [] false
 | hit (seen r : List Int) : Bf l a seen (a :: r) true
 | skip (seen r : List Int) (id : Int) (b : Bool) : id ≠ a → id ∈ seen → Bf l a seen r b → Bf l a seen (id :: r) b
 | more (seen r : List Int) (id : Int) (b : Bool) : id ≠ a → id ∉ seen → Bf l a (id :: seen) (r ++ (evD l id).prev) b → Bf l a seen (id :: r) b

theorem Bf.det {l : List Yaa} {a : Int} {seen todo : List Int} {b1 b2 : Bool} (h1 : Bf l a seen todo b1) (h2 : Bf l a seen todo b2) : b1 = b2 := by
 induction h1 with
 | nil => cases h2; rfl
 | hit => cases h2 <;> first | rfl | contradiction
 | skip _ _ _ _ n1 m1 _ ih =>
  cases h2 with
  | hit => exact absurd rfl n1
  | skip _ _ _ _ _ _ h => exact ih h
  | more _ _ _ _ _ m2 _ => exact absurd m1 m2
 | more _ _ _ _ n1 m1 _ ih =>
  cases h2 with
  | hit => exact absurd rfl n1
  | skip _ _ _ _ _ m2 _ => exact absurd m2 m1
  | more _ _ _ _ _ _ h => exact ih h

def Ymu (l : List Yaa) (seen : List Int) : Nat := l.countP fun e => !decide (e.id ∈ seen)
theorem Ymv {l : List Yaa} {seen : List Int} {id : Int} (hi : id ∈ l.map (·.id)) (hn : id ∉ seen) : Ymu l (id :: seen) < Ymu l seen := by
 have key : ∀ l : List Yaa, Ymu l (id :: seen) ≤ Ymu l seen ∧ (id ∈ l.map (·.id) → Ymu l (id :: seen) < Ymu l seen) := by
  intro l
  unfold Ymu
  induction l with
  | nil => simp
  | cons e l ih =>
   obtain ⟨i1, i2⟩ := ih
   by_cases he : e.id = id
   ·
    rw [List.countP_cons_of_neg (by simp [he]), List.countP_cons_of_pos (by simp [he, hn])]
    exact ⟨by omega, fun _ => by omega⟩
   ·
    by_cases hs : e.id ∈ seen
    ·
     rw [List.countP_cons_of_neg (by simp [hs]), List.countP_cons_of_neg (by simp [hs])]
     refine ⟨i1, fun h => i2 ?_⟩
     simp only [List.map_cons, List.mem_cons] at h
     exact h.resolve_left fun h => he h.symm
    ·
     rw [List.countP_cons_of_pos (by simp [hs, he]), List.countP_cons_of_pos (by simp [hs])]
     refine ⟨by omega, fun h => ?_⟩
     simp only [List.map_cons, List.mem_cons] at h
     have := i2 (h.resolve_left fun h => he h.symm)
     omega
 exact (key l).2 hi
theorem Ymw (l : List Yaa) (seen : List Int) : Ymu l seen ≤ l.length := List.countP_le_length

structure Walk (g : Yaf) : Prop where
 fits : Fits g.events
 ev : ∀ e ∈ g.events, EvOk e

theorem Walk.prev {g : Yaf} (h : Walk g) {id : Int} (hi : id ∈ g.events.map (·.id)) : (evD g.events id).prev.length ≤ 4 ∧ ∀ p ∈ (evD g.events id).prev, p ∈ g.events.map (·.id) := by
 obtain ⟨_, h2, _⟩ := Ymn hi h.fits.up
 refine ⟨(h.ev _ h2).prev.1, fun p hp => ?_⟩
 obtain ⟨e, he, hid⟩ := Yij.1 (h.fits.whole _ h2 p hp)
 exact List.mem_map.2 ⟨e, he, hid⟩

theorem Ymx {l : List Yaa} {id : Int} : hasE l id = true ↔ id ∈ l.map (·.id) := by rw [Yij, List.mem_map]

theorem Zn4 {g : Yaf} (h : Walk g) (a : Int) {e : Yaa} (he : e ∈ g.events) : ∃ b, Zgj g a e = some b ∧ Bf g.events a [] e.prev b := by
 have hfl := h.fits.len
 have hev : evD g.events e.id = e := by unfold evD; rw [h.fits.up.evAt_mem he]; rfl
 have hpe := h.prev (List.mem_map.2 ⟨e, he, rfl⟩)
 rw [hev] at hpe
 unfold Zgj
 have hcl : Zgd e.prev = some e.prev := by unfold Zgd; rw [chk8 (by omega)]; rfl
 rw [hcl, Wb]
 obtain ⟨o, h1, h2⟩ := Y51 (step := fun z : List (Int × Bool) × List Int × Int => Zgi g a z.1 z.2.1 z.2.2) (p := fun o : Bool ⊕ Unit => ∃ b, Bf g.events a [] e.prev b ∧ ((o = .inl true ∧ b = true) ∨ (o = .inr () ∧ b = false)))
  (fun k (z : List (Int × Bool) × List Int × Int) => ∃ (seen : List Int) (at_ : Nat), z.2.2 = (at_ : Int) ∧ at_ ≤ z.2.1.length ∧ (∀ id, Option.getD (mget z.1 id) false = true ↔ id ∈ seen) ∧ (∀ id ∈ z.2.1, id ∈ g.events.map (·.id)) ∧ z.2.1.length + 5 * Ymu g.events seen ≤ 400 ∧ (∀ b, Bf g.events a seen (z.2.1.drop at_) b → Bf g.events a [] e.prev b) ∧ k = (z.2.1.length - at_) + 5 * Ymu g.events seen) (by
  rintro k ⟨m, q, x⟩ ⟨seen, at_, hx, hat, hm, hq, hb, hB, hk⟩
  simp only at hx hat hm hq hb hB hk
  subst hx
  simp only [Zgi]
  by_cases hlt : at_ < q.length
  ·
   rw [dlt hlt, Wu, Yhg hlt, Wb, beqd]
   rw [List.drop_eq_getElem_cons hlt] at hB
   have hqi := hq _ (Wm hlt)
   generalize q[at_] = id at hB hqi
   by_cases ha : id = a
   ·
    left
    rw [Wt ha, Wu]
    subst ha
    exact ⟨_, rfl, true, hB _ (.hit _ _), .inl ⟨rfl, rfl⟩⟩
   ·
    right
    rw [Wf ha, Wv]
    simp only [Zgh, Yhh hlt (by omega : q.length < 9223372036854775807)]
    by_cases hs : Option.getD (mget m id) false = true
    ·
     rw [hs, Wu]
     exact ⟨_, k - 1, rfl, by omega, seen, at_ + 1, rfl, by simp only; omega, hm, hq, hb, fun b h => hB b (.skip _ _ _ _ ha ((hm id).1 hs) h), by simp only; omega⟩
    ·
     rw [Bool.eq_false_iff.2 hs, Wv, c_at _ _ h.fits.up (by omega), Wb]
     have hns : id ∉ seen := fun h => hs ((hm id).2 h)
     have hp := h.prev hqi
     have hu := Ymv hqi hns
     have e1 : (evAt g.events id).getD zEv = evD g.events id := rfl
     rw [e1, chk8 (by show q.length + (evD g.events id).prev.length < 1000000000; omega), Wb]
     refine ⟨_, (q.length + (evD g.events id).prev.length - (at_ + 1)) + 5 * Ymu g.events (id :: seen), rfl, by omega, id :: seen, at_ + 1, rfl, by simp; omega, fun id' => ?_, fun id' hid => ?_, by simp; omega, fun b h => hB b ?_, by simp⟩
     ·
      rw [Y6o]
      by_cases h3 : id' = id
      ·
       rw [if_pos h3]; simp [h3]
      ·
       rw [if_neg h3, hm]; simp [h3]
     ·
      rcases List.mem_append.1 hid with hid | hid
      ·
       exact hq _ hid
      ·
       exact hp.2 _ hid
     ·
      refine .more _ _ _ _ ha hns ?_
      simp only at h
      rwa [List.drop_append_of_le_length (by omega)] at h
  ·
   left
   obtain rfl : at_ = q.length := by omega
   rw [dnlt, Wv]
   rw [List.drop_length] at hB
   exact ⟨_, rfl, false, hB _ (.nil _), .inr ⟨rfl, rfl⟩⟩) big (e.prev.length + 5 * Ymu g.events []) ([], e.prev, 0) ⟨[], 0, rfl, by simp, by simp [mget], hpe.2, by have := Ymw g.events []; simp only; omega, by simp, by simp⟩ (Yhb (by have := Ymw g.events []; omega))
 obtain ⟨b, hb, h2⟩ := h2
 rw [h1, Wb]
 rcases h2 with ⟨rfl, rfl⟩ | ⟨rfl, rfl⟩
 ·
  exact ⟨true, rfl, hb⟩
 ·
  exact ⟨false, rfl, hb⟩

theorem Ymy (e : Yaa) (h : e.prev.length < 1000000) : Z5x e = some e := by
 unfold Z5x
 rw [chk8 (by simp; omega), Wb]
 rfl

theorem Ymz {g : Yaf} (hl : g.events.length < 1000000) {e : Yaa} {id : Int} (he : evAt g.events id = some e) (hp : e.prev.length < 1000000) : Z5z g id = some e := by
 unfold Z5z
 obtain ⟨h1, h2⟩ := Ylc he
 rw [Yid _ _ (by omega), Wb, Wf (by omega), Wv, h1, Wb, Ymy _ hp]; rfl

theorem Zn5 {g : Yaf} (h : Walk g) (a : Int) (ha : a ∈ g.events.map (·.id)) {e : Yaa} (he : e ∈ g.events) : ∃ b, Z64 g a e.id = some b ∧ Bf g.events a [] e.prev b := by
 have hfl := h.fits.len
 have hee := h.fits.up.evAt_mem he
 have hev : evD g.events e.id = e := by unfold evD; rw [hee]; rfl
 have hpe := h.prev (List.mem_map.2 ⟨e, he, rfl⟩)
 rw [hev] at hpe
 unfold Z64
 rw [Yid _ _ (by omega), Wb, Yif, Ymx.2 ha, Yid _ _ (by omega), Wb, Yif, Yii he]
 simp only [Bool.not_true, Wv, Z63]
 rw [Y4z (Wt ⟨by omega, by omega⟩), Wb, Ymz (by omega) hee (by omega), Wb, chk8 (by simp; omega), Wb, Int.toNat_natCast, List.nil_append]
 obtain ⟨o, h1, h2⟩ := Y51 (step := fun z : List Bool × List Int => Z62 g a z.1 z.2) (p := fun o : Bool ⊕ Unit => ∃ b, Bf g.events a [] e.prev b ∧ ((o = .inl true ∧ b = true) ∨ (o = .inr () ∧ b = false)))
  (fun k (z : List Bool × List Int) => ∃ (seen : List Int), z.1.length = g.events.length ∧ (∀ id ∈ g.events.map (·.id), getI z.1 (plc g.events id) = some (decide (id ∈ seen))) ∧ (∀ id ∈ z.2, id ∈ g.events.map (·.id)) ∧ z.2.length + 5 * Ymu g.events seen ≤ 400 ∧ (∀ b, Bf g.events a seen z.2 b → Bf g.events a [] e.prev b) ∧ k = z.2.length + 5 * Ymu g.events seen) (by
  rintro k ⟨m, q⟩ ⟨seen, hml, hm, hq, hb, hB, hk⟩
  simp only at hml hm hq hb hB hk
  simp only [Z62]
  cases q with
  | nil =>
   left
   exact ⟨_, rfl, false, hB _ (.nil _), .inr ⟨rfl, rfl⟩⟩
  | cons id r =>
   have hqi := hq id (by simp)
   obtain ⟨i1, i2, i3⟩ := Ymn hqi h.fits.up
   rw [Wt (by simp <;> omega), Wu, show (0 : Int) = ((0 : Nat) : Int) from rfl, Yhg (by simp), Wb, Y4z (Wt (by simp <;> omega)), Wb, Yid _ _ (by omega), Wb]
   simp only [List.getElem_cons_zero, List.length_cons] at hk hb ⊢
   rw [beqd]
   by_cases ha : id = a
   ·
    left
    rw [Wt ha, Wu]
    subst ha
    exact ⟨_, rfl, true, hB _ (.hit _ _), .inl ⟨rfl, rfl⟩⟩
   ·
    right
    rw [Wf ha, Wv, hm id hqi, Wb]
    by_cases hs : id ∈ seen
    ·
     rw [Wt hs, Wu]
     exact ⟨_, k - 1, rfl, by omega, seen, hml, hm, fun id' h => hq id' (by simp at h; simp [h]), by simp; omega, fun b h => hB b (.skip _ _ _ _ ha hs (by simpa using h)), by simp; omega⟩
    ·
     have hp := h.prev hqi
     have hu := Ymv hqi hs
     rw [Wf hs, Wv, (Ylc i1).1, Wb, chk8 (by simp; omega), Wb]
     refine ⟨_, r.length + (evD g.events id).prev.length + 5 * Ymu g.events (id :: seen), rfl, by omega, id :: seen, by simp [hml], fun id' hid => ?_, fun id' hid => ?_, by simp; omega, fun b h => hB b (.more _ _ _ _ ha hs (by simpa using h)), by simp⟩
     ·
      obtain ⟨p, hpl, p1, p2, p3⟩ := Yig (Ymx.2 hid)
      obtain ⟨p', hpl', p1', p2', p3'⟩ := Yig (Ymx.2 hqi)
      rw [p1, p1', Int.toNat_natCast]
      have hm' := hm id' hid
      rw [p1] at hm'
      by_cases h3 : id' = id
      ·
       subst h3
       obtain rfl : p = p' := by omega
       rw [Yhg (by simp; omega)]
       simp
      ·
       have hne : p' ≠ p := fun h => by subst h; exact h3 (p2.symm.trans p2')
       rw [Yhg (by omega)] at hm'
       rw [Yhg (by simp; omega), List.getElem_set_ne hne]
       rw [hm']
       simp [h3]
     ·
      simp at hid
      rcases hid with hid | hid
      ·
       exact hq _ (by simp [hid])
      ·
       exact hp.2 _ hid) big (e.prev.length + 5 * Ymu g.events []) (List.replicate g.events.length false, e.prev) ⟨[], by simp, fun id hid => by
   obtain ⟨p, hpl, p1, _, _⟩ := Yig (Ymx.2 hid)
   rw [p1, Yhg (by simpa using hpl)]; simp, hpe.2, by have := Ymw g.events []; simp only; omega, by simp, by simp⟩ (Yhb (by have := Ymw g.events []; omega))
 obtain ⟨b, hb, h2⟩ := h2
 rw [h1, Wb]
 rcases h2 with ⟨rfl, rfl⟩ | ⟨rfl, rfl⟩
 ·
  exact ⟨true, rfl, hb⟩
 ·
  exact ⟨false, rfl, hb⟩

theorem Bf.none {g : Yaf} (h : Walk g) {a : Int} (ha : a ∉ g.events.map (·.id)) {seen todo : List Int} {b : Bool} (hb : Bf g.events a seen todo b) (ht : ∀ id ∈ todo, id ∈ g.events.map (·.id)) : b = false := by
 induction hb with
 | nil => rfl
 | hit => exact absurd (ht a (by simp)) ha
 | skip _ _ _ _ _ _ _ ih => exact ih fun id hid => ht id (by simp [hid])
 | more _ r id _ _ _ _ ih =>
  refine ih fun id' hid => ?_
  rcases List.mem_append.1 hid with hid | hid
  ·
   exact ht id' (by simp [hid])
  ·
   exact (h.prev (ht id (by simp))).2 _ hid

theorem Yn0 {g : Yaf} (h : Walk g) (a : Int) {e : Yaa} (he : e ∈ g.events) : ∃ b, Z64 g a e.id = some b ∧ Zgj g a e = some b := by
 obtain ⟨b, h1, h2⟩ := Zn4 h a he
 by_cases ha : a ∈ g.events.map (·.id)
 ·
  obtain ⟨b', h3, h4⟩ := Zn5 h a ha he
  have := h2.det h4
  subst this
  exact ⟨b, h3, h1⟩
 ·
  have hpe := h.prev (List.mem_map.2 ⟨e, he, rfl⟩)
  have hev : evD g.events e.id = e := by unfold evD; rw [h.fits.up.evAt_mem he]; rfl
  rw [hev] at hpe
  have := h2.none h ha hpe.2
  subst this
  refine ⟨false, ?_, h1⟩
  have hfl := h.fits.len
  unfold Z64
  rw [Yid _ _ (by omega), Wb, Yif, Bool.eq_false_iff.2 (fun hh => ha (Ymx.1 hh))]
  rfl


def Cons (l : List Yaa) (d : List Int) : Prop := ∀ (i : Nat) (hi : i < l.length), d.getD i 0 > 0 → own l d l[i] = d.getD i 0

theorem Yn1 {l : List Yaa} {d : List Int} {e : Yaa} (h : own l d e > 0) : e.prev.all (fun p => decide (dOf l d p > 0)) = true := by
 unfold own at h
 split at h
 ·
  assumption
 ·
  omega

theorem Yn2 {f g : Int → Int → Int} : ∀ {l : List Int} {m : Int}, (∀ m, ∀ p ∈ l, f m p = g m p) → l.foldl f m = l.foldl g m
 | [], _, _ => rfl
 | p :: l, m, h => by rw [List.foldl_cons, List.foldl_cons, h m p (by simp)]; exact Yn2 fun m q hq => h m q (by simp [hq])

theorem Yn3 {l : List Yaa} {d : List Int} (hd : d.length = l.length) (hw : Whole l) {i : Nat} {v : Int} (h0 : d.getD i 0 = 0) {e : Yaa} (he : e ∈ l) (h : own l d e > 0) : own l (d.set i v) e = own l d e := by
 have hp := Yn1 h
 have hsame : ∀ p ∈ e.prev, dOf l (d.set i v) p = dOf l d p := fun p hp' => by
  have h1 := Wo (List.all_eq_true.1 hp p hp')
  obtain ⟨k, hk, k1, _, _⟩ := Yig (hw e he p hp')
  unfold dOf at h1 ⊢
  rw [k1] at h1 ⊢
  have hkd : k < d.length := by omega
  rw [Yhg hkd] at h1
  rw [Yhg (by simpa using hkd), Yhg hkd]
  by_cases hik : i = k
  ·
   subst hik
   simp only [List.getD_eq_getElem?_getD, We hkd, Option.getD_some] at h0
   simp only [Option.getD_some] at h1
   omega
  ·
   rw [List.getElem_set_ne hik]
 unfold own
 have e1 : e.prev.all (fun p => decide (dOf l (d.set i v) p > 0)) = e.prev.all (fun p => decide (dOf l d p > 0)) := by
  rw [Bool.eq_iff_iff, List.all_eq_true, List.all_eq_true]
  constructor
  ·
   intro h2 p hp'; have := h2 p hp'; rwa [hsame p hp'] at this
  ·
   intro h2 p hp'; rw [hsame p hp']; exact h2 p hp'
 rw [e1, Yn2 fun m p hp' => by rw [hsame p hp']]

theorem Cons.upd {l : List Yaa} {d : List Int} {c i : Nat} (hw : Whole l) (hb : Bd l c d) (hi : i < l.length) (h : Cons l d) : Cons l (updD l d i) := by
 rcases Yj5 hb hi with h1 | ⟨h1, h2, h3, _⟩
 ·
  rw [h1]; exact h
 ·
  rw [h3]
  have e2 : l.getD i zEv = l[i] := by simp [hi]
  rw [e2] at h2 ⊢
  intro j hj hpos
  have hjd : j < d.length := by rw [hb.len]; exact hj
  have hid : i < d.length := by rw [hb.len]; exact hi
  by_cases hij : i = j
  ·
   subst hij
   rw [Yn3 hb.len hw h1 (Wm hi) h2]
   simp [hid]
  ·
   have e3 : (d.set i (own l d l[i])).getD j 0 = d.getD j 0 := by
    simp only [List.getD_eq_getElem?_getD, List.getElem?_set_ne hij]
   rw [e3] at hpos ⊢
   have h4 := h j hj hpos
   rw [Yn3 hb.len hw h1 (Wm hj) (by omega)]
   exact h4

theorem Cons.sweep {l : List Yaa} {d : List Int} {c : Nat} (hw : Whole l) (hb : Bd l c d) (h : Cons l d) : Cons l (sweep l d) := by
 unfold Go.Proofs.YtnoknphekhclcaaGreat.sweep
 suffices key : ∀ (r : List Nat) (c : Nat) (d : List Int), (∀ i ∈ r, i < l.length) → Bd l c d → Cons l d → Cons l (r.foldl (updD l) d) from key _ c d (fun i hi => by simpa using hi) hb h
 intro r
 induction r with
 | nil => intro c d _ _ h; exact h
 | cons i r ih =>
  intro c d hr hb h
  rw [List.foldl_cons]
  exact ih (c + 1) _ (fun j hj => hr j (by simp [hj])) (Yj1 hw hb (hr i (by simp))) (h.upd hw hb (hr i (by simp)))

theorem Yn4 {l : List Yaa} (hf : Fits l) : Cons l (Yix l) := by
 unfold Yix
 have hz : Bd l 0 (List.replicate l.length 0) := ⟨by simp, fun x hx => by rw [List.eq_of_mem_replicate hx]; simp⟩
 have key : ∀ k, k ≤ l.length → Cons l (Yiw l k (List.replicate l.length 0)) := by
  intro k
  induction k with
  | zero =>
   intro _ i hi h
   simp [Yiw, hi] at h
  | succ k ih =>
   intro hk
   exact (ih (by omega)).sweep hf.whole (Yj9 hf hz k (by omega))
 exact key _ (Nat.le_refl _)

theorem Yn5 (a b : Int) : a ≤ mx2 a b ∧ b ≤ mx2 a b := by unfold mx2; split <;> omega
theorem Yn6 {l : List Yaa} (hf : Fits l) (hd : Deep l) {e : Yaa} (he : e ∈ l) {p : Int} (hp : p ∈ e.prev) : dOf l (Yix l) p < dOf l (Yix l) e.id := by
 obtain ⟨i, hi, rfl⟩ := List.mem_iff_getElem.1 he
 have hb := (Yj3 hf).2
 have hid : i < (Yix l).length := by rw [hb.len]; exact hi
 have e1 : dOf l (Yix l) l[i].id = (Yix l)[i] := by
  unfold dOf
  rw [(hf.up.plc hi).1, Yhg hid]; rfl
 have e2 : (Yix l).getD i 0 = (Yix l)[i] := by simp [hid]
 have hpos := hd _ (Wm hid)
 have hc := Yn4 hf i hi (by rw [e2]; exact hpos)
 rw [e2] at hc
 rw [e1]
 have ha := Yn1 (l := l) (d := Yix l) (e := l[i]) (by omega)
 unfold own at hc
 rw [if_pos ha] at hc
 have hmx : ∀ (ps : List Int) (m : Int), p ∈ ps → dOf l (Yix l) p ≤ ps.foldl (fun m p => mx2 m (dOf l (Yix l) p)) m := by
  intro ps
  have hmono : ∀ (ps : List Int) (m : Int), m ≤ ps.foldl (fun m p => mx2 m (dOf l (Yix l) p)) m := by
   intro ps
   induction ps with
   | nil => intro m; exact Int.le_refl _
   | cons q ps ih => intro m; rw [List.foldl_cons]; have := ih (mx2 m (dOf l (Yix l) q)); have := (Yn5 m (dOf l (Yix l) q)).1; omega
  induction ps with
  | nil => intro m h; cases h
  | cons q ps ih =>
   intro m h
   rw [List.foldl_cons]
   rcases List.mem_cons.1 h with rfl | h
   ·
    have := hmono ps (mx2 m (dOf l (Yix l) p)); have := (Yn5 m (dOf l (Yix l) p)).2; omega
   ·
    exact ih _ h
 have := hmx _ 0 hp
 omega
end Go.Proofs.YtnoknphekhclcaaGreat
namespace Go.Proofs.YtnoknphekhclcaaGreat
open Go Go.Abs

theorem Yn7 {τ1 τ2 ω1 ω2 σ1 σ2 : Type} {step1 : τ1 → Option (τ1 ⊕ ω1)} {step2 : τ2 → Option (τ2 ⊕ ω2)} {n : Nat} (emb1 : σ1 → Int → τ1) (emb2 : σ2 → Int → τ2) (I : Nat → σ1 → σ2 → Prop) (Q : ω1 → ω2 → Prop) (hn : n < 9223372036854775807)
  (h1 : ∀ (i : Nat) (s : σ1) (t : σ2), i < n → I i s t → ∃ s' t', step1 (emb1 s i) = some (.inl (emb1 s' ((i + 1 : Nat) : Int))) ∧ step2 (emb2 t i) = some (.inl (emb2 t' ((i + 1 : Nat) : Int))) ∧ I (i + 1) s' t')
  (h2 : ∀ s t, I n s t → ∃ o o', step1 (emb1 s n) = some (.inr o) ∧ step2 (emb2 t n) = some (.inr o') ∧ Q o o') {s : σ1} {t : σ2} (h0 : I 0 s t) :
  ∃ o o', iter step1 big (emb1 s 0) = some o ∧ iter step2 big (emb2 t 0) = some o' ∧ Q o o' := by
 have key : ∀ m i k : Nat, ∀ s t, i + m = n → m < k → I i s t → ∃ o o', iter step1 k (emb1 s i) = some o ∧ iter step2 k (emb2 t i) = some o' ∧ Q o o' := by
  intro m
  induction m with
  | zero =>
   intro i k s t hm hk hi
   obtain ⟨k, rfl⟩ : ∃ k', k = k' + 1 := ⟨k - 1, by omega⟩
   obtain rfl : i = n := by omega
   obtain ⟨o, o', e1, e2, hq⟩ := h2 s t hi
   exact ⟨o, o', by rw [iter, e1]; rfl, by rw [iter, e2]; rfl, hq⟩
  | succ m ih =>
   intro i k s t hm hk hi
   obtain ⟨k, rfl⟩ : ∃ k', k = k' + 1 := ⟨k - 1, by omega⟩
   obtain ⟨s', t', e1, e2, hi'⟩ := h1 i s t (by omega) hi
   obtain ⟨o, o', f1, f2, hq⟩ := ih (i + 1) k s' t' (by omega) (by omega) hi'
   exact ⟨o, o', by rw [iter, e1]; exact f1, by rw [iter, e2]; exact f2, hq⟩
 exact key n 0 big s t (by omega) (Yhb (by omega)) h0


theorem Yn8 {l : List Yaa} {k : Nat} (hk : k < l.length) : idPl l (k : Int) = l[k].id := by unfold idPl; simp [hk]
theorem Yn9 {l : List Yaa} (hf : Fits l) {k : Nat} (hk : k < l.length) : dd (Yix l) (k : Int) = dOf l (Yix l) l[k].id := by
 have hb := (Yj3 hf).2
 have hkd : k < (Yix l).length := by rw [hb.len]; exact hk
 unfold dd dOf
 rw [(hf.up.plc hk).1, Yhg hkd]
 simp [hkd]

theorem Yna {l : List Yaa} (hf : Fits l) {k : Nat} (hk : k < l.length) : (k : Int) ∈ Yk5 l := by
 refine (Yk7 hf).2.1.mem_iff.2 ?_
 unfold idt
 exact List.mem_map.2 ⟨k, List.mem_range'_1.2 ⟨by omega, by omega⟩, rfl⟩

theorem Ynb {l : List Yaa} (hf : Fits l) : (Yk6 l).length = l.length := by unfold Yk6; rw [List.length_map, Yk9 hf]
theorem Ync {l : List Yaa} (hf : Fits l) {id : Int} : id ∈ Yk6 l ↔ id ∈ l.map (·.id) := by
 unfold Yk6
 rw [List.mem_map, List.mem_map]
 constructor
 ·
  rintro ⟨x, hx, rfl⟩
  obtain ⟨k, rfl, hk⟩ := Yk8 hf hx
  exact ⟨l[k], Wm hk, (Yn8 hk).symm⟩
 ·
  rintro ⟨e, he, rfl⟩
  obtain ⟨k, hk, rfl⟩ := List.mem_iff_getElem.1 he
  exact ⟨(k : Int), Yna hf hk, Yn8 hk⟩
theorem Ynd {l : List Yaa} (hf : Fits l) : (Yk6 l).Nodup := by
 unfold Yk6
 rw [List.nodup_iff_pairwise_ne, List.pairwise_map]
 refine List.Pairwise.imp_of_mem (fun {a b} ha hb hab he => ?_) (Yk7 hf).2.2
 obtain ⟨i, rfl, hi⟩ := Yk8 hf ha
 obtain ⟨j, rfl, hj⟩ := Yk8 hf hb
 rw [Yn8 hi, Yn8 hj] at he
 obtain rfl := hf.up.inj hi hj he
 unfold Lt2 at hab; omega

theorem Yne {l : List Yaa} {i : Nat} (h1 : i < (Yk5 l).length) (h2 : i < (Yk6 l).length) : (Yk6 l)[i] = idPl l (Yk5 l)[i] := List.getElem_map _
theorem Ynf {l : List Yaa} (hf : Fits l) (hd : Deep l) {i : Nat} (hi : i < (Yk6 l).length) {e : Yaa} (he : evAt l (Yk6 l)[i] = some e) {p : Int} (hp : p ∈ e.prev) : p ∈ (Yk6 l).take i := by
 obtain ⟨hel, hid⟩ := Yik he
 obtain ⟨f, hfl, hfid⟩ := Yij.1 (hf.whole e hel p hp)
 obtain ⟨k, hk, rfl⟩ := List.mem_iff_getElem.1 hfl
 obtain ⟨u, hu, huk⟩ := List.mem_iff_getElem.1 (Yna hf hk)
 have hlt := Yn6 hf hd hel hp
 have hil : i < (Yk5 l).length := by rw [Yk9 hf]; rw [Ynb hf] at hi; exact hi
 obtain ⟨x, hx, hxl⟩ := Yk8 hf (Wm hil)
 have e1 : (Yk6 l)[i] = l[x].id := by
  rw [Yne hil hi, hx, Yn8 hxl]
 have d1 := Yn9 hf hxl
 have d2 := Yn9 hf hk
 rw [← e1, ← hid] at d1
 rw [hfid] at d2
 have hui : u < i := by
  rcases Nat.lt_trichotomy u i with h | h | h
  ·
   exact h
  ·
   subst h
   rw [hx] at huk
   have : x = k := by omega
   subst this
   omega
  ·
   have := List.pairwise_iff_getElem.1 (Yk7 hf).2.2 i u hil hu h
   rw [hx, huk] at this
   unfold Lt2 at this; omega
 have hul : u < (Yk6 l).length := by omega
 have e2 : (Yk6 l)[u] = p := by
  rw [Yne hu hul, huk, Yn8 hk, hfid]
 have : ((Yk6 l).take i)[u]'(by simp; omega) = p := by simp [e2]
 rw [← this]
 exact Wm _


def Yng (g : Yaf) (a : Int) (e : Yaa) : Bool := (Zgj g a e).getD false
def Ynh (g : Yaf) (s : List Yai) (e : Yaa) : Int := if alw g s e = 0 ∧ e.kind = 8 ∧ Yng g e.key e = false then 6 else alw g s e
def Yni (g : Yaf) (s : List Yai) (e : Yaa) : List Yai := if Ynh g s e = 0 ∧ e.kind ≤ 6 then putE s e else s

theorem Ynj {g : Yaf} (hu : Up2 g.events) {s : List Yai} (hs : StOk g.events s) {e : Yaa} (he : e ∈ g.events) : StOk g.events (Yni g s e) := by
 unfold Yni
 split
 ·
  exact hs.put (hu.evAt_mem he)
 ·
  exact hs

structure Ynk (g : Yaf) (ls : Int → List Yai) (B A : List (Int × List Yai)) (R : List (Int × Int)) (ah bh : List (List Yai)) (cd : List Int) (e : Yaa) : Prop where
 ok : StOk g.events (Ymr g (e.prev.map ls))
 mB : mget B e.id = some (Ymr g (e.prev.map ls))
 mR : mget R e.id = some (Ynh g (Ymr g (e.prev.map ls)) e)
 mA : mget A e.id = some (Yni g (Ymr g (e.prev.map ls)) e)
 ga : getI ah (plc g.events e.id) = some (Ymr g (e.prev.map ls))
 gc : getI cd (plc g.events e.id) = some (Ynh g (Ymr g (e.prev.map ls)) e)
 gb : getI bh (plc g.events e.id) = some (Yni g (Ymr g (e.prev.map ls)) e)

def behI (A : List (Int × List Yai)) (id : Int) : List Yai := Option.getD (mget A id) []

structure Ynl (g : Yaf) : Prop where
 fits : Fits g.events
 ev : ∀ e ∈ g.events, EvOk e
 deep : Deep g.events
theorem GOk.right {g : Yaf} (h : GOk g) : Ynl g := ⟨h.fits, fun e he => (h.ev e he).1, h.deep⟩
theorem Ynl.walk {g : Yaf} (h : Ynl g) : Walk g := ⟨h.fits, h.ev⟩

theorem Ynm {g : Yaf} (h : Ynl g) (a : Int) {e : Yaa} (he : e ∈ g.events) : Z64 g a e.id = some (Yng g a e) ∧ Zgj g a e = some (Yng g a e) := by
 obtain ⟨b, h1, h2⟩ := Yn0 h.walk a he
 unfold Yng
 rw [h1, h2]
 exact ⟨rfl, rfl⟩

theorem Ynn {α : Type} {l : List α} {k j : Nat} {v : α} (hk : k < l.length) : getI (l.set k v) (j : Int) = if j = k then some v else getI l (j : Int) := by
 have h0 : (0 : Int) ≤ (j : Int) := by omega
 simp only [getI, h0, if_true, Int.toNat_natCast]
 by_cases h : j = k
 ·
  subst h; rw [if_pos rfl, List.getElem?_set_self hk]
 ·
  rw [if_neg h, List.getElem?_set_ne (by omega)]

theorem Zn6 {h : Yan} (hr : Ynl h.graph) (hk : Yms h) {e : Yaa} (he : e ∈ h.graph.events) (hpl : ∀ p ∈ e.prev, StOk h.graph.events (behI h.after p)) :
  Zgo h e = some (mset h.before e.id (Ymr h.graph (e.prev.map (behI h.after))), mset h.after e.id (Yni h.graph (Ymr h.graph (e.prev.map (behI h.after))) e), mset h.refused e.id (Ynh h.graph (Ymr h.graph (e.prev.map (behI h.after))) e)) := by
 have hp4 := (hr.ev e he).prev.1
 have hst : Zdv h e.prev = some (e.prev.map (behI h.after)) := by
  unfold Zdv
  have := Yhx (l := e.prev) (step := fun z : List (List Yai) × Int => Zdu h e.prev z.1 z.2) (fun q j => (q, j)) (fun q => q) (fun q p => q ++ [behI h.after p]) (fun i q => q.length = i) (by omega) (fun i q hi hq => by
   refine ⟨?_, by simp [hq]⟩
   simp only [Zdu]
   rw [dlt hi, Wu, Yhg hi, Wb, Ykt (by simp; omega), Wb, Yhh hi (by omega)]; rfl)
   (fun q _ => by simp only [Zdu]; rw [dnlt, Wv]) (s := []) rfl
  have e1 : ∀ (r : List Int) (q : List (List Yai)), r.foldl (fun q p => q ++ [behI h.after p]) q = q ++ r.map (behI h.after) := by
   intro r
   induction r with
   | nil => intro q; simp
   | cons p r ih => intro q; rw [List.foldl_cons, ih]; simp
  rw [this.1, e1]; rfl
 have hm : Mrg h.graph (e.prev.map (behI h.after)) := ⟨hr.fits, hr.ev, hr.deep, fun s hs => by obtain ⟨p, hp, rfl⟩ := List.mem_map.1 hs; exact hpl p hp, by simp; omega⟩
 obtain ⟨_, c2, c3⟩ := Ymt hm hk
 unfold Zgo
 rw [hst, Wb, c2, Wb, (Yln (hm.sts c3) (hr.ev e he).ask).2, Wb, (Ynm hr _ he).2, beqd, beqd]
 have hsl := hm.slen c3
 generalize Ymr h.graph (e.prev.map (behI h.after)) = s at c3 hsl
 have hid := (hr.ev e he).id.1
 have hput := Yl7 c3.up (Yai.mk e.kind e.key e.id) (by simp only; omega) (by omega)
 simp only [Zgn, Zgm, Zgl, Wb, hput, Y6p, beqd]
 unfold Yni Ynh putE
 by_cases h1 : alw h.graph s e = 0
 ·
  by_cases h2 : e.kind = 8
  ·
   cases h3 : Yng h.graph e.key e with
   | false => simp [h1, h2]
   | true => simp [h1, h2]
  ·
   by_cases h4 : e.kind ≤ 6
   ·
    simp [h1, h2, h4]
   ·
    simp [h1, h2, h4]
 ·
  simp [h1]
end Go.Proofs.YtnoknphekhclcaaGreat
namespace Go.Proofs.YtnoknphekhclcaaGreat
open Go Go.Abs

theorem Yno {α β : Type} (f : α → β) : ∀ (r : List α) (q : List β), r.foldl (fun q p => q ++ [f p]) q = q ++ r.map f
 | [], q => by simp
 | p :: r, q => by rw [List.foldl_cons, Yno f r]; simp

theorem Zn7 {g : Yaf} (hr : Ynl g) {od : List Int} {ah bh : List (List Yai)} {cd : List Int} (ls : Int → List Yai) {i : Nat} (hi : i < od.length) (hil : i < g.events.length) {k : Nat} (hk : k < g.events.length) (hid : od[i] = g.events[k].id)
  (la : ah.length = g.events.length) (lb : bh.length = g.events.length) (lc : cd.length = g.events.length) (hpl : ∀ p ∈ g.events[k].prev, StOk g.events (ls p) ∧ getI bh (plc g.events p) = some (ls p)) :
  Z6d g (Yix g.events) od ah bh cd (i : Int) = some (.inl (ah.set k (Ymr g (g.events[k].prev.map ls)), bh.set k (Yni g (Ymr g (g.events[k].prev.map ls)) g.events[k]), cd.set k (Ynh g (Ymr g (g.events[k].prev.map ls)) g.events[k]), ((i + 1 : Nat) : Int))) := by
 have hfl := hr.fits.len
 have he : g.events[k] ∈ g.events := Wm hk
 have hev := hr.ev _ he
 have hp4 := hev.prev.1
 have hplc := (hr.fits.up.plc hk).1
 simp only [Z6d]
 rw [dlt hil, Wu, Yhg hi, Wb, hid, Yid _ _ (by omega), Wb, hplc, Yhg hk, Wb]
 generalize g.events[k] = e at *
 have h7 := Yhx (l := e.prev) (step := fun z : List (List Yai) × Int => Z6c g bh e z.1 z.2) (fun q j => (q, j)) (fun q => q) (fun q p => q ++ [ls p]) (fun i q => q.length = i) (by omega) (fun i q hi hq => by
  refine ⟨?_, by simp [hq]⟩
  simp only [Z6c]
  rw [dlt hi, Wu, Yhg hi, Wb, Yid _ _ (by omega), Wb, (hpl _ (Wm hi)).2, Wb, Ykt (by simp; omega), Wb, Yhh hi (by omega)])
  (fun q _ => by simp only [Z6c]; rw [dnlt, Wv]) (s := []) rfl
 rw [h7.1, Yno, Wb, List.nil_append]
 have hm : Mrg g (e.prev.map ls) := ⟨hr.fits, hr.ev, hr.deep, fun s hs => by obtain ⟨p, hp, rfl⟩ := List.mem_map.1 hs; exact (hpl p hp).1, by simp; omega⟩
 -- any history that knows the depths
 have hkn : Yms (Yan.mk g (g.events.map fun e => (e.id, dmR g.events e)) [] [] []) := by
  intro e' he'
  have key : ∀ l : List Yaa, e' ∈ l → mget (l.map fun e => (e.id, dmR g.events e)) e'.id = some (dmR g.events e') := by
   intro l
   induction l with
   | nil => intro h; cases h
   | cons f l ih =>
    intro h
    simp only [List.map_cons, mget]
    by_cases hf : e'.id = f.id
    ·
     rw [if_pos hf]
     unfold dmR
     rw [hf]
    ·
     rw [if_neg hf]
     rcases List.mem_cons.1 h with rfl | h
     ·
      exact absurd rfl hf
     ·
      exact ih h
  exact key _ he'
 obtain ⟨c1, _, c3⟩ := Ymt (h := Yan.mk g (g.events.map fun e => (e.id, dmR g.events e)) [] [] []) hm hkn
 simp only at c1 c3
 simp only [Z6b]
 rw [c1, Wb, Yhg (by omega : k < ah.length), Wb, Int.toNat_natCast, Ynn (by omega), if_pos rfl, Wb, (Yln (hm.sts c3) hev.ask).1, Wb, Yhg (by omega : k < cd.length), Wb, Ynn (by omega), if_pos rfl, Wb, (Ynm hr _ he).1, beqd, beqd]
 have hsl := hm.slen c3
 generalize Ymr g (e.prev.map ls) = s at c3 hsl
 have hput := Ykw c3.up (Yai.mk e.kind e.key e.id) (by omega)
 have w1 : IntKind.i64.wrap ((i : Int) + 1) = ((i + 1 : Nat) : Int) := Yhh hil (by omega)
 simp only [Z6a, Z69, Z68, Z67, Int.toNat_natCast, hput, List.nil_append]
 rw [Ykt (by simp; omega)]
 have hgb : ∀ v : List Yai, getI (bh.set k v) (k : Int) = some v := fun v => by rw [Ynn (by omega), if_pos rfl]
 have hgc : ∀ v : Int, getI (cd.set k v) (k : Int) = some v := fun v => by rw [Ynn (by omega), if_pos rfl]
 have hgb0 := Yhg (by omega : k < bh.length)
 simp only [Wb, hgb, hgc, hgb0, w1, List.set_set, beqd]
 unfold Yni Ynh putE
 by_cases h1 : alw g s e = 0
 ·
  by_cases h2 : e.kind = 8
  ·
   cases h3 : Yng g e.key e with
   | false => simp [h1, h2, hgc]
   | true => simp [h1, h2, hgc]
  ·
   by_cases h4 : e.kind ≤ 6
   ·
    simp [h1, h2, h4, hgc]
   ·
    simp [h1, h2, h4, hgc]
 ·
  simp [h1, hgc]

structure Both (g : Yaf) (h : Yan) (w : Yaj) : Prop where
 graph : h.graph = g
 depth : Yms h
 depths : w.depths = Yix g.events
 la : w.ahead.length = g.events.length
 lb : w.behind.length = g.events.length
 lc : w.code.length = g.events.length
 all : ∀ e ∈ g.events, Ynk g (behI h.after) h.before h.after h.refused w.ahead w.behind w.code e

theorem Ynp {A : List (Int × List Yai)} {id p : Int} {t : List Yai} (h : p ≠ id) : behI (mset A id t) p = behI A p := by
 unfold behI; rw [Y6o, if_neg h]

theorem Ynq {g : Yaf} (hr : Ynl g) : ∃ h w, Zgu g = some h ∧ Z6f g = some w ∧ Both g h w := by
 have hfl := hr.fits.len
 obtain ⟨e0, hb⟩ := Yj3 hr.fits
 have hol := Ynb hr.fits
 -- the depths
 obtain ⟨m, hm1, hm2⟩ : ∃ m, iter (fun z : List (Int × Int) × Int => Zgt g (Yix g.events, decide (Yj4 (Yix g.events) = 0)) z.1 z.2) big ([], 0) = some m ∧ ∀ e ∈ g.events, mget m e.id = some (dmR g.events e) := by
  obtain ⟨o, h1, h2⟩ := Yhe (τ := List (Int × Int) × Int) (ω := List (Int × Int)) (σ := List (Int × Int)) (step := fun z : List (Int × Int) × Int => Zgt g (Yix g.events, decide (Yj4 (Yix g.events) = 0)) z.1 z.2) (n := g.events.length) (fun s j => (s, j))
   (fun i s => ∀ (j : Nat) (hj : j < g.events.length), j < i → mget s g.events[j].id = some (dmR g.events g.events[j])) (fun o => ∀ (j : Nat) (hj : j < g.events.length), mget o g.events[j].id = some (dmR g.events g.events[j])) (by omega) (by
   intro i s hi hI
   have hid : i < (Yix g.events).length := by rw [hb.len]; exact hi
   refine ⟨mset s g.events[i].id (Yix g.events)[i], ?_, fun j hj hji => ?_⟩
   ·
    simp only [Zgt]
    rw [dlt hi, Wu, Yhg hi, Wb, Yhg hid, Wb, Yhh hi (by omega)]
   ·
    rw [Y6o]
    by_cases he : g.events[j].id = g.events[i].id
    ·
     rw [if_pos he]
     obtain rfl := hr.fits.up.inj hj hi he
     unfold dmR dOf
     rw [(hr.fits.up.plc hj).1, Yhg hid]; rfl
    ·
     rw [if_neg he]
     exact hI j hj (by
      rcases Nat.lt_or_ge j i with h | h
      ·
       exact h
      ·
       obtain rfl : j = i := by omega
       exact absurd rfl he)) (by
   intro s hI
   simp only [Zgt]
   rw [dnlt, Wv]
   exact ⟨s, rfl, fun j hj => hI j hj hj⟩) (s := []) (fun j hj h => by omega)
  refine ⟨o, h1, fun e he => ?_⟩
  obtain ⟨j, hj, rfl⟩ := List.mem_iff_getElem.1 he
  exact h2 j hj
 -- the states
 have hpos : ∀ i, (hi : i < (Yk6 g.events).length) → ∃ k, ∃ hk : k < g.events.length, (Yk6 g.events)[i] = g.events[k].id := fun i hi => by
  obtain ⟨e, he, h1⟩ := List.mem_map.1 ((Ync hr.fits).1 (Wm hi))
  obtain ⟨k, hk, rfl⟩ := List.mem_iff_getElem.1 he
  exact ⟨k, hk, h1.symm⟩
 obtain ⟨⟨B, A, R⟩, ⟨ah, bh, cd⟩, q1, q2, la, lb, lc, hall⟩ := Yn7 (step1 := fun z : List (Int × List Yai) × List (Int × List Yai) × List (Int × Int) × Int => Zgr g m (Yk6 g.events) z.1 z.2.1 z.2.2.1 z.2.2.2) (step2 := fun z : List (List Yai) × List (List Yai) × List Int × Int => Z6d g (Yix g.events) (Yk6 g.events) z.1 z.2.1 z.2.2.1 z.2.2.2) (n := g.events.length)
  (fun (s : List (Int × List Yai) × List (Int × List Yai) × List (Int × Int)) j => (s.1, s.2.1, s.2.2, j)) (fun (s : List (List Yai) × List (List Yai) × List Int) j => (s.1, s.2.1, s.2.2, j))
  (fun i s t => t.1.length = g.events.length ∧ t.2.1.length = g.events.length ∧ t.2.2.length = g.events.length ∧ ∀ e ∈ g.events, e.id ∈ (Yk6 g.events).take i → Ynk g (behI s.2.1) s.1 s.2.1 s.2.2 t.1 t.2.1 t.2.2 e)
  (fun (s : List (Int × List Yai) × List (Int × List Yai) × List (Int × Int)) (t : List (List Yai) × List (List Yai) × List Int) => t.1.length = g.events.length ∧ t.2.1.length = g.events.length ∧ t.2.2.length = g.events.length ∧ ∀ e ∈ g.events, Ynk g (behI s.2.1) s.1 s.2.1 s.2.2 t.1 t.2.1 t.2.2 e) (by omega) (by
  rintro i ⟨B, A, R⟩ ⟨ah, bh, cd⟩ hi ⟨la, lb, lc, hI⟩
  simp only at la lb lc hI ⊢
  have hio : i < (Yk6 g.events).length := by omega
  obtain ⟨k, hk, hid⟩ := hpos i hio
  have he : g.events[k] ∈ g.events := Wm hk
  have hevat : evAt g.events (Yk6 g.events)[i] = some g.events[k] := by rw [hid]; exact (hr.fits.up.plc hk).2
  have hprev : ∀ p ∈ g.events[k].prev, ∃ f ∈ g.events, f.id = p ∧ p ∈ (Yk6 g.events).take i := fun p hp => by
   obtain ⟨f, hf, hfid⟩ := Yij.1 (hr.fits.whole _ he p hp)
   exact ⟨f, hf, hfid, Ynf hr.fits hr.deep hio hevat hp⟩
  have hknow : ∀ p ∈ g.events[k].prev, StOk g.events (behI A p) ∧ getI bh (plc g.events p) = some (behI A p) := fun p hp => by
   obtain ⟨f, hf, hfid, ht⟩ := hprev p hp
   subst hfid
   have hk := hI f hf ht
   have e1 : behI A f.id = Yni g (Ymr g (f.prev.map (behI A))) f := by
    show Option.getD (mget A f.id) [] = _
    rw [hk.mA]; rfl
   rw [e1]
   exact ⟨Ynj hr.fits.up hk.ok hf, hk.gb⟩
  have hks : Yms (Yan.mk g m B A R) := hm2
  have s1 := Zn6 (h := Yan.mk g m B A R) hr hks he (fun p hp => (hknow p hp).1)
  have s2 := Zn7 hr (od := Yk6 g.events) (ah := ah) (bh := bh) (cd := cd) (behI A) hio hi hk hid la lb lc hknow
  have hm : Mrg g (g.events[k].prev.map (behI A)) := ⟨hr.fits, hr.ev, hr.deep, fun s hs => by obtain ⟨p, hp, rfl⟩ := List.mem_map.1 hs; exact (hknow p hp).1, by have := (hr.ev _ he).prev.1; simp; omega⟩
  have hsok := (Ymt (h := Yan.mk g m B A R) hm hks).2.2
  simp only at s1 hsok
  refine ⟨(mset B g.events[k].id (Ymr g (g.events[k].prev.map (behI A))), mset A g.events[k].id (Yni g (Ymr g (g.events[k].prev.map (behI A))) g.events[k]), mset R g.events[k].id (Ynh g (Ymr g (g.events[k].prev.map (behI A))) g.events[k])), (ah.set k (Ymr g (g.events[k].prev.map (behI A))), bh.set k (Yni g (Ymr g (g.events[k].prev.map (behI A))) g.events[k]), cd.set k (Ynh g (Ymr g (g.events[k].prev.map (behI A))) g.events[k])), ?_, s2, by simp [la], by simp [lb], by simp [lc], ?_⟩
  ·
   simp only [Zgr]
   rw [dlt hio, Wu, Yhg hio, Wb, c_at _ _ hr.fits.up (by omega), hevat, Wb]
   simp only [Option.getD_some]
   rw [s1, Wb, Yhh hio (by omega)]
  ·
   intro e hem het
   have hself : ∀ p ∈ g.events[k].prev, p ≠ g.events[k].id := fun p hp => ((hr.ev _ he).prev.2.1 p hp).2.2
   have hpk := (hr.fits.up.plc hk).1
   by_cases hek : e = g.events[k]
   ·
    subst hek
    have e1 : g.events[k].prev.map (behI (mset A g.events[k].id (Yni g (Ymr g (g.events[k].prev.map (behI A))) g.events[k]))) = g.events[k].prev.map (behI A) := List.map_congr_left fun p hp => Ynp (hself p hp)
    refine ⟨?_, ?_, ?_, ?_, ?_, ?_, ?_⟩
    ·
     simp only [e1]; exact hsok
    ·
     simp only [e1]; rw [Y6o, if_pos rfl]
    ·
     simp only [e1]; rw [Y6o, if_pos rfl]
    ·
     simp only [e1]; rw [Y6o, if_pos rfl]
    ·
     simp only [e1]; rw [hpk, Ynn (by omega), if_pos rfl]
    ·
     simp only [e1]; rw [hpk, Ynn (by omega), if_pos rfl]
    ·
     simp only [e1]; rw [hpk, Ynn (by omega), if_pos rfl]
   ·
    have hne : e.id ≠ g.events[k].id := fun h => hek (by
     obtain ⟨j, hj, rfl⟩ := List.mem_iff_getElem.1 hem
     obtain rfl := hr.fits.up.inj hj hk h
     rfl)
    have het' : e.id ∈ (Yk6 g.events).take i := by
     rw [List.take_add_one, We hio, hid] at het
     rcases List.mem_append.1 het with h | h
     ·
      exact h
     ·
      simp at h; exact absurd h hne
    obtain ⟨j, hj, hji, hje⟩ := Yjl het'
    have hpn : ∀ p ∈ e.prev, p ≠ g.events[k].id := fun p hp hpe => by
     have h1 := Ynf hr.fits hr.deep hj (e := e) (by rw [hje]; exact hr.fits.up.evAt_mem hem) hp
     obtain ⟨u, hu, huj, hue⟩ := Yjl h1
     have : u = i := by
      have hnd := Ynd hr.fits
      exact (List.getElem_inj (h₀ := hu) (h₁ := hio) hnd).1 (by rw [hue, hpe, hid])
     omega
    have e1 : e.prev.map (behI (mset A g.events[k].id (Yni g (Ymr g (g.events[k].prev.map (behI A))) g.events[k]))) = e.prev.map (behI A) := List.map_congr_left fun p hp => Ynp (hpn p hp)
    have hK := hI e hem het'
    obtain ⟨ke, hke, hkp, _, _⟩ := Yig (Yii hem)
    have hkk : ke ≠ k := fun h => by
     subst h
     have := hr.fits.up.plc hke
     obtain ⟨j2, hj2, hje2⟩ := List.mem_iff_getElem.1 hem
     have h3 := (hr.fits.up.plc hj2).1
     rw [hje2, hkp] at h3
     have : j2 = ke := by omega
     subst this
     exact hek hje2.symm
    refine ⟨?_, ?_, ?_, ?_, ?_, ?_, ?_⟩
    ·
     simp only [e1]; exact hK.ok
    ·
     simp only [e1]; rw [Y6o, if_neg hne]; exact hK.mB
    ·
     simp only [e1]; rw [Y6o, if_neg hne]; exact hK.mR
    ·
     simp only [e1]; rw [Y6o, if_neg hne]; exact hK.mA
    ·
     simp only [e1]; rw [hkp, Ynn (by omega), if_neg hkk, ← hkp]; exact hK.ga
    ·
     simp only [e1]; rw [hkp, Ynn (by omega), if_neg hkk, ← hkp]; exact hK.gc
    ·
     simp only [e1]; rw [hkp, Ynn (by omega), if_neg hkk, ← hkp]; exact hK.gb) (by
  rintro ⟨B, A, R⟩ ⟨ah, bh, cd⟩ ⟨la, lb, lc, hI⟩
  simp only at la lb lc hI
  refine ⟨(B, A, R), (ah, bh, cd), ?_, ?_, la, lb, lc, fun e he => hI e he ?_⟩
  ·
   simp only [Zgr]
   rw [hol, dnlt, Wv]
  ·
   simp only [Z6d]
   rw [dnlt, Wv]
  ·
   rw [List.take_of_length_le (by omega)]
   exact (Ync hr.fits).2 (List.mem_map.2 ⟨e, he, rfl⟩)) (s := ([], [], [])) (t := (List.replicate g.events.length [], List.replicate g.events.length [], List.replicate g.events.length 0)) ⟨by simp, by simp, by simp, fun e _ h => by simp at h⟩
 simp only at q1 q2 la lb lc hall
 refine ⟨Yan.mk g m B A R, Yaj.mk (Yix g.events) ah bh cd, ?_, ?_, rfl, hm2, rfl, la, lb, lc, hall⟩
 ·
  unfold Zgu
  rw [Yja hr.fits, Wb, hm1, Wb]
  simp only [Zgs, Zgq]
  rw [Yka hr.fits, Wb, q1]; rfl
 ·
  unfold Z6f
  rw [e0, Wb, Y4z (Wt ⟨by omega, by omega⟩), Wb, Wb, Y4z (Wt ⟨by omega, by omega⟩), Wb]
  simp only [Z6e, Z66, Int.toNat_natCast]
  rw [Yki hr.fits hr.deep, Wb, q2]; rfl
end Go.Proofs.YtnoknphekhclcaaGreat
namespace Go.Proofs.YtnoknphekhclcaaGreat
open Go Go.Abs

def refB (h : Yan) (id : Int) : Bool := decide (Option.getD (mget h.refused id) 0 = 0)

theorem Both.code {g : Yaf} {h : Yan} {w : Yaj} (hb : Both g h w) {e : Yaa} (he : e ∈ g.events) : ∃ c, getI w.code (plc g.events e.id) = some c ∧ Option.getD (mget h.refused e.id) 0 = c := by
 have hk := hb.all e he
 exact ⟨_, hk.gc, by rw [hk.mR]; rfl⟩
theorem Both.behind {g : Yaf} {h : Yan} {w : Yaj} (hb : Both g h w) (hr : Ynl g) {e : Yaa} (he : e ∈ g.events) : getI w.behind (plc g.events e.id) = some (behI h.after e.id) ∧ StOk g.events (behI h.after e.id) := by
 have hk := hb.all e he
 have e1 : behI h.after e.id = Yni g (Ymr g (e.prev.map (behI h.after))) e := by
  show Option.getD (mget h.after e.id) [] = _
  rw [hk.mA]; rfl
 rw [e1]
 exact ⟨hk.gb, Ynj hr.fits.up hk.ok he⟩
theorem Both.ahead {g : Yaf} {h : Yan} {w : Yaj} (hb : Both g h w) {e : Yaa} (he : e ∈ g.events) : getI w.ahead (plc g.events e.id) = some (behI h.before e.id) ∧ StOk g.events (behI h.before e.id) := by
 have hk := hb.all e he
 have e1 : behI h.before e.id = Ymr g (e.prev.map (behI h.after)) := by
  show Option.getD (mget h.before e.id) [] = _
  rw [hk.mB]; rfl
 rw [e1]
 exact ⟨hk.ga, hk.ok⟩

theorem Ynl.sts {g : Yaf} (hr : Ynl g) {s : List Yai} (hs : StOk g.events s) : Sts g s := (Mrg.mk (ls := []) hr.fits hr.ev hr.deep (fun s hs => by cases hs) (by simp)).sts hs

end Go.Proofs.YtnoknphekhclcaaGreat
namespace Go.Proofs.YtnoknphekhclcaaGreat
open Go Go.Abs


theorem Ynr (p : List Int) (n : Int) (hp : p.length ≤ maxLen) (h0 : 0 ≤ n) (hn : n ≤ 1048576) : ∃ r, Z1 p n = some r ∧ ((0 ≤ r ∧ r ≤ n ∧ p.length ≤ 1048576) ∨ r = -1) := by
 simp only [maxLen] at hp
 unfold Z1
 rw [Y4y (by omega) (by omega)]
 by_cases h : n - (p.length : Int) < 0
 ·
  rw [Wt h]; exact ⟨_, rfl, .inr rfl⟩
 ·
  rw [Wf h]; exact ⟨_, rfl, .inl ⟨by omega, by omega, by omega⟩⟩

structure EvIn (e : Yaa) : Prop where
 text : e.text.size ≤ maxLen
 prev : e.prev.length ≤ maxLen

theorem Yns (e : Yaa) (n : Int) (he : EvIn e) (h0 : 0 ≤ n) (hn : n ≤ 1048576) : ∃ r, Z3 e n = some r ∧ ((0 ≤ r ∧ r ≤ n ∧ e.prev.length ≤ 1048576 ∧ e.text.size ≤ 1048576) ∨ r = -1) := by
 have ht := he.text
 simp only [maxLen] at ht
 unfold Z3
 rw [Y4y (by omega) (by omega)]
 by_cases h : n - (e.text.size : Int) < 0
 ·
  rw [Wt h]; exact ⟨_, rfl, .inr rfl⟩
 ·
  rw [Wf h, Wv]
  obtain ⟨r, h1, h2⟩ := Ynr e.prev (n - (e.text.size : Int)) he.prev (by omega) (by omega)
  rw [h1, Wb]
  rcases h2 with ⟨h2, h3, h4⟩ | rfl
  ·
   rw [Wf (by omega)]; exact ⟨_, rfl, .inl ⟨h2, by omega, h4, by omega⟩⟩
  ·
   exact ⟨_, rfl, .inr rfl⟩

def Ynt (l : List Yaa) : Prop := l.length ≤ 1048576 ∧ ∀ e ∈ l, e.prev.length ≤ 1048576 ∧ e.text.size ≤ 1048576

theorem Ynu (p : List Yaa) (n : Int) (hl : p.length ≤ maxLen) (hp : ∀ e ∈ p, EvIn e) (h0 : 0 ≤ n) (hn : n ≤ 1048576) : ∃ r, Z7 p n = some r ∧ ((0 ≤ r ∧ r + p.length ≤ n ∧ Ynt p) ∨ r = -1) := by
 simp only [maxLen] at hl
 unfold Z7
 rw [Y4y (by omega) (by omega)]
 by_cases h : n - (p.length : Int) < 0
 ·
  rw [Wt h]; exact ⟨_, rfl, .inr rfl⟩
 ·
  rw [Wf h, Wv]
  obtain ⟨o, h1, h2⟩ := Yhf (τ := Int × Int) (ω := Int ⊕ Int) (σ := Int) (step := fun z : Int × Int => Z6 p z.1 z.2) (n := p.length) (fun s j => (s, j))
   (fun i s => 0 ≤ s ∧ s + p.length ≤ n ∧ ∀ (j : Nat) (hj : j < p.length), j < i → p[j].prev.length ≤ 1048576 ∧ p[j].text.size ≤ 1048576) (fun o => o = .inl (-1) ∨ ∃ r, o = .inr r ∧ 0 ≤ r ∧ r + p.length ≤ n ∧ Ynt p) (by omega) (by
   rintro i s hi ⟨hs0, hsn, hI⟩
   obtain ⟨r, e1, e2⟩ := Yns p[i] s (hp _ (Wm hi)) hs0 (by omega)
   simp only [Z6]
   rw [dlt hi, Wu, Yhg hi, Wb, e1, Wb, Yhh hi (by omega)]
   rcases e2 with ⟨e2, e3, e4⟩ | rfl
   ·
    rw [Wf (by omega), Wv]
    refine .inl ⟨r, rfl, e2, by omega, fun j hj hji => ?_⟩
    rcases Nat.lt_or_ge j i with h | h
    ·
     exact hI j hj h
    ·
     obtain rfl : j = i := by omega
     exact e4
   ·
    exact .inr ⟨_, rfl, .inl rfl⟩) (by
   rintro s ⟨hs0, hsn, hI⟩
   simp only [Z6]
   rw [dnlt, Wv]
   refine ⟨_, rfl, .inr ⟨s, rfl, hs0, hsn, by omega, fun e he => ?_⟩⟩
   obtain ⟨j, hj, rfl⟩ := List.mem_iff_getElem.1 he
   exact hI j hj hj) (s := n - (p.length : Int)) ⟨by omega, by omega, fun j hj h => by omega⟩
  rw [h1, Wb]
  rcases h2 with rfl | ⟨r, rfl, h3⟩
  ·
   exact ⟨_, rfl, .inr rfl⟩
  ·
   exact ⟨_, rfl, .inl h3⟩

structure GIn (g : Yab) : Prop where
 el : g.events.length ≤ maxLen
 pl : g.parked.length ≤ maxLen
 ev : ∀ e ∈ g.events, EvIn e
 pv : ∀ e ∈ g.parked, EvIn e

theorem Ynv (g : Yab) (n : Int) (hg : GIn g) (h0 : 0 ≤ n) (hn : n ≤ 1048576) : ∃ r, Z9 g n = some r ∧ ((0 ≤ r ∧ r + (g.events.length + g.parked.length : Nat) ≤ n ∧ Ynt g.events ∧ Ynt g.parked) ∨ r = -1) := by
 unfold Z9
 obtain ⟨r, h1, h2⟩ := Ynu g.events n hg.el hg.ev h0 hn
 rw [h1, Wb]
 rcases h2 with ⟨h2, h3, h4⟩ | rfl
 ·
  rw [Wf (by omega), Wv]
  obtain ⟨r', h5, h6⟩ := Ynu g.parked r hg.pl hg.pv h2 (by omega)
  rw [h5, Wb]
  rcases h6 with ⟨h6, h7, h8⟩ | rfl
  ·
   rw [Wf (by omega)]; exact ⟨_, rfl, .inl ⟨h6, by omega, h4, h8⟩⟩
  ·
   exact ⟨_, rfl, .inr rfl⟩
 ·
  exact ⟨_, rfl, .inr rfl⟩


theorem Ynw {α β : Type} {xs : List α} {z : β} (f : α → β) {step : List β × Int → Option ((List β × Int) ⊕ List β)} (hl : xs.length < 9223372036854775807)
  (h1 : ∀ (i : Nat) (s : List β) (hi : i < xs.length), s.length = xs.length → step (s, (i : Int)) = some (.inl (s.set i (f xs[i]), ((i + 1 : Nat) : Int)))) (h2 : ∀ s : List β, step (s, (xs.length : Int)) = some (.inr s)) :
  iter step big (List.replicate xs.length z, 0) = some (xs.map f) := by
 obtain ⟨o, e1, rfl⟩ := Yhe (τ := List β × Int) (ω := List β) (σ := List β) (step := step) (n := xs.length) (fun s j => (s, j)) (fun i s => s = (xs.take i).map f ++ List.replicate (xs.length - i) z) (fun o => o = xs.map f) hl (by
  rintro i s hi rfl
  refine ⟨_, h1 i _ hi (by simp; omega), ?_⟩
  have e0 : List.replicate (xs.length - i) z = z :: List.replicate (xs.length - (i + 1)) z := by
   rw [show xs.length - i = (xs.length - (i + 1)) + 1 by omega, List.replicate_succ]
  have e1 : xs.take (i + 1) = xs.take i ++ [xs[i]] := by rw [List.take_add_one, We hi]; rfl
  rw [e0, Yjc (X := (xs.take i).map f) (u := z) (Y := List.replicate (xs.length - (i + 1)) z) rfl (by simp; omega), e1, List.map_append, List.append_assoc]
  rfl) (by
  rintro s rfl
  exact ⟨_, h2 _, by simp⟩) (s := List.replicate xs.length z) (by simp)
 exact e1

theorem Ynx (p : List Int) (hp : p.length ≤ 1048576) : Zx p = some p := by
 unfold Zx
 rw [Y4z (Wt ⟨by omega, by omega⟩), Wb, Int.toNat_natCast]
 rw [Ynw (xs := p) (fun x => x) (by omega) (fun i s hi hs => by
  simp only [Zw]
  rw [dlt hi, Wu, Yhg hi, Wb, Yhg (by omega : i < s.length), Wb, Yhh hi (by omega), Int.toNat_natCast]) (fun s => by simp only [Zw]; rw [dnlt, Wv])]
 simp [Zv]

theorem Yny (e : Yaa) (hp : e.prev.length ≤ 1048576) : Zz e = some e := by
 unfold Zz
 rw [Ynx _ hp]; rfl

theorem Ynz (p : List Yaa) (hp : Ynt p) : Z13 p = some p := by
 have hl := hp.1
 unfold Z13
 rw [Y4z (Wt ⟨by omega, by omega⟩), Wb, Int.toNat_natCast]
 rw [Ynw (xs := p) (fun x => x) (by omega) (fun i s hi hs => by
  simp only [Z12]
  rw [dlt hi, Wu, Yhg hi, Wb, Yny _ (hp.2 _ (Wm hi)).1, Wb, Yhg (by omega : i < s.length), Wb, Yhh hi (by omega), Int.toNat_natCast]) (fun s => by simp only [Z12]; rw [dnlt, Wv])]
 simp [Z11]

def toG (g : Yab) : Yaf := Yaf.mk g.room g.events g.parked
theorem Yo0 (g : Yab) (he : Ynt g.events) (hp : Ynt g.parked) : Z16 g = some (toG g) := by
 unfold Z16
 rw [Ynz _ he, Wb, Ynz _ hp]; rfl

theorem Yo1 {g : Yab} (he : Ynt g.events) (hp : Ynt g.parked) : Fine (toG g) := ⟨he.1, hp.1, fun e h => (he.2 e h).1, fun e h => (hp.2 e h).1⟩


theorem Yo2 (p : List Int) (hp : p.length ≤ 1048576) : Zk0 p p = some true := by
 unfold Zk0
 rw [bned, Wt rfl]
 simp only [Bool.not_true, Wv]
 rw [Yhw (l := p) (fun _ => true) (.inl false) (.inr ()) (by omega) (fun i hi => by
  simp only [Zjz]
  rw [dlt hi, Wu, Yhg hi, Wb, Wb, bned, Wt rfl, Yhh hi (by omega)]; rfl) (by simp only [Zjz]; rw [dnlt, Wv])]
 rw [show (p.all fun _ => true) = true by simp]; rfl

theorem Yo3 (e : Yaa) (hp : e.prev.length ≤ 1048576) : Zk2 e e = some true := by
 unfold Zk2
 rw [Yo2 _ hp]
 simp

theorem Yo4 (p : List Yaa) (hp : Ynt p) : Zk6 p p = some true := by
 have hl := hp.1
 unfold Zk6
 rw [bned, Wt rfl]
 simp only [Bool.not_true, Wv]
 rw [Yhw (l := p) (fun _ => true) (.inl false) (.inr ()) (by omega) (fun i hi => by
  simp only [Zk5]
  rw [dlt hi, Wu, Yhg hi, Wb, Wb, Yo3 _ (hp.2 _ (Wm hi)).1, Wb, Yhh hi (by omega)]; rfl) (by simp only [Zk5]; rw [dnlt, Wv])]
 rw [show (p.all fun _ => true) = true by simp]; rfl

theorem Yo5 (g : Yaf) (he : Ynt g.events) (hp : Ynt g.parked) : Zk8 g g = some true := by
 unfold Zk8
 rw [Yo4 _ he, Yo4 _ hp]
 simp


def Yo6 (n : Int) : Nat → List Int
 | 0 => []
 | k + 1 => n :: Yo6 (n + 1) k
theorem Yo7 : ∀ (k : Nat) (n : Int), (Yo6 n k).length = k
 | 0, _ => rfl
 | k + 1, n => by simp [Yo6, Yo7 k]
theorem Yo8 : ∀ (k : Nat) (n : Int) (i : Nat) (hi : i < (Yo6 n k).length), (Yo6 n k)[i] = n + i
 | 0, _, i, hi => by simp [Yo6] at hi
 | k + 1, n, 0, hi => by simp [Yo6]
 | k + 1, n, i + 1, hi => by
  simp only [Yo6, List.getElem_cons_succ]
  rw [Yo8 k]; omega
theorem Yo9 : ∀ (k : Nat) (n : Int), Yo6 n (k + 1) = Yo6 n k ++ [n + k]
 | 0, n => by simp [Yo6]
 | k + 1, n => by
  rw [Yo6, Yo9 k (n + 1)]
  simp [Yo6]; omega

theorem Yoa (p : List Int) (n : Int) (hp : p.length ≤ 1048576) (h0 : 0 ≤ n) (hn : n ≤ 1000000000000000) : Zl6 p n = some (n + p.length, Yo6 n p.length) := by
 unfold Zl6
 obtain ⟨o, e1, rfl⟩ := Yhe (τ := List Int × Int × Int) (ω := Int × List Int) (σ := List Int × Int) (step := fun z : List Int × Int × Int => Zl5 z.1 z.2.1 z.2.2) (n := p.length) (fun s j => (s.1, s.2, j)) (fun i s => s = (Yo6 n i ++ p.drop i, n + i)) (fun o => o = (n + p.length, Yo6 n p.length)) (by omega) (by
  rintro i s hi rfl
  have e0 : p.drop i = p[i] :: p.drop (i + 1) := List.drop_eq_getElem_cons hi
  generalize hR : p.drop (i + 1) = R at e0
  generalize p[i] = u at e0
  refine ⟨(Yo6 n (i + 1) ++ R, n + i + 1), ?_, by simp; omega⟩
  have hlen : (Yo6 n i ++ p.drop i).length = p.length := by rw [List.length_append, Yo7, List.length_drop]; omega
  simp only [Zl5]
  rw [hlen, dlt hi, Wu, e0, Yjb (X := Yo6 n i) (u := u) (Y := R) rfl (Yo7 i n).symm, Wb, Int.toNat_natCast, Yjc (X := Yo6 n i) (u := u) (Y := R) rfl (Yo7 i n).symm, Yhh hi (by omega), Y4y (by omega) (by omega), Yo9]
  simp) (by
  rintro s rfl
  simp only [Zl5]
  rw [show (Yo6 n p.length ++ p.drop p.length).length = p.length by simp [Yo7], dnlt, Wv]
  exact ⟨_, rfl, by simp⟩) (s := (p, n)) (by simp [Yo6])
 rw [e1, Wb]; rfl

theorem Yob (k : Nat) (n : Int) (hk : k ≤ 1048576) (h0 : 0 ≤ n) (hn : n ≤ 1000000000000000) : Zm1 (Yo6 n k) n = some (n + k) := by
 unfold Zm1
 obtain ⟨o, e1, rfl⟩ := Yhe (τ := Int × Int) (ω := Int ⊕ Int) (σ := Int) (step := fun z : Int × Int => Zm0 (Yo6 n k) z.1 z.2) (n := k) (fun s j => (s, j)) (fun i s => s = n + i) (fun o => o = .inr (n + k)) (by omega) (by
  rintro i s hi rfl
  refine ⟨n + i + 1, ?_, by omega⟩
  simp only [Zm0, Yo7]
  have hi' : i < (Yo6 n k).length := by rw [Yo7]; exact hi
  rw [dlt hi, Wu, Yhg hi', Wb, Yo8, bned, Wt rfl, Yhh hi (by omega), Y4y (by omega) (by omega)]; rfl) (by
  rintro s rfl
  simp only [Zm0, Yo7]
  rw [dnlt, Wv]
  exact ⟨_, rfl, rfl⟩) (s := n) (by simp)
 rw [e1, Wb]; rfl

theorem Yoc (n : Int) (h0 : 0 ≤ n) (hn : n ≤ 1000000000000000) : ∃ t, Zl2 n = some t := by
 unfold Zl2
 by_cases h : n ≤ 0
 ·
  rw [Wt h]; exact ⟨_, rfl⟩
 ·
  rw [Wf h, Wv]
  obtain ⟨o, e1, e2⟩ := Y51 (step := fun z : Int × ByteArray => Zl1 z.1 z.2) (p := fun o : ByteArray => (o.size : Int) ≤ 1000000000000000) (fun m (z : Int × ByteArray) => 0 ≤ z.1 ∧ z.1 + z.2.size ≤ 1000000000000000 ∧ m = z.1.toNat) (by
   rintro m ⟨x, t⟩ ⟨hx, hs, rfl⟩
   simp only at hx hs
   simp only [Zl1]
   by_cases hp : x > 0
   ·
    right
    have hsz : ∀ k : Int, (Y7f [k]).size = 1 := fun k => rfl
    have hd : 0 ≤ Int.tdiv x 10 ∧ Int.tdiv x 10 < x := by
     rw [Int.tdiv_eq_ediv_of_nonneg hx]; omega
    rw [Wt hp, Wu, Y4z (Wt (by rw [hsz]; omega)), Wb, Y4y (n := Int.tdiv x 10) (by omega) (by omega)]
    refine ⟨_, (Int.tdiv x 10).toNat, rfl, by omega, hd.1, ?_, rfl⟩
    simp only [ByteArray.size_append, hsz]; omega
   ·
    left
    rw [Wf hp, Wv]
    exact ⟨_, rfl, by omega⟩) big n.toNat (n, ByteArray.empty) ⟨h0, by simp; omega, rfl⟩ (Yhb (by omega))
  rw [e1, Wb]
  unfold Zl0
  rw [Y4z (Wt (by show 1 + o.size ≤ _; omega))]
  exact ⟨_, rfl⟩

theorem Yod {α : Type} {l : List α} {k : Nat} {v : α} (hk : k < l.length) : getI (l.set k v) (k : Int) = some v := by rw [Ynn hk, if_pos rfl]

end Go.Proofs.YtnoknphekhclcaaGreat
namespace Go.Proofs.YtnoknphekhclcaaGreat
open Go Go.Abs


def accT (l : List Yaa) (T : Int → Bool) : List Int := (l.map (·.id)).filter T
def endT (l : List Yaa) (T : Int → Bool) (x : Int) : Bool := (accT l T).all fun id => !decide (x ∈ (evD l id).prev)
def endsT (l : List Yaa) (T : Int → Bool) : List Int := (accT l T).filter (endT l T)

theorem Yoe {l : List Yaa} (h : Up2 l) : UpI (l.map (·.id)) := by
 show (l.map (·.id)).Pairwise (· < ·)
 rw [List.pairwise_map]; exact h

theorem Yof {h : Yan} (hr : Ynl h.graph) : Zgz h = some (accT h.graph.events (refB h)) := by
 have hfl := hr.fits.len
 unfold Zgz
 have := Yhx (l := h.graph.events) (step := fun z : List Int × Int => Zgy h z.1 z.2) (fun q j => (q, j)) (fun q => q) (fun q e => if refB h e.id = true then q ++ [e.id] else q) (fun i q => q.length ≤ i) (by omega) (fun i q hi hq => by
  refine ⟨?_, by split <;> first | omega | (rw [List.length_append, List.length_singleton]; omega)⟩
  simp only [Zgy, Zgx]
  rw [dlt hi, Wu, Yhg hi, Wb, Yhh hi (by omega), chk8 (by simp; omega), beqd]
  unfold refB
  by_cases hc : Option.getD (mget h.refused h.graph.events[i].id) 0 = 0
  ·
   rw [Wt hc]; rfl
  ·
   rw [Wf hc]; rfl)
  (fun q _ => by simp only [Zgy]; rw [dnlt, Wv]) (s := []) (by simp)
 rw [this.1, Wb]
 have key : ∀ (l : List Yaa) (q : List Int), l.foldl (fun q e => if refB h e.id = true then q ++ [e.id] else q) q = q ++ (l.map (·.id)).filter (refB h) := by
  intro l
  induction l with
  | nil => intro q; simp
  | cons e l ih =>
   intro q
   rw [List.foldl_cons, ih]
   cases hc : refB h e.id with
   | true => rw [if_pos rfl, List.map_cons, List.filter_cons_of_pos hc]; simp
   | false => rw [if_neg (by simp), List.map_cons, List.filter_cons_of_neg (by simp [hc])]
 rw [key]; rfl

theorem Yog {l : List Int} (hl : UpI l) (hn : l.length < 1000000) : Zii l = some l := by
 unfold Zii
 by_cases h2 : (l.length : Int) < 2
 ·
  rw [Wt h2]; rfl
 ·
  rw [Wf h2, Wv, Y52 (o := .inr ()) (fun m (x : Int) => ∃ i : Nat, x = i ∧ 1 ≤ i ∧ i ≤ l.length ∧ m = l.length - i) ?_ (m := l.length - 1) (x := 1) ⟨1, rfl, by omega, by omega, rfl⟩ (Yhb (by omega))]
  ·
   rfl
  ·
   rintro m x ⟨i, rfl, h1, hi, rfl⟩
   simp only [Zih]
   by_cases hil : i < l.length
   ·
    right
    have hm : i - 1 < l.length := by omega
    have := List.pairwise_iff_getElem.1 hl (i - 1) i hm hil (by omega)
    rw [dlt hil, Wu, Yhg hil, Wb, Yhi (by omega) (by omega), Yhg hm, Wb, beqd, Wf (by omega), Wv, Yhh hil (by omega)]
    exact ⟨_, l.length - (i + 1), rfl, by omega, i + 1, rfl, by omega, by omega, rfl⟩
   ·
    left
    obtain rfl : i = l.length := by omega
    rw [dnlt, Wv]

theorem Zn8 {l ids : List Int} (hl : UpI l) (hn : ids.Nodup) (hm : ∀ x, x ∈ ids ↔ x ∈ l) : List.mergeSort ids (fun x y => decide (x ≤ y)) = l := by
 have hp : ids.Perm l := (List.perm_ext_iff_of_nodup hn (hl.imp fun {a b} h => by omega)).2 hm
 exact List.Perm.eq_of_pairwise (le := fun a b => decide (a ≤ b) = true) (fun a b _ _ h1 h2 => by simp at h1 h2; omega) (List.pairwise_mergeSort (fun a b c h1 h2 => by simp at h1 h2 ⊢; omega) (fun a b => by simp; omega) ids) (hl.imp fun {a b} h => by simp; omega) ((List.mergeSort_perm ids _).trans hp)

theorem Yoh {l ids : List Int} (hl : UpI l) (hn : ids.Nodup) (hm : ∀ x, x ∈ ids ↔ x ∈ l) (hlen : l.length < 1000000) : Zil ids = some l := by
 have hpl : ids.length = l.length := ((List.perm_ext_iff_of_nodup hn (hl.imp fun {a b} h => by omega)).2 hm).length_eq
 unfold Zil
 rw [Y4z (Wt (by omega)), Wb, Zn8 hl hn hm, Yog hl hlen]; rfl

theorem Yoi {l : List Yaa} (hf : Fits l) (T : Int → Bool) : UpI (accT l T) := (Yoe hf.up).filter _
theorem Yoj {l : List Yaa} (hf : Fits l) (T : Int → Bool) : (accT l T).length ≤ 60 := by
 have := List.length_filter_le T (l.map (·.id))
 rw [List.length_map] at this
 have := hf.len
 unfold accT; omega
theorem Yok {l : List Yaa} {T : Int → Bool} {id : Int} (hi : id ∈ endsT l T) : id ∈ l.map (·.id) := (List.mem_filter.1 (List.mem_filter.1 hi).1).1
theorem Yol {l : List Yaa} (hf : Fits l) (T : Int → Bool) : (endsT l T).length ≤ 60 := Nat.le_trans (List.length_filter_le _ _) (Yoj hf T)

def Yom (l : List Yaa) (T : Int → Bool) : List Bool := l.map fun e => T e.id

theorem Yon {g : Yaf} {h : Yan} {w : Yaj} (hb : Both g h w) (hr : Ynl g) : w.code.map (fun c => decide (c = 0)) = Yom h.graph.events (refB h) := by
 unfold Yom
 rw [hb.graph]
 refine List.ext_getElem (by simp [hb.lc]) fun i h1 h2 => ?_
 simp only [List.length_map] at h1 h2
 simp only [List.getElem_map]
 obtain ⟨c, k1, k2⟩ := hb.code (Wm h2)
 rw [(hr.fits.up.plc h2).1, Yhg h1] at k1
 cases k1
 unfold refB
 rw [k2]

theorem Yoo {w : Yaj} {step : List Bool × Int → Option ((List Bool × Int) ⊕ List Bool)} (hl : w.code.length < 1000000)
  (h1 : ∀ (l : List Bool) (i : Nat), step (l, (i : Int)) = cond (decide ((i : Int) < (l.length : Int))) ((getI w.code (i : Int)).bind fun e12 => (getI l (i : Int)).bind fun e14 => some (.inl ((List.set l (Int.toNat (i : Int)) (e12 == 0)), (IntKind.i64.wrap ((i : Int) + 1))))) (some (.inr l))) :
  iter step big (List.replicate w.code.length false, 0) = some (w.code.map fun c => decide (c = 0)) := by
 obtain ⟨o, e1, rfl⟩ := Yhe (τ := List Bool × Int) (ω := List Bool) (σ := List Bool) (step := step) (n := w.code.length) (fun s j => (s, j)) (fun i s => s = (w.code.take i).map (fun c => decide (c = 0)) ++ List.replicate (w.code.length - i) false) (fun o => o = w.code.map fun c => decide (c = 0)) (by omega) (by
  rintro i s hi rfl
  have e0 : List.replicate (w.code.length - i) false = false :: List.replicate (w.code.length - (i + 1)) false := by
   rw [show w.code.length - i = (w.code.length - (i + 1)) + 1 by omega, List.replicate_succ]
  have etk : w.code.take (i + 1) = w.code.take i ++ [w.code[i]] := by rw [List.take_add_one, We hi]; rfl
  refine ⟨_, ?_, rfl⟩
  rw [h1, Wt (by simp; omega), Wu, Yhg hi, Wb, e0, Yjb (X := (w.code.take i).map fun c => decide (c = 0)) rfl (by simp; omega), Wb, Int.toNat_natCast, Yjc (X := (w.code.take i).map fun c => decide (c = 0)) rfl (by simp; omega), Yhh hi (by omega), etk, beqd, List.map_append, List.append_assoc]
  rfl) (by
  rintro s rfl
  refine ⟨_, ?_, rfl⟩
  rw [h1, Wf (by simp), Wv]
  simp) (s := List.replicate w.code.length false) (by simp)
 exact e1

theorem Yop {α β : Type} (f : α → β) {l : List α} {i : Nat} (hi : i < l.length) : getI (l.map f) (i : Int) = some (f l[i]) := by
 rw [Yhg (by simpa using hi)]; simp

theorem Yoq {g : Yaf} (hr : Ynl g) (T : Int → Bool) : Z6q g (Yom g.events T) = some (endsT g.events T) := by
 have hfl := hr.fits.len
 unfold Z6q
 -- whether one stands behind an event
 have inner1 : ∀ (i k : Nat) (hi : i < g.events.length) (hk : k < g.events.length) (b : Bool), iter (fun z : Bool × Int => Z6n g (Yom g.events T) (i : Int) (k : Int) z.1 z.2) big (b, 0) = some (b && (!T g.events[k].id || !decide (g.events[i].id ∈ g.events[k].prev))) := by
  intro i k hi hk b
  have hpl := hr.fits.plen _ (Wm hk)
  have ht : getI (Yom g.events T) (k : Int) = some (T g.events[k].id) := Yop _ hk
  cases hrk : T g.events[k].id with
  | false =>
   rw [Y52 (o := b) (fun m (z : Bool × Int) => z = (b, 0)) ?_ (m := 0) rfl (Yhb (by omega))]
   ·
    simp
   ·
    rintro m z rfl
    left
    simp only [Z6n, Z6m]
    rw [ht, Wb, hrk]; rfl
  | true =>
   have := Yhx (l := g.events[k].prev) (step := fun z : Bool × Int => Z6n g (Yom g.events T) (i : Int) (k : Int) z.1 z.2) (fun q j => (q, j)) (fun q => q) (fun q p => q && !decide (p = g.events[i].id)) (fun _ _ => True) hpl (fun j q hj _ => by
    refine ⟨?_, trivial⟩
    simp only [Z6n, Z6m, Z6l]
    rw [ht, Wb, hrk, Wu, Yhg hk, Wb, dlt hj, Wu, Yhg hi, Yhh hj hpl]
    cases q with
    | false => rfl
    | true =>
     simp only [Wu, Wb]
     rw [Yhg hj, Wb, bned]; rfl)
    (fun q _ => by
     simp only [Z6n, Z6m]
     rw [ht, Wb, hrk, Wu, Yhg hk, Wb, dnlt, Wv]) (s := b) trivial
   rw [this.1]
   congr 1
   have key : ∀ (ps : List Int) (q : Bool), ps.foldl (fun q p => q && !decide (p = g.events[i].id)) q = (q && !decide (g.events[i].id ∈ ps)) := by
    intro ps
    induction ps with
    | nil => intro q; simp
    | cons p ps ih =>
     intro q
     rw [List.foldl_cons, ih]
     by_cases hp : p = g.events[i].id
     ·
      simp [hp]
     ·
      simp [hp, show ¬ g.events[i].id = p from fun h => hp h.symm]
   rw [key]; simp
 have inner2 : ∀ (i : Nat) (hi : i < g.events.length) (b : Bool), iter (fun z : Bool × Int => Z6o g (Yom g.events T) (i : Int) z.1 z.2) big (b, 0) = some (b && endT g.events T g.events[i].id) := by
  intro i hi b
  have := Yhx (l := g.events) (step := fun z : Bool × Int => Z6o g (Yom g.events T) (i : Int) z.1 z.2) (fun q j => (q, j)) (fun q => q) (fun q e => q && (!T e.id || !decide (g.events[i].id ∈ e.prev))) (fun _ _ => True) (by omega) (fun k q hk _ => by
   refine ⟨?_, trivial⟩
   simp only [Z6o]
   rw [dlt hk, Wu, inner1 i k hi hk, Wb]
   simp only [Z6k]
   rw [Yhh hk (by omega)])
   (fun q _ => by simp only [Z6o]; rw [dnlt, Wv]) (s := b) trivial
  rw [this.1]
  congr 1
  have key : ∀ (l : List Yaa) (q : Bool), l.foldl (fun q e => q && (!T e.id || !decide (g.events[i].id ∈ e.prev))) q = (q && l.all fun e => (!T e.id || !decide (g.events[i].id ∈ e.prev))) := by
   intro l
   induction l with
   | nil => intro q; simp
   | cons e l ih => intro q; rw [List.foldl_cons, ih, List.all_cons, Bool.and_assoc]
  rw [key]
  congr 1
  unfold endT accT
  rw [Bool.eq_iff_iff, List.all_eq_true, List.all_eq_true]
  constructor
  ·
   intro h1 id hid
   obtain ⟨h2, h3⟩ := List.mem_filter.1 hid
   obtain ⟨_, e2, e3⟩ := Ymn h2 hr.fits.up
   have := h1 _ e2
   rw [e3, h3] at this
   simpa using this
  ·
   intro h1 e he
   cases h3 : T e.id with
   | false => rfl
   | true =>
    have := h1 e.id (List.mem_filter.2 ⟨List.mem_map.2 ⟨e, he, rfl⟩, h3⟩)
    have e1 : evD g.events e.id = e := by unfold evD; rw [hr.fits.up.evAt_mem he]; rfl
    rw [e1] at this
    simpa using this
 have := Yhx (l := g.events) (step := fun z : List Int × Int => Z6p g (Yom g.events T) z.1 z.2) (fun q j => (q, j)) (fun q => q) (fun q e => if (T e.id && endT g.events T e.id) = true then q ++ [e.id] else q) (fun i q => q.length ≤ i) (by omega) (fun i q hi hq => by
  refine ⟨?_, by split <;> first | omega | (rw [List.length_append, List.length_singleton]; omega)⟩
  have ht : getI (Yom g.events T) (i : Int) = some (T g.events[i].id) := Yop _ hi
  simp only [Z6p]
  rw [dlt hi, Wu, ht, Wb, inner2 i hi, Wb]
  simp only [Z6j, Z6i]
  rw [Yhg hi, Yhh hi (by omega), Wb, chk8 (by simp; omega)]
  cases (T g.events[i].id && endT g.events T g.events[i].id) <;> rfl)
  (fun q _ => by simp only [Z6p]; rw [dnlt, Wv]) (s := []) (by simp)
 rw [this.1, Wb]
 simp only [Z6h]
 congr 1
 unfold endsT accT
 rw [List.filter_filter]
 have key : ∀ (l : List Yaa) (q : List Int), l.foldl (fun q e => if (T e.id && endT g.events T e.id) = true then q ++ [e.id] else q) q = q ++ (l.map (·.id)).filter fun x => endT g.events T x && T x := by
  intro l
  induction l with
  | nil => intro q; simp
  | cons e l ih =>
   intro q
   rw [List.foldl_cons, ih]
   cases hc : T e.id && endT g.events T e.id with
   | true => rw [if_pos rfl, List.map_cons, List.filter_cons_of_pos (by rw [Bool.and_comm]; exact hc)]; simp
   | false => rw [if_neg (by simp), List.map_cons, List.filter_cons_of_neg (by rw [Bool.and_comm, hc]; simp)]
 rw [key]; rfl


def nowT (g : Yaf) (h : Yan) (T : Int → Bool) : List Yai := Ymr g ((endsT g.events T).map (behI h.after))

theorem Both.endsT {g : Yaf} {h : Yan} {w : Yaj} (hb : Both g h w) (hr : Ynl g) (T : Int → Bool) : Mrg g ((endsT g.events T).map (behI h.after)) := by
 refine ⟨hr.fits, hr.ev, hr.deep, fun s hs => ?_, by have := Yol hr.fits T; simp; omega⟩
 obtain ⟨id, hid, rfl⟩ := List.mem_map.1 hs
 have hm := Yok hid
 obtain ⟨_, e2, e3⟩ := Ymn hm hr.fits.up
 have := (hb.behind hr e2).2
 rwa [e3] at this

theorem Yor {g : Yaf} {h : Yan} {w : Yaj} (hb : Both g h w) (hr : Ynl g) (T : Int → Bool) : Z6y g w (Yom g.events T) = some (nowT g h T) := by
 have hgr := hb.graph
 have hel := Yol hr.fits T
 have hfl := hr.fits.len
 unfold Z6y
 rw [Yoq hr, Wb]
 have := Yhx (l := endsT g.events T) (step := fun z : List (List Yai) × Int => Z6x g w (endsT g.events T) z.1 z.2) (fun q j => (q, j)) (fun q => q) (fun q p => q ++ [behI h.after p]) (fun i q => q.length = i) (by omega) (fun i q hi hq => by
  refine ⟨?_, by simp [hq]⟩
  have hm := Yok (Wm hi)
  obtain ⟨_, e2, e3⟩ := Ymn hm hr.fits.up
  have hbe := (hb.behind hr e2).1
  rw [e3] at hbe
  simp only [Z6x]
  rw [dlt hi, Wu, Yhg hi, Wb, Yid _ _ (by omega), Wb, hbe, Wb, Ykt (by simp; omega), Wb, Yhh hi (by omega)])
  (fun q _ => by simp only [Z6x]; rw [dnlt, Wv]) (s := []) rfl
 rw [this.1, Yno, Wb]
 simp only [Z6w, List.nil_append]
 have hm' : Mrg h.graph ((endsT g.events T).map (behI h.after)) := by rw [hgr]; exact hb.endsT hr T
 obtain ⟨c1, _, _⟩ := Ymt hm' hb.depth
 rw [hb.depths, ← hgr]
 rw [hgr] at c1 ⊢
 rw [c1]
 rfl

theorem Yos {g : Yaf} {h : Yan} {w : Yaj} (hb : Both g h w) (hr : Ynl g) : Z6u w = some (Yom g.events (refB h)) := by
 have hfl := hr.fits.len
 have hlc := hb.lc
 unfold Z6u
 rw [Y4z (Wt (by omega)), Wb, Int.toNat_natCast]
 rw [Yoo (by omega) (fun l i => by simp only [Z6t]), Wb]
 have := Yon hb hr
 rw [hb.graph] at this
 rw [this]; rfl
end Go.Proofs.YtnoknphekhclcaaGreat
namespace Go.Proofs.YtnoknphekhclcaaGreat
open Go Go.Abs


theorem Yot {α σ τ ω : Type} {l : List α} {step : τ → Option (τ ⊕ ω)} (emb : σ → Int → τ) (fin : σ → ω) (bad : ω) (p : Nat → Bool) (g : σ → α → σ) (I : Nat → σ → Prop) (hl : l.length < 9223372036854775807)
  (h1 : ∀ (i : Nat) (s : σ) (hi : i < l.length), I i s → (∀ j, j < i → p j = true) → step (emb s i) = some (cond (p i) (.inl (emb (g s l[i]) ((i + 1 : Nat) : Int))) (.inr bad)) ∧ (p i = true → I (i + 1) (g s l[i])))
  (h2 : ∀ s, I l.length s → step (emb s l.length) = some (.inr (fin s))) {s : σ} (h0 : I 0 s) :
  ((∀ i, i < l.length → p i = true) ∧ iter step big (emb s 0) = some (fin (l.foldl g s)) ∧ I l.length (l.foldl g s)) ∨ ((∃ i, i < l.length ∧ p i = false) ∧ iter step big (emb s 0) = some bad) := by
 have key : ∀ m i k : Nat, ∀ s, i + m = l.length → m < k → I i s → (∀ j, j < i → p j = true) →
   ((∀ i, i < l.length → p i = true) ∧ iter step k (emb s i) = some (fin ((l.drop i).foldl g s)) ∧ I l.length ((l.drop i).foldl g s)) ∨ ((∃ i, i < l.length ∧ p i = false) ∧ iter step k (emb s i) = some bad) := by
  intro m
  induction m with
  | zero =>
   intro i k s hm hk hi hp
   obtain ⟨k, rfl⟩ : ∃ k', k = k' + 1 := ⟨k - 1, by omega⟩
   obtain rfl : i = l.length := by omega
   rw [iter, h2 s hi, List.drop_length]
   exact .inl ⟨hp, rfl, hi⟩
  | succ m ih =>
   intro i k s hm hk hi hp
   obtain ⟨k, rfl⟩ : ∃ k', k = k' + 1 := ⟨k - 1, by omega⟩
   have hil : i < l.length := by omega
   obtain ⟨e1, e2⟩ := h1 i s hil hi hp
   cases hpi : p i with
   | false =>
    rw [hpi] at e1
    exact .inr ⟨⟨i, hil, hpi⟩, by rw [iter, e1]; rfl⟩
   | true =>
    rw [hpi] at e1
    rw [iter, e1, List.drop_eq_getElem_cons hil, List.foldl_cons]
    exact ih (i + 1) k _ (by omega) (by omega) (e2 hpi) fun j hj => by
     rcases Nat.lt_or_ge j i with h | h
     ·
      exact hp j h
     ·
      obtain rfl : j = i := by omega
      exact hpi
 have := key l.length 0 big s (by omega) (Yhb (by omega)) h0 fun j hj => by omega
 simpa using this


abbrev Pr := Int × Int
def pr (x : Yac) : Pr := (x.room, x.id)
def prs (l : List Yac) : List Pr := l.map pr
def posP (l : List Pr) (y : Pr) : Int := if y ∈ l then (l.idxOf y : Int) + 1 else 0

theorem You (l : List Pr) (a y : Pr) : posP (l ++ [a]) y = if y ∈ l then posP l y else if y = a then (l.length : Int) + 1 else 0 := by
 unfold posP
 by_cases h : y ∈ l
 ·
  rw [if_pos h, if_pos h, if_pos (by simp [h]), List.idxOf_append, if_pos h]
 ·
  rw [if_neg h]
  by_cases ha : y = a
  ·
   subst ha
   rw [if_pos (by simp), if_pos rfl, List.idxOf_append, if_neg h]
   simp
  ·
   rw [if_neg (by simp [h, ha]), if_neg ha]
theorem Yov {l : List Pr} {y : Pr} : 0 < posP l y ↔ y ∈ l := by
 unfold posP
 by_cases h : y ∈ l
 ·
  rw [if_pos h]; exact ⟨fun _ => h, fun _ => by omega⟩
 ·
  rw [if_neg h]; exact ⟨fun x => by omega, fun x => absurd x h⟩
theorem Yow {l : List Pr} {y : Pr} {i : Nat} (hi : i ≤ l.length) : y ∈ l.take i ↔ y ∈ l ∧ l.idxOf y < i := by
 constructor
 ·
  intro h
  refine ⟨List.mem_of_mem_take h, ?_⟩
  have e : l = l.take i ++ l.drop i := (List.take_append_drop i l).symm
  have h2 := List.idxOf_lt_length_of_mem h
  rw [List.length_take] at h2
  rw [e, List.idxOf_append, if_pos h]
  omega
 ·
  rintro ⟨h, hlt⟩
  have h1 := List.idxOf_lt_length_of_mem h
  have : l[l.idxOf y] = y := List.getElem_idxOf h1
  rw [List.mem_take_iff_getElem]
  exact ⟨l.idxOf y, by omega, this⟩
theorem Yox {l : List Pr} {y : Pr} {i : Nat} (hi : i ≤ l.length) : y ∈ l.take i ↔ 0 < posP l y ∧ posP l y ≤ i := by
 rw [Yow hi, Yov]
 unfold posP
 constructor
 ·
  rintro ⟨h, hlt⟩; rw [if_pos h]; exact ⟨h, by omega⟩
 ·
  rintro ⟨h, hlt⟩; rw [if_pos h] at hlt; exact ⟨h, by omega⟩
theorem Yoy {α : Type} {l : List α} (h : l.Nodup) {i j : Nat} (hi : i < l.length) (hj : j < l.length) (e : l[i] = l[j]) : i = j := by
 have hp := List.pairwise_iff_getElem.1 (List.nodup_iff_pairwise_ne.1 h)
 rcases Nat.lt_trichotomy i j with h1 | h1 | h1
 ·
  exact absurd e (hp i j hi hj h1)
 ·
  exact h1
 ·
  exact absurd e.symm (hp j i hj hi h1)
theorem Yoz {l : List Pr} (h : l.Nodup) {i : Nat} (hi : i < l.length) : l.idxOf l[i] = i := by
 have hm : l[i] ∈ l := Wm hi
 have h1 := List.idxOf_lt_length_of_mem hm
 have e : l[l.idxOf l[i]] = l[i] := List.getElem_idxOf h1
 exact Yoy h h1 hi e
theorem Yp0 {l : List Pr} : l.Nodup ↔ ∀ (i : Nat) (hi : i < l.length), l[i] ∉ l.take i := by
 constructor
 ·
  intro h i hi hm
  have := (Yow (by omega)).1 hm
  rw [Yoz h hi] at this
  omega
 ·
  intro h
  rw [List.nodup_iff_pairwise_ne, List.pairwise_iff_getElem]
  intro i j hi hj hij e
  exact h j hj (by rw [List.mem_take_iff_getElem]; exact ⟨i, by omega, e⟩)

theorem Yp1 : ∀ {a l : List Pr}, a.Nodup → (∀ x ∈ a, x ∈ l) → a.length ≤ l.length
 | [], _, _, _ => Nat.zero_le _
 | x :: a, l, hn, hs => by
  simp only [List.nodup_cons] at hn
  have hx : x ∈ l := hs x (by simp)
  have := Yp1 (l := l.erase x) hn.2 fun y hy => (List.mem_erase_of_ne (fun e => hn.1 (by rw [← e]; exact hy))).2 (hs y (by simp [hy]))
  rw [List.length_erase_of_mem hx] at this
  have : 0 < l.length := List.length_pos_of_mem hx
  simp only [List.length_cons]; omega
theorem Yp2 {a l : List Pr} (hn : a.Nodup) (hs : ∀ x ∈ a, x ∈ l) (hl : l.length ≤ a.length) : ∀ x ∈ l, x ∈ a := by
 intro x hx
 by_cases h : x ∈ a
 ·
  exact h
 ·
  have := Yp1 (a := x :: a) (l := l) (List.nodup_cons.2 ⟨h, hn⟩) fun y hy => by
   rcases List.mem_cons.1 hy with rfl | hy
   ·
    exact hx
   ·
    exact hs y hy
  simp only [List.length_cons] at this
  omega


def Yp3 : Yan := ⟨⟨0, [], []⟩, [], [], [], []⟩
def hiG (g : Yaf) : Yan := (Zgu g).getD Yp3
def knG (g : Yaf) : Yaj := (Z6f g).getD ⟨[], [], [], []⟩
theorem Yp4 {g : Yaf} (hr : Ynl g) : Zgu g = some (hiG g) ∧ Z6f g = some (knG g) ∧ Both g (hiG g) (knG g) := by
 obtain ⟨h, w, h1, h2, h3⟩ := Ynq hr
 unfold hiG knG
 rw [h1, h2]
 exact ⟨rfl, rfl, h3⟩

def okB (g : Yaf) (id : Int) : Bool := refB (hiG g) id
def posG (s : List Pr) (g : Yaf) : List Int := g.events.map fun e => posP s (g.room, e.id)
def nowG (g : Yaf) : List Yai := nowT g (hiG g) (okB g)
def wOf (h : Yag) : Yak := ⟨h, h.rooms.map knG, h.rooms.map (posG (prs h.stream)), h.rooms.map nowG⟩

theorem Yp5 {s : List Pr} {g : Yaf} {j : Nat} (hj : j < g.events.length) (h2 : j < (posG s g).length) : (posG s g)[j] = posP s (g.room, g.events[j].id) := List.getElem_map _

theorem Yp6 {h : Yag} {g : Yaf} (hr : Ynl g) (hn : (prs h.stream).Nodup) (hl : h.stream.length ≤ 120) :
  iter (fun z : List Int × Int => Z74 h g z.1 z.2) big (List.replicate g.events.length 0, 0) = some (posG (prs h.stream) g) := by
 have hfl := hr.fits.len
 obtain ⟨o, e1, rfl⟩ := Yhe (τ := List Int × Int) (ω := List Int) (σ := List Int) (step := fun z : List Int × Int => Z74 h g z.1 z.2) (n := h.stream.length) (fun s j => (s, j)) (fun i s => s = posG ((prs h.stream).take i) g) (fun o => o = posG (prs h.stream) g) (by omega) (by
  rintro i s hi rfl
  have hil : i < (prs h.stream).length := by unfold prs; rw [List.length_map]; exact hi
  have eL : (prs h.stream)[i] = (h.stream[i].room, h.stream[i].id) := List.getElem_map pr
  have etk : (prs h.stream).take (i + 1) = (prs h.stream).take i ++ [(h.stream[i].room, h.stream[i].id)] := by rw [List.take_add_one, We hil, eL]; rfl
  have hnot := Yp0.1 hn i hil
  rw [eL] at hnot
  have hw := Yhh hi (by omega : h.stream.length < 9223372036854775807)
  have hlt : ((prs h.stream).take i).length = i := by rw [List.length_take]; omega
  have hskip : (∀ e ∈ g.events, (g.room, e.id) ≠ (h.stream[i].room, h.stream[i].id)) → posG ((prs h.stream).take i) g = posG ((prs h.stream).take (i + 1)) g := fun hx => by
   unfold posG
   refine List.map_congr_left fun e he => ?_
   rw [etk, You]
   by_cases hm : (g.room, e.id) ∈ (prs h.stream).take i
   ·
    rw [if_pos hm]
   ·
    rw [if_neg hm, if_neg (hx e he)]
    unfold posP; rw [if_neg hm]
  simp only [Z74]
  rw [dlt hi, Wu, Yhg hi, Wb, Yid _ _ (by omega), Wb, beqd]
  by_cases hroom : h.stream[i].room = g.room
  ·
   rw [Wt hroom, Wu, Yie]
   cases hh : hasE g.events h.stream[i].id with
   | false =>
    refine ⟨_, by simp only [Z73, Z72, Wv]; rw [hw], hskip fun e he ee => ?_⟩
    have : e.id = h.stream[i].id := (Prod.mk.inj ee).2
    have := Yij.2 ⟨e, he, this⟩
    rw [hh] at this; cases this
   | true =>
    obtain ⟨k, hk, h1, h2, h3⟩ := Yig hh
    have hkl : k < (posG ((prs h.stream).take i) g).length := by unfold posG; rw [List.length_map]; exact hk
    refine ⟨(posG ((prs h.stream).take i) g).set k ((i + 1 : Nat) : Int), by simp only [Z73, Z72, Wu]; rw [h1, Yhg hkl, Wb, Int.toNat_natCast, hw], ?_⟩
    refine List.ext_getElem (by simp [posG]) fun j hj1 hj2 => ?_
    have hj : j < g.events.length := by simpa [posG] using hj2
    have hj0 : j < (posG ((prs h.stream).take i) g).length := by simpa [posG] using hj
    rw [List.getElem_set, Yp5 hj hj2, Yp5 hj hj0]
    simp only [etk]
    rw [You]
    by_cases hjk : k = j
    ·
     subst hjk
     have ee : (g.room, g.events[k].id) = (h.stream[i].room, h.stream[i].id) := by rw [h2, hroom]
     rw [if_pos rfl, ee, if_neg hnot, if_pos rfl, hlt]; omega
    ·
     rw [if_neg hjk]
     by_cases hm : (g.room, g.events[j].id) ∈ (prs h.stream).take i
     ·
      rw [if_pos hm]
     ·
      rw [if_neg hm, if_neg (fun ee => hjk (hr.fits.up.inj hk hj (by rw [h2]; exact (Prod.mk.inj ee).2.symm)))]
      unfold posP; rw [if_neg hm]
  ·
   rw [Wf hroom, Wv]
   exact ⟨_, by simp only [Z73, Z72, Wv]; rw [hw], hskip fun e he ee => hroom (Prod.mk.inj ee).1.symm⟩) (by
  rintro s rfl
  simp only [Z74]
  rw [dnlt, Wv]
  exact ⟨_, rfl, by rw [show h.stream.length = (prs h.stream).length by simp [prs], List.take_length]⟩) (s := List.replicate g.events.length 0) (by
  show List.replicate g.events.length 0 = posG [] g
  exact List.ext_getElem (by simp [posG]) fun j h1 h2 => by simp [posG, posP])
 exact e1

theorem Yp7 {h : Yag} (hr : ∀ g ∈ h.rooms, Ynl g) (hn : (prs h.stream).Nodup) (hl : h.stream.length ≤ 120) (h3 : h.rooms.length = 3) : Z76 h = some (wOf h) := by
 unfold Z76
 have := Yhx (l := h.rooms) (step := fun z : List Yaj × List (List Int) × List (List Yai) × Int => Z75 h z.1 z.2.1 z.2.2.1 z.2.2.2) (fun (q : List Yaj × List (List Int) × List (List Yai)) j => (q.1, q.2.1, q.2.2, j)) (fun q => q)
  (fun q g => (q.1 ++ [knG g], q.2.1 ++ [posG (prs h.stream) g], q.2.2 ++ [nowG g])) (fun i q => q.1.length = i ∧ q.2.1.length = i ∧ q.2.2.length = i) (by omega) (fun i q hi ⟨q1, q2, q3⟩ => by
  refine ⟨?_, by simp [q1], by simp [q2], by simp [q3]⟩
  have hg := hr _ (Wm hi)
  have hfl := hg.fits.len
  obtain ⟨b1, b2, b3⟩ := Yp4 hg
  have hp := Yp6 hg hn hl
  simp only [Z75]
  rw [dlt hi, Wu, Yhg hi, Wb, b2, Wb, Y4z (Wt (by simp; omega)), Wb, Yos b3 hg, Wb, Yor b3 hg, Wb, Ykt (by simp; omega), Wb, Y4z (Wt (by omega)), Wb, Int.toNat_natCast, hp, Wb]
  simp only [Z71]
  rw [Ykt (by simp; omega), Wb, Yhh hi (by omega)]
  rfl)
  (fun q _ => by simp only [Z75]; rw [dnlt, Wv]) (s := ([], [], [])) ⟨rfl, rfl, rfl⟩
 rw [this.1, Wb]
 have key : ∀ (l : List Yaf) (q : List Yaj × List (List Int) × List (List Yai)), l.foldl (fun q g => (q.1 ++ [knG g], q.2.1 ++ [posG (prs h.stream) g], q.2.2 ++ [nowG g])) q = (q.1 ++ l.map knG, q.2.1 ++ l.map (posG (prs h.stream)), q.2.2 ++ l.map nowG) := by
  intro l
  induction l with
  | nil => intro q; simp
  | cons g l ih => intro q; rw [List.foldl_cons, ih]; simp
 rw [key]
 simp only [List.nil_append, Z70]
 rfl
end Go.Proofs.YtnoknphekhclcaaGreat
namespace Go.Proofs.YtnoknphekhclcaaGreat
open Go Go.Abs

def inS (s : List Pr) (g : Yaf) (e : Yaa) : Bool := decide (0 < posP s (g.room, e.id))
def strE (s : List Pr) (g : Yaf) (e : Yaa) : Bool := (okB g e.id == inS s g e) && (!inS s g e || e.prev.all fun p => decide (posP s (g.room, p) < posP s (g.room, e.id)))
def Yp8 (s : List Pr) (g : Yaf) : Nat := (g.events.filter (inS s g)).length
def Yp9 (s : List Pr) (l : List Yaf) : Nat := (l.map (Yp8 s)).sum

theorem Ypa (s : List Pr) (g : Yaf) : ∀ (l : List Yaa) (m : Int), l.foldl (fun m e => if inS s g e = true then m + 1 else m) m = m + (l.filter (inS s g)).length
 | [], m => by simp
 | e :: l, m => by
  rw [List.foldl_cons, Ypa s g l]
  cases h : inS s g e with
  | true => rw [if_pos rfl, List.filter_cons_of_pos h, List.length_cons]; omega
  | false => rw [if_neg (by simp), List.filter_cons_of_neg (by simp [h])]
theorem Ypb (s : List Pr) : ∀ (l : List Yaf) (m : Int), l.foldl (fun m g => m + (Yp8 s g : Int)) m = m + (Yp9 s l : Nat)
 | [], m => by simp [Yp9]
 | g :: l, m => by
  rw [List.foldl_cons, Ypb s l]
  unfold Yp9
  rw [List.map_cons, List.sum_cons]
  omega

def atB {α : Type} (l : List α) (p : α → Bool) (i : Nat) : Bool := if h : i < l.length then p l[i] else true
theorem Ypc {α : Type} {l : List α} {p : α → Bool} {i : Nat} (h : i < l.length) : atB l p i = p l[i] := by unfold atB; rw [dif_pos h]
theorem Ypd {α : Type} {l : List α} {p : α → Bool} : (∀ i, i < l.length → atB l p i = true) ↔ l.all p = true := Yhv
theorem Ype {α : Type} {l : List α} {p : α → Bool} (h : ∃ i, i < l.length ∧ atB l p i = false) : l.all p = false := by
 obtain ⟨i, hi, hb⟩ := h
 rw [Bool.eq_false_iff]
 intro ha
 have := Ypd.2 ha i hi
 rw [hb] at this; cases this

theorem Ypf {s : List Pr} {g : Yaf} (hr : Ynl g) {k : Nat} (hk : k < g.events.length) :
  iter (Z7d g (k : Int) (posG s g) (posP s (g.room, g.events[k].id))) big 0 = some (cond (!inS s g g.events[k] || g.events[k].prev.all fun p => decide (posP s (g.room, p) < posP s (g.room, g.events[k].id))) (.inr ()) (.inl false)) := by
 have hpl := hr.fits.plen _ (Wm hk)
 have hfl := hr.fits.len
 cases hin : inS s g g.events[k] with
 | false =>
  have h0 : decide (posP s (g.room, g.events[k].id) > 0) = false := hin
  rw [Y52 (o := .inr ()) (fun m (x : Int) => x = 0 ∧ m = 0) ?_ (m := 0) ⟨rfl, rfl⟩ (Yhb (by omega))]
  ·
   rfl
  ·
   rintro m x ⟨rfl, rfl⟩
   left
   simp only [Z7d]
   rw [Yhg hk, Wb, h0]
   cases decide ((0 : Int) < (g.events[k].prev.length : Int)) <;> rfl
 | true =>
  have h0 : decide (posP s (g.room, g.events[k].id) > 0) = true := hin
  rw [Yhw (l := g.events[k].prev) (fun p => decide (posP s (g.room, p) < posP s (g.room, g.events[k].id))) (.inl false) (.inr ()) hpl (fun i hi => by
   obtain ⟨j, hj, j1, j2, _⟩ := Yig (hr.fits.whole _ (Wm hk) _ (Wm hi))
   have hjl : j < (posG s g).length := by unfold posG; rw [List.length_map]; exact hj
   simp only [Z7d]
   rw [Yhg hk, Wb, dlt hi, Wu, h0]
   simp only [Z7c]
   rw [Yhg hk, Wu, Wb, Yhg hi, Wb, Yid _ _ (by omega), Wb, j1, Yhg hjl, Wb, Yp5 hj, j2, Yhh hi hpl]
   by_cases hc : posP s (g.room, g.events[k].prev[i]) < posP s (g.room, g.events[k].id)
   ·
    rw [Wt hc, Wf (by omega)]; rfl
   ·
    rw [Wf hc, Wt (by omega)]; rfl) (by
   simp only [Z7d]
   rw [Yhg hk, Wb, dnlt, Wv]; rfl)]
  rfl

theorem Ypg {g : Yaf} (hr : Ynl g) {k : Nat} (hk : k < g.events.length) : ∃ c, getI (knG g).code (k : Int) = some c ∧ (c == 0) = okB g g.events[k].id := by
 obtain ⟨c, h1, h2⟩ := (Yp4 hr).2.2.code (Wm hk)
 rw [(hr.fits.up.plc hk).1] at h1
 refine ⟨c, h1, ?_⟩
 unfold okB refB
 rw [h2, beqd]

theorem Yph {h : Yag} {i : Nat} (hi : i < h.rooms.length) (hr : Ynl h.rooms[i]) {m : Int} (hm : 0 ≤ m ∧ m ≤ 1000) :
  iter (fun z : Int × Int => Z7e (wOf h) (i : Int) h.rooms[i] z.1 z.2) big (m, 0) = some (cond (h.rooms[i].events.all (strE (prs h.stream) h.rooms[i])) (.inr (m + (Yp8 (prs h.stream) h.rooms[i] : Int))) (.inl false)) := by
 have hfl := hr.fits.len
 have g1 : getI (wOf h).rooms (i : Int) = some (knG h.rooms[i]) := Yop knG hi
 have g2 : getI (wOf h).pos (i : Int) = some (posG (prs h.stream) h.rooms[i]) := Yop _ hi
 have := Yot (l := h.rooms[i].events) (step := fun z : Int × Int => Z7e (wOf h) (i : Int) h.rooms[i] z.1 z.2) (fun q j => (q, j)) (fun q => Sum.inr q) (Sum.inl false) (atB h.rooms[i].events (strE (prs h.stream) h.rooms[i])) (fun m e => if inS (prs h.stream) h.rooms[i] e = true then m + 1 else m) (fun k q => 0 ≤ q ∧ q ≤ 1000 + k) (by omega) (fun k q hk ⟨q1, q2⟩ _ => by
  refine ⟨?_, fun _ => by split <;> omega⟩
  obtain ⟨c, c1, c2⟩ := Ypg hr hk
  have hkl : k < (posG (prs h.stream) h.rooms[i]).length := by unfold posG; rw [List.length_map]; exact hk
  have hp := Ypf (s := prs h.stream) hr hk
  have hw := Yhh hk (by omega : h.rooms[i].events.length < 9223372036854775807)
  have hin : decide (posP (prs h.stream) (h.rooms[i].room, h.rooms[i].events[k].id) > 0) = inS (prs h.stream) h.rooms[i] h.rooms[i].events[k] := rfl
  simp only [Z7e]
  rw [dlt hk, Wu, g1, Wb, c1, Wb, g2, Wb, Yhg hkl, Wb, Yp5 hk, c2, hin, hp, Wb, Ypc hk]
  unfold strE
  cases ho : okB h.rooms[i] h.rooms[i].events[k].id == inS (prs h.stream) h.rooms[i] h.rooms[i].events[k] with
  | false => rfl
  | true =>
   rw [Wu, Bool.true_and]
   cases hc : (!inS (prs h.stream) h.rooms[i] h.rooms[i].events[k] || h.rooms[i].events[k].prev.all fun p => decide (posP (prs h.stream) (h.rooms[i].room, p) < posP (prs h.stream) (h.rooms[i].room, h.rooms[i].events[k].id))) with
   | false => rfl
   | true =>
    simp only [Wu, Z7b, Z7a]
    rw [hin, hw, Y4y (n := q + 1) (by omega) (by omega)]
    cases inS (prs h.stream) h.rooms[i] h.rooms[i].events[k] <;> rfl)
  (fun q _ => by simp only [Z7e]; rw [dnlt, Wv]) (s := m) ⟨hm.1, by omega⟩
 rcases this with ⟨a1, a2, _⟩ | ⟨a1, a2⟩
 ·
  rw [a2, Ypd.1 a1, Ypa]; rfl
 ·
  rw [a2, Ype a1]; rfl

theorem Ypi {s : List Pr} {g : Yaf} (hr : Ynl g) : Yp8 s g ≤ 60 := Nat.le_trans (List.length_filter_le _ _) hr.fits.len

theorem Ypj {h : Yag} (hr : ∀ g ∈ h.rooms, Ynl g) (h3 : h.rooms.length = 3) (hl : h.stream.length ≤ 120) :
  Z7g (wOf h) = some ((h.rooms.all fun g => g.events.all (strE (prs h.stream) g)) && decide (Yp9 (prs h.stream) h.rooms = h.stream.length)) := by
 unfold Z7g
 have := Yot (l := h.rooms) (step := fun z : Int × Int => Z7f (wOf h) z.1 z.2) (fun q j => (q, j)) (fun q => Sum.inr q) (Sum.inl false) (atB h.rooms fun g => g.events.all (strE (prs h.stream) g)) (fun m g => m + (Yp8 (prs h.stream) g : Int)) (fun k q => 0 ≤ q ∧ q ≤ 60 * k) (by omega) (fun k q hk ⟨q1, q2⟩ _ => by
  have hg := hr _ (Wm hk)
  have hml := Ypi (s := prs h.stream) hg
  refine ⟨?_, fun _ => by omega⟩
  have hev := Yph (h := h) hk hg (m := q) ⟨q1, by omega⟩
  have g0 : getI (wOf h).h.rooms (k : Int) = some h.rooms[k] := Yhg hk
  have hw := Yhh hk (by omega : h.rooms.length < 9223372036854775807)
  have hd : decide ((k : Int) < ((wOf h).h.rooms.length : Int)) = true := dlt hk
  simp only [Z7f]
  rw [hd, Wu, g0, Wb, hev, Wb, Ypc hk]
  cases h.rooms[k].events.all (strE (prs h.stream) h.rooms[k]) with
  | false => rfl
  | true => simp only [Wu, Z79]; rw [hw])
  (fun q _ => by
   have hd : decide ((h.rooms.length : Int) < ((wOf h).h.rooms.length : Int)) = false := dnlt _
   simp only [Z7f]; rw [hd, Wv]) (s := 0) ⟨by omega, by omega⟩
 rcases this with ⟨a1, a2, _⟩ | ⟨a1, a2⟩
 ·
  rw [a2, Ypd.1 a1, Ypb, Wb]
  simp only [Z78]
  rw [beqd, Bool.true_and]
  congr 1
  rw [Bool.eq_iff_iff]
  simp only [decide_eq_true_eq]
  show (0 + ((Yp9 (prs h.stream) h.rooms : Nat) : Int) = (h.stream.length : Int)) ↔ _
  omega
 ·
  rw [a2, Ype a1]; rfl
end Go.Proofs.YtnoknphekhclcaaGreat
namespace Go.Proofs.YtnoknphekhclcaaGreat
open Go Go.Abs

structure Ypk (h : Yag) : Prop where
 rl : h.rooms.length ≤ 1048576
 sl : h.stream.length ≤ 1048576
 fine : ∀ g ∈ h.rooms, Fine g

def gB (g : Yaf) : Bool := (Z3l g).getD false
theorem Ypl {g : Yaf} (hg : Fine g) : Z3l g = some (gB g) ∧ Zc8 g = some (gB g) ∧ (gB g = true ↔ GOk g) := by
 obtain ⟨b, h1, h2, h3⟩ := Yko hg
 unfold gB
 rw [h1]
 exact ⟨rfl, h2, h3⟩
def rB (l : List Yaf) (i : Nat) : Bool := if h : i < l.length then gB l[i] && decide (l[i].room = (i : Int) + 1) else true
theorem Ypm {l : List Yaf} {i : Nat} (h : i < l.length) : rB l i = (gB l[i] && decide (l[i].room = (i : Int) + 1)) := by unfold rB; rw [dif_pos h]
def Ypn (h : Yag) : Prop := ∀ (i : Nat) (hi : i < h.rooms.length), GOk h.rooms[i] ∧ h.rooms[i].room = (i : Int) + 1
theorem Ypo {h : Yag} (hf : Ypk h) : (∀ i, i < h.rooms.length → rB h.rooms i = true) ↔ Ypn h := by
 constructor
 ·
  intro k i hi
  have := k i hi
  rw [Ypm hi, Bool.and_eq_true] at this
  exact ⟨(Ypl (hf.fine _ (Wm hi))).2.2.1 this.1, by simpa using this.2⟩
 ·
  intro k i hi
  rw [Ypm hi, Bool.and_eq_true]
  exact ⟨(Ypl (hf.fine _ (Wm hi))).2.2.2 (k i hi).1, by simpa using (k i hi).2⟩
theorem Ypn.right {h : Yag} (k : Ypn h) : ∀ g ∈ h.rooms, Ynl g := fun g hg => by
 obtain ⟨i, hi, rfl⟩ := List.mem_iff_getElem.1 hg
 exact (k i hi).1.right


def zW : Yak := ⟨⟨[], []⟩, [], [], []⟩
def OkS (h : Yag) : Prop := h.rooms.length = 3 ∧ h.stream.length ≤ 120 ∧ Ypn h ∧ (prs h.stream).Nodup ∧ (∀ g ∈ h.rooms, ∀ e ∈ g.events, strE (prs h.stream) g e = true) ∧ Yp9 (prs h.stream) h.rooms = h.stream.length

theorem Ypp {l : List Yac} {i : Nat} (hi : i < l.length) (h2 : i < (prs l).length) : (prs l)[i] = (l[i].room, l[i].id) := List.getElem_map pr
theorem Ypq (l : List Yac) : (prs l).length = l.length := List.length_map pr

theorem eqSp (a b c d : Int) : ((a == b) && ((c == d) && true)) = decide ((b, d) = (a, c)) := by
 rw [Bool.eq_iff_iff]
 simp only [Bool.and_eq_true, beq_iff_eq, and_true, decide_eq_true_eq, Prod.mk.injEq]
 exact ⟨fun x => ⟨x.1.symm, x.2.symm⟩, fun x => ⟨x.1.symm, x.2.symm⟩⟩

theorem Ypr {h : Yag} (hl : h.stream.length ≤ 120) {i : Nat} (hi : i < h.stream.length) :
  iter (Z7k h (i : Int)) big 0 = some (cond (!decide ((h.stream[i].room, h.stream[i].id) ∈ (prs h.stream).take i)) (.inr ()) (.inl (zW, false))) := by
 have hlt : ((prs h.stream).take i).length = i := by rw [List.length_take, Ypq]; omega
 have hgt : ∀ (k : Nat) (hk : k < ((prs h.stream).take i).length), ((prs h.stream).take i)[k] = (h.stream[k].room, h.stream[k].id) := fun k hk => by
  rw [List.getElem_take]; exact Ypp _ _
 rw [Yhw (l := (prs h.stream).take i) (step := Z7k h (i : Int)) (fun y => !decide (y = (h.stream[i].room, h.stream[i].id))) (.inl (zW, false)) (.inr ()) (by omega) (fun k hk => by
  have hki : k < i := by omega
  simp only [Z7k]
  rw [dlt hki, Wu, Yhg hi, Wb, Yhg (by omega : k < h.stream.length), Wb, hgt k hk, Yhh hki (by omega)]
  rw [eqSp]
  cases decide ((h.stream[k].room, h.stream[k].id) = (h.stream[i].room, h.stream[i].id)) <;> rfl) (by
  simp only [Z7k]
  rw [hlt, dnlt, Wv])]
 congr 2
 rw [Bool.eq_iff_iff, List.all_eq_true]
 simp only [Bool.not_eq_true', decide_eq_false_iff_not]
 constructor
 ·
  exact fun k hm => k _ hm rfl
 ·
  exact fun k y hy e => k (e ▸ hy)

theorem Yps {h : Yag} (hf : Ypk h) : ∃ b : Bool, (b = true ↔ OkS h) ∧ Z7q h = some (cond b (wOf h, true) (zW, false)) := by
 have hrl := hf.rl
 have hsl := hf.sl
 unfold Z7q
 by_cases h3 : (h.rooms.length : Int) = 3
 rotate_left
 ·
  refine ⟨false, ⟨fun x => (by cases x), fun x => absurd x.1 (by omega)⟩, ?_⟩
  rw [bned, Wf h3]; rfl
 by_cases hl : (h.stream.length : Int) > 120
 ·
  refine ⟨false, ⟨fun x => (by cases x), fun x => absurd x.2.1 (by omega)⟩, ?_⟩
  rw [bned, Wt h3, Wt hl]; rfl
 rw [bned, Wt h3, Wf hl]
 simp only [Bool.not_true, Wv, Z7p]
 have hl' : h.stream.length ≤ 120 := by omega
 have h3' : h.rooms.length = 3 := by omega
 have := Yot (l := h.rooms) (step := fun z : Int => Z7o h z) (fun (_ : Unit) j => j) (fun _ => Sum.inr ()) (Sum.inl (zW, false)) (rB h.rooms) (fun q _ => q) (fun _ _ => True) (by omega) (fun k q hk _ _ => by
  refine ⟨?_, fun _ => trivial⟩
  obtain ⟨b1, _, _⟩ := Ypl (hf.fine _ (Wm hk))
  have hw := Yhh hk (by omega : h.rooms.length < 9223372036854775807)
  simp only [Z7o]
  rw [dlt hk, Wu, Yhg hk, Wb, b1, Wb, Ypm hk, hw, bned]
  cases gB h.rooms[k] with
  | false => rfl
  | true =>
   simp only [Wu, Bool.true_and, Z7n, hw]
   by_cases hc : h.rooms[k].room = (k : Int) + 1
   ·
    rw [Wt hc, Wt (by omega)]; rfl
   ·
    rw [Wf hc, Wf (by omega)]; rfl)
  (fun q _ => by simp only [Z7o]; rw [dnlt, Wv]) (s := ()) trivial
 rcases this with ⟨a1, a2, _⟩ | ⟨⟨i, hi, a1⟩, a2⟩
 rotate_left
 ·
  refine ⟨false, ⟨fun x => (by cases x), fun x => ?_⟩, ?_⟩
  ·
   have := (Ypo hf).2 x.2.2.1 i hi
   rw [a1] at this; cases this
  ·
   have a2' : iter (Z7o h) big 0 = some (Sum.inl (zW, false)) := a2
   rw [a2']; rfl
 have hro := (Ypo hf).1 a1
 have a2' : iter (Z7o h) big 0 = some (Sum.inr ()) := a2
 rw [a2', Wb]
 simp only [Z7m]
 -- no repetition
 have := Yot (l := prs h.stream) (step := fun z : Int => Z7l h z) (fun (_ : Unit) j => j) (fun _ => Sum.inr ()) (Sum.inl (zW, false)) (fun i => if hi : i < (prs h.stream).length then !decide ((prs h.stream)[i] ∈ (prs h.stream).take i) else true) (fun q _ => q) (fun _ _ => True) (by rw [Ypq]; omega) (fun k q hk _ _ => by
  refine ⟨?_, fun _ => trivial⟩
  have hk' : k < h.stream.length := by rw [Ypq] at hk; exact hk
  have hw := Yhh hk' (by omega : h.stream.length < 9223372036854775807)
  have hd := Ypr hl' hk'
  simp only [Z7l]
  rw [dlt hk', Wu, hd, Wb, dif_pos hk, Ypp hk']
  cases decide ((h.stream[k].room, h.stream[k].id) ∈ (prs h.stream).take k) with
  | false => simp only [Bool.not_false, Wu, Z7j]; rw [hw]
  | true => rfl)
  (fun q _ => by simp only [Z7l]; rw [Ypq, dnlt, Wv]) (s := ()) trivial
 rcases this with ⟨n1, n2, _⟩ | ⟨⟨i, hi, n1⟩, n2⟩
 rotate_left
 ·
  refine ⟨false, ⟨fun x => (by cases x), fun x => ?_⟩, ?_⟩
  ·
   rw [dif_pos hi] at n1
   have := Yp0.1 x.2.2.2.1 i hi
   simp [this] at n1
  ·
   have n2' : iter (Z7l h) big 0 = some (Sum.inl (zW, false)) := n2
   rw [n2']; rfl
 have hnd : (prs h.stream).Nodup := Yp0.2 fun i hi => by
  have := n1 i hi
  rw [dif_pos hi] at this
  simpa using this
 have n2' : iter (Z7l h) big 0 = some (Sum.inr ()) := n2
 rw [n2', Wb]
 simp only [Z7i]
 rw [Yp7 hro.right hnd hl' h3', Wb, Ypj hro.right h3' hl', Wb]
 refine ⟨(h.rooms.all fun g => g.events.all (strE (prs h.stream) g)) && decide (Yp9 (prs h.stream) h.rooms = h.stream.length), ?_, ?_⟩
 ·
  rw [Bool.and_eq_true, List.all_eq_true, decide_eq_true_eq]
  constructor
  ·
   rintro ⟨k1, k2⟩
   exact ⟨h3', hl', hro, hnd, fun g hg e he => List.all_eq_true.1 (k1 g hg) e he, k2⟩
  ·
   rintro ⟨_, _, _, _, k1, k2⟩
   exact ⟨fun g hg => List.all_eq_true.2 fun e he => k1 g hg e he, k2⟩
 ·
  cases (h.rooms.all fun g => g.events.all (strE (prs h.stream) g)) && decide (Yp9 (prs h.stream) h.rooms = h.stream.length) <;> rfl
end Go.Proofs.YtnoknphekhclcaaGreat
namespace Go.Proofs.YtnoknphekhclcaaGreat
open Go Go.Abs

def zS : Yao := ⟨⟨[], []⟩, []⟩
def sOf (h : Yag) : Yao := ⟨h, h.rooms.map hiG⟩
def zG : Yaf := ⟨0, [], []⟩
def rmG (h : Yag) (r : Int) : Yaf := h.rooms.getD (r - 1).toNat zG
def stX (h : Yag) (i : Nat) (x : Yac) : Bool :=
 decide (1 ≤ x.room ∧ x.room ≤ 3) && !decide ((x.room, x.id) ∈ (prs h.stream).take i) && hasE (rmG h x.room).events x.id && okB (rmG h x.room) x.id &&
  (evD (rmG h x.room).events x.id).prev.all fun p => !okB (rmG h x.room) p || decide ((x.room, p) ∈ (prs h.stream).take i)
def stB (h : Yag) (i : Nat) : Bool := if hi : i < h.stream.length then stX h i h.stream[i] else true
def Ypt (g : Yaf) : Nat := (accT g.events (okB g)).length
def Ypu (l : List Yaf) : Nat := (l.map Ypt).sum
theorem Ypv : ∀ (l : List Yaf) (q : List Yan × Int), l.foldl (fun q g => (q.1 ++ [hiG g], q.2 + (Ypt g : Int))) q = (q.1 ++ l.map hiG, q.2 + (Ypu l : Nat))
 | [], q => by simp [Ypu]
 | g :: l, q => by
  rw [List.foldl_cons, Ypv l]
  unfold Ypu
  rw [List.map_cons, List.map_cons, List.sum_cons, List.append_assoc]
  congr 1
  omega

theorem Ypw {g : Yaf} (hr : Ynl g) : Ypt g ≤ 60 := Yoj hr.fits _

def OkI (h : Yag) : Prop := h.rooms.length = 3 ∧ h.stream.length ≤ 120 ∧ Ypn h ∧ (∀ i, i < h.stream.length → stB h i = true) ∧ Ypu h.rooms = h.stream.length

theorem Ypx {h : Yag} (h3 : h.rooms.length = 3) {r : Int} (hr : 1 ≤ r ∧ r ≤ 3) : ∃ (k : Nat) (hk : k < h.rooms.length), r = (k : Int) + 1 ∧ IntKind.i64.wrap (r - 1) = (k : Int) ∧ rmG h r = h.rooms[k] := by
 refine ⟨(r - 1).toNat, by omega, by omega, ?_, ?_⟩
 ·
  rw [Y4y (by omega) (by omega)]; omega
 ·
  unfold rmG
  rw [List.getD_eq_getElem?_getD, We (by omega)]; rfl

theorem Ypy {g : Yaf} (hg : Ynl g) {m : List (Pr × Bool)} {s : List Pr} {x : Yac} (hm : ∀ y, Option.getD (pget m y) false = decide (y ∈ s)) (p : Int) :
  Zh4 p (hiG g) m x = some (!(!okB g p || decide ((x.room, p) ∈ s))) := by
 unfold Zh4
 rw [beqd]
 show cond (okB g p) _ _ = _
 cases okB g p with
 | false => rfl
 | true => simp only [Wu, Zh3, hm]; simp

theorem Ypz {g : Yaf} (hg : Ynl g) {m : List (Pr × Bool)} {s : List Pr} {x : Yac} (hm : ∀ y, Option.getD (pget m y) false = decide (y ∈ s)) (l : List Int) (hl : l.length < 9223372036854775807) :
  Zha l (hiG g) m x = some (!l.all fun p => !okB g p || decide ((x.room, p) ∈ s)) := by
 unfold Zha Zh8
 rw [Yhz (Yhu (l := l) (step := Zh7 l (hiG g) m x) (fun p => !(!okB g p || decide ((x.room, p) ∈ s))) hl (fun i hi => by
  simp only [Zh7]
  rw [dlt hi, Wu, Yhg hi, Wb, Ypy hg hm, Wb, Yhh hi hl]
  cases (!okB g l[i] || decide ((x.room, l[i]) ∈ s)) <;> rfl) (by simp only [Zh7]; rw [dnlt, Wv])) (fun _ => rfl) rfl, Wb, Yhy, Ymk]

theorem Yq0 {h : Yag} (hro : Ypn h) (h3 : h.rooms.length = 3) (hl : h.stream.length ≤ 120) :
  ((∀ i, i < h.stream.length → stB h i = true) ∧ iter (fun z : List (Pr × Bool) × Int => Zhg h (h.rooms.map hiG) z.1 z.2) big ([], 0) = some (.inr ())) ∨
  ((∃ i, i < h.stream.length ∧ stB h i = false) ∧ iter (fun z : List (Pr × Bool) × Int => Zhg h (h.rooms.map hiG) z.1 z.2) big ([], 0) = some (.inl (zS, false))) := by
 have := Yot (l := h.stream) (step := fun z : List (Pr × Bool) × Int => Zhg h (h.rooms.map hiG) z.1 z.2) (fun q j => (q, j)) (fun _ => Sum.inr ()) (Sum.inl (zS, false)) (stB h) (fun m x => pset m (x.room, x.id) true) (fun i m => ∀ y, Option.getD (pget m y) false = decide (y ∈ (prs h.stream).take i)) (by omega) (fun i m hi hm _ => by
  have hil : i < (prs h.stream).length := by rw [Ypq]; exact hi
  have etk : (prs h.stream).take (i + 1) = (prs h.stream).take i ++ [(h.stream[i].room, h.stream[i].id)] := by rw [List.take_add_one, We hil, Ypp hi]; rfl
  refine ⟨?_, fun _ y => ?_⟩
  rotate_left
  ·
   rw [Y8v, etk]
   by_cases hy : y = (h.stream[i].room, h.stream[i].id)
   ·
    rw [if_pos hy, Option.getD_some]; simp [hy]
   ·
    rw [if_neg hy, hm]; simp [hy]
  have hw := Yhh hi (by omega : h.stream.length < 9223372036854775807)
  have hb : stB h i = stX h i h.stream[i] := by unfold stB; rw [dif_pos hi]
  rw [hb]
  simp only [Zhg]
  rw [dlt hi, Wu, Yhg hi, Wb, Yho, Wb]
  generalize h.stream[i] = x
  unfold stX
  by_cases hx : 1 ≤ x.room ∧ x.room ≤ 3
  rotate_left
  ·
   rw [Wf hx]; rfl
  rw [Wt hx, Wu, hm, Bool.true_and]
  simp only [Zhf]
  cases decide ((x.room, x.id) ∈ (prs h.stream).take i) with
  | true => rfl
  | false =>
   rw [Wv, Bool.not_false, Bool.true_and]
   obtain ⟨k, hk, k1, k2, k3⟩ := Ypx h3 hx
   have hg := hro.right _ (Wm hk)
   have hfl := hg.fits.len
   have hgr : (hiG h.rooms[k]).graph = h.rooms[k] := (Yp4 hg).2.2.graph
   have e1 : Zh1 (Yao.mk h (h.rooms.map hiG)) x.room = some (hiG h.rooms[k]) := by
    unfold Zh1
    rw [k2]
    show (getI (h.rooms.map hiG) (k : Int)).bind _ = _
    rw [Yop hiG hk]; rfl
   rw [e1, Wb, hgr, c_at _ _ hg.fits.up (by omega), Wb, k3]
   simp only [Zhe]
   cases hh : hasE h.rooms[k].events x.id with
   | false => rfl
   | true =>
    rw [Wu, Bool.true_and, bned]
    show cond (!okB h.rooms[k] x.id) _ _ = _
    cases okB h.rooms[k] x.id with
    | false => rfl
    | true =>
     rw [Bool.not_true, Wv, Bool.true_and]
     have hev : Option.getD (evAt h.rooms[k].events x.id) zEv = evD h.rooms[k].events x.id := rfl
     have hpl := (hg.walk.prev (Ymx.1 hh)).1
     rw [hev, Ypz hg hm _ (by omega), Wb]
     simp only [Zhd, hw]
     cases (evD h.rooms[k].events x.id).prev.all fun p => !okB h.rooms[k] p || decide ((x.room, p) ∈ (prs h.stream).take i) <;> rfl)
  (fun q _ => by simp only [Zhg]; rw [dnlt, Wv]) (s := []) (fun y => by simp [pget])
 rcases this with ⟨a1, a2, _⟩ | ⟨a1, a2⟩
 ·
  exact .inl ⟨a1, a2⟩
 ·
  exact .inr ⟨a1, a2⟩

theorem Yq1 {h : Yag} (hf : Ypk h) : ∃ b : Bool, (b = true ↔ OkI h) ∧ Zhl h = some (cond b (sOf h, true) (zS, false)) := by
 have hrl := hf.rl
 have hsl := hf.sl
 unfold Zhl
 by_cases h3 : (h.rooms.length : Int) = 3
 rotate_left
 ·
  refine ⟨false, ⟨fun x => (by cases x), fun x => absurd x.1 (by omega)⟩, ?_⟩
  rw [bned, Wf h3]; rfl
 by_cases hl : (h.stream.length : Int) > 120
 ·
  refine ⟨false, ⟨fun x => (by cases x), fun x => absurd x.2.1 (by omega)⟩, ?_⟩
  rw [bned, Wt h3, Wt hl]; rfl
 rw [bned, Wt h3, Wf hl]
 simp only [Bool.not_true, Wv, Zhk]
 have hl' : h.stream.length ≤ 120 := by omega
 have h3' : h.rooms.length = 3 := by omega
 have := Yot (l := h.rooms) (step := fun z : List Yan × Int × Int => Zhj h z.1 z.2.1 z.2.2) (fun (q : List Yan × Int) j => (q.1, q.2, j)) (fun q => Sum.inr q) (Sum.inl (zS, false)) (rB h.rooms) (fun q g => (q.1 ++ [hiG g], q.2 + (Ypt g : Int))) (fun i q => q.1.length = i ∧ 0 ≤ q.2 ∧ q.2 ≤ 60 * i) (by omega) (fun k q hk ⟨q1, q2, q3⟩ hp => by
  obtain ⟨_, b2, b3⟩ := Ypl (hf.fine _ (Wm hk))
  have hw := Yhh hk (by omega : h.rooms.length < 9223372036854775807)
  have hb := Ypm hk
  refine ⟨?_, fun ht => ?_⟩
  rotate_left
  ·
   rw [hb, Bool.and_eq_true] at ht
   have := Ypw (b3.1 ht.1).right
   simp only [List.length_append, List.length_singleton]; omega
  simp only [Zhj]
  rw [dlt hk, Wu, Yhg hk, Wb, b2, Wb, hb, hw, bned]
  cases hgB : gB h.rooms[k] with
  | false => rfl
  | true =>
   have hg := (b3.1 hgB).right
   obtain ⟨n1, _, n3⟩ := Yp4 hg
   have hle := Ypw hg
   have hac : Zgz (hiG h.rooms[k]) = some (accT h.rooms[k].events (okB h.rooms[k])) := by
    have := Yof (h := hiG h.rooms[k]) (by rw [n3.graph]; exact hg)
    rw [n3.graph] at this; exact this
   have hgt : getI (q.1 ++ [hiG h.rooms[k]]) (k : Int) = some (hiG h.rooms[k]) := Yjb (X := q.1) (Y := []) rfl q1.symm
   simp only [Wu, Bool.true_and, Zhi]
   by_cases hc : h.rooms[k].room = (k : Int) + 1
   ·
    rw [Wt hc, Wt (by omega), Bool.not_true, Wv, n1, Wb, Y4z (Wt (by simp; omega)), Wb, hgt, Wb, hac, Wb, hw, Y4y (n := q.2 + ((accT h.rooms[k].events (okB h.rooms[k])).length : Int)) (by unfold Ypt at hle; omega) (by unfold Ypt at hle; omega)]
    rfl
   ·
    rw [Wf hc, Wf (by omega)]; rfl)
  (fun q _ => by simp only [Zhj]; rw [dnlt, Wv]) (s := ([], 0)) ⟨rfl, by omega, by omega⟩
 rcases this with ⟨a1, a2, _⟩ | ⟨⟨i, hi, a1⟩, a2⟩
 rotate_left
 ·
  refine ⟨false, ⟨fun x => (by cases x), fun x => ?_⟩, ?_⟩
  ·
   have := (Ypo hf).2 x.2.2.1 i hi
   rw [a1] at this; cases this
  ·
   have a2' : iter (fun z : List Yan × Int × Int => Zhj h z.1 z.2.1 z.2.2) big ([], 0, 0) = some (Sum.inl (zS, false)) := a2
   rw [a2']; rfl
 have hro := (Ypo hf).1 a1
 rw [Ypv] at a2
 have a2' : iter (fun z : List Yan × Int × Int => Zhj h z.1 z.2.1 z.2.2) big ([], 0, 0) = some (Sum.inr (h.rooms.map hiG, 0 + (Ypu h.rooms : Int))) := a2
 rw [a2', Wb]
 simp only [Zhh]
 rcases Yq0 hro h3' hl' with ⟨s1, s2⟩ | ⟨⟨i, hi, s1⟩, s2⟩
 ·
  rw [s2, Wb]
  simp only [Zhc]
  rw [beqd]
  refine ⟨decide (0 + (Ypu h.rooms : Int) = (h.stream.length : Int)), ?_, ?_⟩
  ·
   rw [decide_eq_true_eq]
   exact ⟨fun k => ⟨h3', hl', hro, s1, by omega⟩, fun k => by have := k.2.2.2.2; omega⟩
  ·
   cases decide (0 + (Ypu h.rooms : Int) = (h.stream.length : Int)) <;> rfl
 ·
  rw [s2, Wb]
  exact ⟨false, ⟨fun x => (by cases x), fun x => by have := x.2.2.2.1 i hi; rw [s1] at this; cases this⟩, rfl⟩
end Go.Proofs.YtnoknphekhclcaaGreat
namespace Go.Proofs.YtnoknphekhclcaaGreat
open Go Go.Abs

def accG (g : Yaf) : List Pr := (accT g.events (okB g)).map fun id => (g.room, id)
def accA (l : List Yaf) : List Pr := l.flatMap accG
theorem Yq2 : ∀ l : List Yaf, (accA l).length = Ypu l
 | [] => rfl
 | g :: l => by
  unfold accA Ypu
  rw [List.flatMap_cons, List.length_append, List.map_cons, List.sum_cons]
  show (accG g).length + (accA l).length = _
  rw [Yq2 l]
  unfold accG Ypt
  rw [List.length_map]; rfl
theorem Yq3 {g : Yaf} {y : Pr} : y ∈ accG g ↔ y.1 = g.room ∧ hasE g.events y.2 = true ∧ okB g y.2 = true := by
 unfold accG accT
 rw [List.mem_map]
 constructor
 ·
  rintro ⟨id, h, rfl⟩
  obtain ⟨h1, h2⟩ := List.mem_filter.1 h
  exact ⟨rfl, Ymx.2 h1, h2⟩
 ·
  rintro ⟨h1, h2, h3⟩
  exact ⟨y.2, List.mem_filter.2 ⟨Ymx.1 h2, h3⟩, Prod.ext h1.symm rfl⟩
theorem Ypn.inj {h : Yag} (k : Ypn h) {g g' : Yaf} (hg : g ∈ h.rooms) (hg' : g' ∈ h.rooms) (e : g.room = g'.room) : g = g' := by
 obtain ⟨i, hi, rfl⟩ := List.mem_iff_getElem.1 hg
 obtain ⟨j, hj, rfl⟩ := List.mem_iff_getElem.1 hg'
 rw [(k i hi).2, (k j hj).2] at e
 obtain rfl : i = j := by omega
 rfl
theorem Yq4 {h : Yag} (k : Ypn h) : (accA h.rooms).Nodup := by
 unfold accA
 rw [List.nodup_iff_pairwise_ne, List.pairwise_flatMap]
 constructor
 ·
  intro g hg
  unfold accG
  rw [List.pairwise_map]
  exact (Yoi (k.right g hg).fits _).imp fun {a b} h e => by have := (Prod.mk.inj e).2; omega
 ·
  rw [List.pairwise_iff_getElem]
  intro i j hi hj hij x hx y hy e
  have h1 := (Yq3.1 hx).1
  have h2 := (Yq3.1 hy).1
  rw [(k i hi).2] at h1
  rw [(k j hj).2] at h2
  rw [e] at h1
  omega
theorem Yq5 {h : Yag} (k : Ypn h) {g : Yaf} (hg : g ∈ h.rooms) {id : Int} : (g.room, id) ∈ accA h.rooms ↔ hasE g.events id = true ∧ okB g id = true := by
 unfold accA
 rw [List.mem_flatMap]
 constructor
 ·
  rintro ⟨g', h1, h2⟩
  obtain ⟨h3, h4⟩ := Yq3.1 h2
  obtain rfl := k.inj hg h1 h3
  exact h4
 ·
  exact fun h' => ⟨g, hg, Yq3.2 ⟨rfl, h'⟩⟩

theorem Yq6 {s : List Pr} {g : Yaf} (h : ∀ e ∈ g.events, okB g e.id = inS s g e) : Yp8 s g = Ypt g := by
 unfold Yp8 Ypt accT
 rw [List.filter_map, List.length_map]
 exact congrArg List.length (List.filter_congr fun e he => (h e he).symm)
theorem Yq7 {s : List Pr} : ∀ {l : List Yaf}, (∀ g ∈ l, ∀ e ∈ g.events, okB g e.id = inS s g e) → Yp9 s l = Ypu l
 | [], _ => rfl
 | g :: l, h => by
  unfold Yp9 Ypu
  rw [List.map_cons, List.map_cons, List.sum_cons, List.sum_cons, Yq6 (h g (by simp))]
  have := Yq7 (s := s) (l := l) fun g' hg' => h g' (by simp [hg'])
  unfold Yp9 Ypu at this
  rw [this]

structure Yq8 (h : Yag) : Prop where
 three : h.rooms.length = 3
 slen : h.stream.length ≤ 120
 rooms : Ypn h
 nodup : (prs h.stream).Nodup
 all : ∀ y, y ∈ prs h.stream ↔ y ∈ accA h.rooms

theorem OkI.hub {h : Yag} (k : OkI h) : Yq8 h := by
 obtain ⟨h3, hl, hro, hst, hle⟩ := k
 have hX : ∀ (i : Nat) (hi : i < h.stream.length), stX h i h.stream[i] = true := fun i hi => by
  have := hst i hi
  unfold stB at this
  rwa [dif_pos hi] at this
 have hnd : (prs h.stream).Nodup := Yp0.2 fun i hi => by
  have hi' : i < h.stream.length := by rw [Ypq] at hi; exact hi
  have := hX i hi'
  unfold stX at this
  simp only [Bool.and_eq_true] at this
  rw [Ypp hi']
  simpa using this.1.1.1.2
 have hsub : ∀ y ∈ prs h.stream, y ∈ accA h.rooms := fun y hy => by
  obtain ⟨i, hi, rfl⟩ := List.mem_iff_getElem.1 hy
  have hi' : i < h.stream.length := by rw [Ypq] at hi; exact hi
  have := hX i hi'
  unfold stX at this
  simp only [Bool.and_eq_true, decide_eq_true_eq] at this
  obtain ⟨k, hk, k1, _, k3⟩ := Ypx h3 this.1.1.1.1
  rw [Ypp hi']
  rw [k3] at this
  have hr : h.stream[i].room = h.rooms[k].room := by rw [(hro k hk).2]; exact k1
  rw [hr]
  exact (Yq5 hro (Wm hk)).2 ⟨this.1.1.2, this.1.2⟩
 refine ⟨h3, hl, hro, hnd, fun y => ⟨hsub y, Yp2 hnd hsub (by rw [Yq2, Ypq]; omega) y⟩⟩

theorem Yq8.inS {h : Yag} (k : Yq8 h) {g : Yaf} (hg : g ∈ h.rooms) {e : Yaa} (he : e ∈ g.events) : okB g e.id = inS (prs h.stream) g e := by
 unfold Go.Proofs.YtnoknphekhclcaaGreat.inS
 rw [Bool.eq_iff_iff, decide_eq_true_eq, Yov, k.all, Yq5 k.rooms hg]
 exact ⟨fun h' => ⟨Yij.2 ⟨e, he, rfl⟩, h'⟩, fun h' => h'.2⟩

theorem Yq9 {h : Yag} : OkI h ↔ OkS h := by
 constructor
 ·
  intro k
  have hu := k.hub
  obtain ⟨h3, hl, hro, hst, hle⟩ := k
  refine ⟨h3, hl, hro, hu.nodup, fun g hg e he => ?_, by rw [Yq7 fun g hg e he => hu.inS hg he]; exact hle⟩
  unfold strE
  rw [hu.inS hg he]
  cases hin : inS (prs h.stream) g e with
  | false => rfl
  | true =>
   simp only [beq_self_eq_true, Bool.not_true, Bool.false_or, Bool.true_and, List.all_eq_true, decide_eq_true_eq]
   intro p hp
   have hin' : 0 < posP (prs h.stream) (g.room, e.id) := by simpa [inS] using hin
   have hy := Yov.1 hin'
   obtain ⟨i, hi, hiy⟩ := List.mem_iff_getElem.1 hy
   have hi' : i < h.stream.length := by rw [Ypq] at hi; exact hi
   have hpi : posP (prs h.stream) (g.room, e.id) = (i : Int) + 1 := by
    unfold posP; rw [if_pos hy, ← hiy, Yoz hu.nodup hi]
   have hx := hst i hi'
   unfold stB at hx
   rw [dif_pos hi'] at hx
   unfold stX at hx
   simp only [Bool.and_eq_true, decide_eq_true_eq] at hx
   rw [Ypp hi'] at hiy
   obtain ⟨e1, e2⟩ := Prod.mk.inj hiy
   obtain ⟨k, hk, k1, _, k3⟩ := Ypx h3 hx.1.1.1.1
   have hgk : h.rooms[k] = g := hro.inj (Wm hk) hg (by rw [(hro k hk).2, ← k1, e1])
   rw [k3, hgk, e1, e2] at hx
   have hev : evD g.events e.id = e := by unfold evD; rw [(hro.right g hg).fits.up.evAt_mem he]; rfl
   rw [hev] at hx
   have hpp := List.all_eq_true.1 hx.2 p hp
   simp only [Bool.or_eq_true, Bool.not_eq_true', decide_eq_true_eq] at hpp
   rcases hpp with hpp | hpp
   ·
    have : (g.room, p) ∉ prs h.stream := fun hm => by
     have := ((Yq5 hro hg).1 ((hu.all _).1 hm)).2
     rw [hpp] at this; cases this
    have h0 : posP (prs h.stream) (g.room, p) = 0 := by unfold posP; rw [if_neg this]
    omega
   ·
    have := ((Yox (by omega)).1 hpp).2
    omega
 ·
  rintro ⟨h3, hl, hro, hnd, hst, hma⟩
  have hok : ∀ g ∈ h.rooms, ∀ e ∈ g.events, okB g e.id = inS (prs h.stream) g e := fun g hg e he => by
   have := hst g hg e he
   unfold strE at this
   rw [Bool.and_eq_true] at this
   simpa using this.1
  have hle : Ypu h.rooms = h.stream.length := by rw [← Yq7 hok]; exact hma
  have hsub : ∀ y ∈ accA h.rooms, y ∈ prs h.stream := fun y hy => by
   unfold accA at hy
   obtain ⟨g, hg, hy⟩ := List.mem_flatMap.1 hy
   obtain ⟨h1, h2, h4⟩ := Yq3.1 hy
   obtain ⟨e, he, h5⟩ := Yij.1 h2
   have := hok g hg e he
   rw [h5, h4] at this
   have h6 : 0 < posP (prs h.stream) (g.room, e.id) := by simpa [inS] using this.symm
   have := Yov.1 h6
   rw [h5, ← h1] at this
   exact this
  have hall := Yp2 (Yq4 hro) hsub (by rw [Yq2, Ypq]; omega)
  refine ⟨h3, hl, hro, fun i hi => ?_, hle⟩
  have hil : i < (prs h.stream).length := by rw [Ypq]; exact hi
  have hmem : (h.stream[i].room, h.stream[i].id) ∈ prs h.stream := by rw [← Ypp hi hil]; exact Wm _
  have hacc := hall _ hmem
  unfold accA at hacc
  obtain ⟨g, hg, hy⟩ := List.mem_flatMap.1 hacc
  obtain ⟨h1, h2, h4⟩ := Yq3.1 hy
  simp only at h1 h2 h4
  obtain ⟨k, hk, hkg⟩ := List.mem_iff_getElem.1 hg
  have hroom : g.room = (k : Int) + 1 := by rw [← hkg]; exact (hro k hk).2
  have hx : 1 ≤ h.stream[i].room ∧ h.stream[i].room ≤ 3 := by omega
  obtain ⟨k', hk', k1, _, k3⟩ := Ypx h3 hx
  obtain rfl : k' = k := by omega
  rw [hkg] at k3
  have hnt := Yp0.1 hnd i hil
  rw [Ypp hi] at hnt
  unfold stB
  rw [dif_pos hi]
  unfold stX
  rw [k3, h2, h4, Wt hx, Wf hnt]
  simp only [Bool.not_false, Bool.true_and, List.all_eq_true, Bool.or_eq_true, Bool.not_eq_true', decide_eq_true_eq]
  intro p hp
  cases hop : okB g p with
  | false => exact .inl rfl
  | true =>
   right
   have hr := hro.right g hg
   obtain ⟨_, e2, e3⟩ := Ymn (Ymx.1 h2) hr.fits.up
   have hse := hst g hg _ e2
   unfold strE at hse
   rw [Bool.and_eq_true] at hse
   have hine : inS (prs h.stream) g (evD g.events h.stream[i].id) = true := by rw [← hok g hg _ e2, e3]; exact h4
   rw [hine] at hse
   simp only [Bool.not_true, Bool.false_or, List.all_eq_true, decide_eq_true_eq] at hse
   have hlt := hse.2 p hp
   rw [e3, ← h1] at hlt
   have hpi : posP (prs h.stream) (h.stream[i].room, h.stream[i].id) = (i : Int) + 1 := by
    unfold posP; rw [if_pos hmem]
    have := Yoz hnd hil
    rw [Ypp hi] at this
    rw [this]
   obtain ⟨ep, hep, hepi⟩ := Yij.1 (hr.fits.whole _ e2 p hp)
   have hinp := hok g hg ep hep
   rw [hepi, hop] at hinp
   have h7 : 0 < posP (prs h.stream) (g.room, ep.id) := by simpa [inS] using hinp.symm
   rw [hepi, ← h1] at h7
   exact (Yox (by omega)).2 ⟨h7, by omega⟩

theorem Yqa {h : Yag} (hf : Ypk h) : ∃ b : Bool, (b = true → Yq8 h) ∧ Z7q h = some (cond b (wOf h, true) (zW, false)) ∧ Zhl h = some (cond b (sOf h, true) (zS, false)) := by
 obtain ⟨b, b1, b2⟩ := Yps hf
 obtain ⟨c, c1, c2⟩ := Yq1 hf
 have : b = c := by rw [Bool.eq_iff_iff, b1, c1]; exact Yq9.symm
 subst this
 exact ⟨b, fun x => (c1.1 x).hub, b2, c2⟩
end Go.Proofs.YtnoknphekhclcaaGreat
namespace Go.Proofs.YtnoknphekhclcaaGreat
open Go Go.Abs


def wtG {α : Type} (n : α → Nat) (l : List α) : Nat := (l.map n).sum
theorem Yqb {α : Type} (n : α → Nat) (x : α) (l : List α) : wtG n (x :: l) = n x + wtG n l := by unfold wtG; rw [List.map_cons, List.sum_cons]
theorem Yqc {α : Type} (n : α → Nat) {l : List α} {i : Nat} (hi : i < l.length) : wtG n (l.take (i + 1)) = wtG n (l.take i) + n l[i] := by
 rw [List.take_add_one, We hi]
 show ((List.take i l ++ [l[i]]).map n).sum = ((List.take i l).map n).sum + n l[i]
 rw [List.map_append, List.sum_append]
 simp only [List.map_cons, List.map_nil, List.sum_cons, List.sum_nil, Nat.add_zero]
def nG (g : Yab) : Nat := g.events.length + g.parked.length
structure HIn (h : THub) : Prop where
 rl : h.rooms.length ≤ maxLen
 rg : ∀ g ∈ h.rooms, GIn g
 sl : h.stream.length ≤ maxLen
structure Yqd (h : THub) : Prop where
 rl : h.rooms.length ≤ 1048576
 rg : ∀ g ∈ h.rooms, Ynt g.events ∧ Ynt g.parked
 wt : wtG nG h.rooms ≤ 1048576
 sl : h.stream.length ≤ 1048576

theorem Yqe (p : List Yab) (n : Int) (hl : p.length ≤ maxLen) (hp : ∀ g ∈ p, GIn g) (h0 : 0 ≤ n) (hn : n ≤ 1048576) : ∃ r, Zd p n = some r ∧ ((0 ≤ r ∧ r + (p.length + wtG nG p : Nat) ≤ n ∧ ∀ g ∈ p, Ynt g.events ∧ Ynt g.parked) ∨ r = -1) := by
 simp only [maxLen] at hl
 unfold Zd
 rw [Y4y (by omega) (by omega)]
 by_cases h : n - (p.length : Int) < 0
 ·
  rw [Wt h]; exact ⟨_, rfl, .inr rfl⟩
 ·
  rw [Wf h, Wv]
  obtain ⟨o, h1, h2⟩ := Yhf (τ := Int × Int) (ω := Int ⊕ Int) (σ := Int) (step := fun z : Int × Int => Zc p z.1 z.2) (n := p.length) (fun s j => (s, j))
   (fun i s => 0 ≤ s ∧ s + (p.length + wtG nG (p.take i) : Nat) ≤ n ∧ ∀ (j : Nat) (hj : j < p.length), j < i → Ynt p[j].events ∧ Ynt p[j].parked) (fun o => o = .inl (-1) ∨ ∃ r, o = .inr r ∧ 0 ≤ r ∧ r + (p.length + wtG nG p : Nat) ≤ n ∧ ∀ g ∈ p, Ynt g.events ∧ Ynt g.parked) (by omega) (by
   rintro i s hi ⟨hs0, hsn, hI⟩
   obtain ⟨r, e1, e2⟩ := Ynv p[i] s (hp _ (Wm hi)) hs0 (by omega)
   simp only [Zc]
   rw [dlt hi, Wu, Yhg hi, Wb, e1, Wb, Yhh hi (by omega)]
   rcases e2 with ⟨e2, e3, e4⟩ | rfl
   ·
    rw [Wf (by omega), Wv]
    refine .inl ⟨r, rfl, e2, by have hng : nG p[i] = p[i].events.length + p[i].parked.length := rfl; rw [Yqc nG hi]; omega, fun j hj hji => ?_⟩
    rcases Nat.lt_or_ge j i with h | h
    ·
     exact hI j hj h
    ·
     obtain rfl : j = i := by omega
     exact e4
   ·
    exact .inr ⟨_, rfl, .inl rfl⟩) (by
   rintro s ⟨hs0, hsn, hI⟩
   simp only [Zc]
   rw [dnlt, Wv]
   rw [List.take_length] at hsn
   refine ⟨_, rfl, .inr ⟨s, rfl, hs0, hsn, fun e he => ?_⟩⟩
   obtain ⟨j, hj, rfl⟩ := List.mem_iff_getElem.1 he
   exact hI j hj hj) (s := n - (p.length : Int)) ⟨by omega, by simp [wtG], fun j hj h => by omega⟩
  rw [h1, Wb]
  rcases h2 with rfl | ⟨r, rfl, h3⟩
  ·
   exact ⟨_, rfl, .inr rfl⟩
  ·
   exact ⟨_, rfl, .inl h3⟩

def toH (h : THub) : Yag := ⟨h.rooms.map toG, h.stream⟩
theorem Yqf (p : List Yab) (hl : p.length ≤ 1048576) (hp : ∀ g ∈ p, Ynt g.events ∧ Ynt g.parked) : Z1a p = some (p.map toG) := by
 unfold Z1a
 rw [Y4z (Wt ⟨by omega, by omega⟩), Wb, Int.toNat_natCast]
 rw [Ynw (xs := p) toG (by omega) (fun i s hi hs => by
  have := hp _ (Wm hi)
  simp only [Z19]
  rw [dlt hi, Wu, Yhg hi, Wb, Yo0 _ this.1 this.2, Wb, Yhg (by omega : i < s.length), Wb, Yhh hi (by omega), Int.toNat_natCast]) (fun s => by simp only [Z19]; rw [dnlt, Wv])]
 rfl
theorem Yqg (p : List Yac) (hl : p.length ≤ 1048576) : Z1h p = some p := by
 unfold Z1h
 rw [Y4z (Wt ⟨by omega, by omega⟩), Wb, Int.toNat_natCast]
 rw [Ynw (xs := p) (fun x => x) (by omega) (fun i s hi hs => by
  simp only [Z1g]
  rw [dlt hi, Wu, Yhg hi, Wb]
  unfold Z1d
  rw [Wb, Yhg (by omega : i < s.length), Wb, Yhh hi (by omega), Int.toNat_natCast]) (fun s => by simp only [Z1g]; rw [dnlt, Wv])]
 simp [Z1f]
theorem Yqh (h : THub) (hs : Yqd h) : Z1j h = some (toH h) := by
 unfold Z1j
 rw [Yqf _ hs.rl hs.rg, Wb, Yqg _ hs.sl]; rfl


theorem Yqi (p : List Yaf) (hl : p.length ≤ 1048576) (hp : ∀ g ∈ p, Ynt g.events ∧ Ynt g.parked) : Zkc p p = some true := by
 unfold Zkc
 rw [bned, Wt rfl]
 simp only [Bool.not_true, Wv]
 rw [Yhw (l := p) (fun _ => true) (.inl false) (.inr ()) (by omega) (fun i hi => by
  have := hp _ (Wm hi)
  simp only [Zkb]
  rw [dlt hi, Wu, Yhg hi, Wb, Wb, Yo5 _ this.1 this.2, Wb, Yhh hi (by omega)]; rfl) (by simp only [Zkb]; rw [dnlt, Wv])]
 rw [show (p.all fun _ => true) = true by simp]; rfl
theorem Yqj (p : List Yac) (hl : p.length ≤ 1048576) : Zki p p = some true := by
 unfold Zki
 rw [bned, Wt rfl]
 simp only [Bool.not_true, Wv]
 rw [Yhw (l := p) (fun _ => true) (.inl false) (.inr ()) (by omega) (fun i hi => by
  simp only [Zkh]
  rw [dlt hi, Wu, Yhg hi, Wb, Wb, show Zke p[i] p[i] = some true by simp [Zke], Wb, Yhh hi (by omega)]; rfl) (by simp only [Zkh]; rw [dnlt, Wv])]
 rw [show (p.all fun _ => true) = true by simp]; rfl
theorem Yqk {h : THub} (hs : Yqd h) : ∀ g ∈ (toH h).rooms, Ynt g.events ∧ Ynt g.parked := fun g hg => by
 obtain ⟨g0, h1, rfl⟩ := List.mem_map.1 hg
 exact hs.rg g0 h1
theorem w1 (x : Int) (h0 : 0 ≤ x) (h1 : x ≤ 1000000000000000) : IntKind.i64.wrap (x + 1) = x + 1 := Y4y (by omega) (by omega)

end Go.Proofs.YtnoknphekhclcaaGreat
namespace Go.Proofs.YtnoknphekhclcaaGreat
open Go Go.Abs

def txtM (n : Int) : ByteArray := (Zl2 n).getD ByteArray.empty
theorem Yql (n : Int) (h0 : 0 ≤ n) (hn : n ≤ 1000000000000000) : Zl2 n = some (txtM n) := by
 obtain ⟨t, ht⟩ := Yoc n h0 hn
 unfold txtM
 rw [ht]; rfl
end Go.Proofs.YtnoknphekhclcaaGreat
namespace Go.Proofs.YtnoknphekhclcaaGreat
open Go Go.Abs

section
variable {α : Type} (mk : Int → α → α) (w : α → Nat)
def mkS : Int → List α → List α
 | _, [] => []
 | n, x :: l => mk n x :: mkS (n + w x) l
theorem Yqm : ∀ (l : List α) (n : Int), (mkS mk w n l).length = l.length
 | [], _ => rfl
 | x :: l, n => by simp [mkS, Yqm l]
theorem Yqn : ∀ (l : List α) (n : Int) (x : α), mkS mk w n (l ++ [x]) = mkS mk w n l ++ [mk (n + wtG w l) x]
 | [], n, x => by simp [mkS, wtG]
 | a :: l, n, x => by
  simp only [List.cons_append, mkS]
  rw [Yqn l, Yqb, show n + (w a : Int) + (wtG w l : Int) = n + ((w a + wtG w l : Nat) : Int) by omega]
theorem Yqo : ∀ (l : List α) (n : Int) (i : Nat) (h1 : i < (mkS mk w n l).length) (h2 : i < l.length), (mkS mk w n l)[i] = mk (n + wtG w (l.take i)) l[i]
 | [], _, i, _, h2 => by simp at h2
 | x :: l, n, 0, _, _ => by simp [mkS, wtG]
 | x :: l, n, i + 1, h1, h2 => by
  simp only [mkS, List.getElem_cons_succ, List.take_succ_cons]
  rw [Yqo l (n + w x) i _ (by simpa using h2), Yqb, show n + (w x : Int) + (wtG w (l.take i) : Int) = n + ((w x + wtG w (l.take i) : Nat) : Int) by omega]
theorem Yqp {l : List α} (i : Nat) : wtG w (l.take i) ≤ wtG w l := by
 have : wtG w l = wtG w (l.take i) + wtG w (l.drop i) := by
  conv => lhs; rw [← List.take_append_drop i l]
  unfold wtG; rw [List.map_append, List.sum_append]
 omega
theorem Yqq {l : List α} {i : Nat} (hi : i < l.length) : wtG w (l.take i) + w l[i] ≤ wtG w l := by
 have h1 := Yqc w hi
 have h2 := Yqp w (l := l) (i + 1)
 omega
theorem Yqr {v : α → Nat} {c : Nat} : ∀ {l : List α}, (∀ x ∈ l, w x ≤ c * v x) → wtG w l ≤ c * wtG v l
 | [], _ => by simp [wtG]
 | x :: l, h => by
  have h1 := Yqr (v := v) (c := c) (l := l) fun y hy => h y (by simp [hy])
  have h2 := h x (by simp)
  rw [Yqb, Yqb, Nat.mul_add]
  omega
variable {mk w}
theorem Yqs {p : List α} {n : Int} {step : List α × Int × Int → Option ((List α × Int × Int) ⊕ (Int × List α))} (hl : p.length < 9223372036854775807)
  (hs : ∀ (i : Nat) (hi : i < p.length) (l : List α) (k : Int), i < l.length → l.length = p.length → l[i]? = some p[i] → k = n + wtG w (p.take i) → step (l, k, i) = some (.inl (l.set i (mk k p[i]), k + w p[i], ((i + 1 : Nat) : Int))))
  (he : ∀ (l : List α) (k : Int), l.length = p.length → step (l, k, p.length) = some (.inr (k, l))) : iter step big (p, n, 0) = some (n + wtG w p, mkS mk w n p) := by
 obtain ⟨o, e1, rfl⟩ := Yhe (τ := List α × Int × Int) (ω := Int × List α) (σ := List α × Int) (step := step) (n := p.length) (fun s j => (s.1, s.2, j)) (fun i s => s = (mkS mk w n (p.take i) ++ p.drop i, n + wtG w (p.take i))) (fun o => o = (n + wtG w p, mkS mk w n p)) hl (by
  rintro i s hi rfl
  have hlen : (mkS mk w n (p.take i)).length = i := by rw [Yqm, List.length_take]; omega
  have hll : (mkS mk w n (p.take i) ++ p.drop i).length = p.length := by rw [List.length_append, hlen, List.length_drop]; omega
  refine ⟨(_, _), hs i hi _ _ (by simp only; omega) hll (by simp only; rw [List.getElem?_append_right (by omega), hlen, Nat.sub_self, List.getElem?_drop]; simp) rfl, ?_⟩
  have etk : p.take (i + 1) = p.take i ++ [p[i]] := by rw [List.take_add_one, We hi]; rfl
  refine Prod.ext ?_ ?_
  ·
   show List.set _ _ _ = _
   rw [etk, Yqn, List.set_append_right _ _ (by omega), hlen, Nat.sub_self, List.drop_eq_getElem_cons hi, List.append_assoc]
   rfl
  ·
   show n + (wtG w (p.take i) : Int) + (w p[i] : Int) = _
   rw [Yqc w hi]
   omega) (by
  rintro s rfl
  refine ⟨_, he _ _ (by rw [List.take_length, List.drop_length, List.append_nil, Yqm]), ?_⟩
  rw [List.take_length, List.drop_length, List.append_nil]) (s := (p, n)) (by simp [mkS, wtG])
 exact e1
theorem Yqt {p : List α} {n : Int} {step : Int × Int → Option ((Int × Int) ⊕ (Int ⊕ Int))} (hl : p.length < 9223372036854775807)
  (hs : ∀ (i : Nat) (hi : i < p.length) (k : Int), k = n + wtG w (p.take i) → step (k, i) = some (.inl (k + w p[i], ((i + 1 : Nat) : Int))))
  (he : ∀ k : Int, step (k, p.length) = some (.inr (.inr k))) : iter step big (n, 0) = some (.inr (n + wtG w p)) := by
 obtain ⟨o, e1, rfl⟩ := Yhe (τ := Int × Int) (ω := Int ⊕ Int) (σ := Int) (step := step) (n := p.length) (fun s j => (s, j)) (fun i s => s = n + wtG w (p.take i)) (fun o => o = .inr (n + wtG w p)) hl (by
  rintro i s hi rfl
  exact ⟨_, hs i hi _ rfl, by rw [Yqc w hi]; omega⟩) (by
  rintro s rfl
  exact ⟨_, he _, by rw [List.take_length]⟩) (s := n) (by simp [wtG])
 exact e1
end


def wEv (e : Yaa) : Nat := 8 + e.prev.length
def mkEv (n : Int) (e : Yaa) : Yaa := ⟨n, n + 1, n + 2, n + 3, n + 4, n + 5, txtM (n + 6), Yo6 (n + 7) e.prev.length, n + 7 + e.prev.length⟩

theorem Yqu (p : List Yaa) (n : Int) (hp : Ynt p) (h0 : 0 ≤ n) (hn : n + wtG wEv p ≤ 900000000000000) : Zla p n = some (n + wtG wEv p, mkS mkEv wEv n p) := by
 have hpl := hp.1
 unfold Zla
 rw [Yqs (mk := mkEv) (w := wEv) (p := p) (n := n) (step := fun z : List Yaa × Int × Int => Zl9 z.1 z.2.1 z.2.2) (by omega) (by
  rintro i hi l k hil hll hli rfl
  have hw := Yqq wEv hi
  have hpr := (hp.2 _ (Wm hi)).1
  have hg : getI l (i : Int) = some p[i] := Y50 hli
  generalize hk : n + (wtG wEv (p.take i) : Int) = k
  generalize p[i] = u at hg hw hpr
  have hwe : wEv u = 8 + u.prev.length := rfl
  have ht := Yql (k + 1 + 1 + 1 + 1 + 1 + 1) (by omega) (by omega)
  have hmk := Yoa u.prev (k + 1 + 1 + 1 + 1 + 1 + 1 + 1) (by omega) (by omega) (by omega)
  simp only [Zl9]
  rw [Wt (by omega : (i : Int) < (l.length : Int)), Wu, Yhh hi (by omega)]
  rw [w1 k (by omega) (by omega), w1 (k + 1) (by omega) (by omega), w1 (k + 1 + 1) (by omega) (by omega), w1 (k + 1 + 1 + 1) (by omega) (by omega), w1 (k + 1 + 1 + 1 + 1) (by omega) (by omega), w1 (k + 1 + 1 + 1 + 1 + 1) (by omega) (by omega), w1 (k + 1 + 1 + 1 + 1 + 1 + 1) (by omega) (by omega)]
  simp only [Int.toNat_natCast, hg, Yod, List.length_set, hil, List.set_set, Wb, ht, hmk]
  rw [w1 (k + 1 + 1 + 1 + 1 + 1 + 1 + 1 + (u.prev.length : Int)) (by omega) (by omega)]
  unfold mkEv wEv
  rw [show k + 1 + 1 = k + 2 by omega, show k + 2 + 1 = k + 3 by omega, show k + 3 + 1 = k + 4 by omega, show k + 4 + 1 = k + 5 by omega, show k + 5 + 1 = k + 6 by omega, show k + 6 + 1 = k + 7 by omega, show k + 7 + (u.prev.length : Int) + 1 = k + ((8 + u.prev.length : Nat) : Int) by omega]) (fun l k hll => by
  simp only [Zl9]
  rw [hll, dnlt, Wv])]
 rfl

theorem Yqv (p : List Yaa) (n : Int) (hp : Ynt p) (h0 : 0 ≤ n) (hn : n + wtG wEv p ≤ 900000000000000) : Zm5 (mkS mkEv wEv n p) n = some (n + wtG wEv p) := by
 have hpl := hp.1
 unfold Zm5
 rw [Yqt (w := wEv) (p := p) (n := n) (step := fun z : Int × Int => Zm4 (mkS mkEv wEv n p) z.1 z.2) (by omega) (by
  rintro i hi k hk
  have hw := Yqq wEv hi
  have hpr := (hp.2 _ (Wm hi)).1
  have hi' : i < (mkS mkEv wEv n p).length := by rw [Yqm]; exact hi
  have hgt := Yqo mkEv wEv p n i hi' hi
  rw [← hk] at hgt
  simp only [Zm4]
  rw [Yqm, dlt hi, Wu, Yhg hi', Wb, hgt, Yhh hi (by omega)]
  generalize p[i] = u at hw hpr
  have hwe : wEv u = 8 + u.prev.length := rfl
  have ht := Yql (k + 6) (by omega) (by omega)
  have hh := Yob u.prev.length (k + 7) (by omega) (by omega) (by omega)
  rw [w1 k (by omega) (by omega), w1 (k + 1) (by omega) (by omega), w1 (k + 1 + 1) (by omega) (by omega), w1 (k + 1 + 1 + 1) (by omega) (by omega), w1 (k + 1 + 1 + 1 + 1) (by omega) (by omega), w1 (k + 1 + 1 + 1 + 1 + 1) (by omega) (by omega), w1 (k + 1 + 1 + 1 + 1 + 1 + 1) (by omega) (by omega)]
  rw [show k + 1 + 1 = k + 2 by omega, show k + 2 + 1 = k + 3 by omega, show k + 3 + 1 = k + 4 by omega, show k + 4 + 1 = k + 5 by omega, show k + 5 + 1 = k + 6 by omega, show k + 6 + 1 = k + 7 by omega, ht, Wb]
  unfold mkEv
  simp only
  rw [hh, Wb, w1 (k + 7 + (u.prev.length : Int)) (by omega) (by omega), Wf (by omega : ¬ k + 7 + (u.prev.length : Int) < 0)]
  simp only [bne_self_eq_false, Wv, beq_self_eq_true, Wu]
  unfold wEv
  rw [show k + 7 + (u.prev.length : Int) + 1 = k + ((8 + u.prev.length : Nat) : Int) by omega]) (fun k => by
  simp only [Zm4]
  rw [Yqm, dnlt, Wv])]
 rfl


def wGr (g : Yaf) : Nat := 1 + wtG wEv g.events + wtG wEv g.parked
def mkGr (n : Int) (g : Yaf) : Yaf := ⟨n, mkS mkEv wEv (n + 1) g.events, mkS mkEv wEv (n + 1 + wtG wEv g.events) g.parked⟩
def Yqw (p : List Yaf) : Prop := p.length ≤ 1048576 ∧ ∀ g ∈ p, Ynt g.events ∧ Ynt g.parked

theorem Yqx (p : List Yaf) (n : Int) (hp : Yqw p) (h0 : 0 ≤ n) (hn : n + wtG wGr p ≤ 900000000000000) : Zlf p n = some (n + wtG wGr p, mkS mkGr wGr n p) := by
 have hpl := hp.1
 unfold Zlf
 rw [Yqs (mk := mkGr) (w := wGr) (p := p) (n := n) (step := fun z : List Yaf × Int × Int => Zle z.1 z.2.1 z.2.2) (by omega) (by
  rintro i hi l k hil hll hli rfl
  have hw := Yqq wGr hi
  have hsm := hp.2 _ (Wm hi)
  have hg : getI l (i : Int) = some p[i] := Y50 hli
  generalize hk : n + (wtG wGr (p.take i) : Int) = k
  generalize p[i] = u at hg hw hsm
  have hwe : wGr u = 1 + wtG wEv u.events + wtG wEv u.parked := rfl
  have h1 := Yqu u.events (k + 1) hsm.1 (by omega) (by omega)
  have h2 := Yqu u.parked (k + 1 + wtG wEv u.events) hsm.2 (by omega) (by omega)
  simp only [Zle]
  rw [Wt (by omega : (i : Int) < (l.length : Int)), Wu, Yhh hi (by omega), w1 k (by omega) (by omega)]
  simp only [Int.toNat_natCast, hg, Yod, List.length_set, hil, List.set_set, Wb, h1, h2]
  unfold mkGr
  rw [hwe, show k + 1 + (wtG wEv u.events : Int) + (wtG wEv u.parked : Int) = k + ((1 + wtG wEv u.events + wtG wEv u.parked : Nat) : Int) by omega]) (fun l k hll => by
  simp only [Zle]
  rw [hll, dnlt, Wv])]
 rfl
theorem Yqy (p : List Yaf) (n : Int) (hp : Yqw p) (h0 : 0 ≤ n) (hn : n + wtG wGr p ≤ 900000000000000) : Zm9 (mkS mkGr wGr n p) n = some (n + wtG wGr p) := by
 have hpl := hp.1
 unfold Zm9
 rw [Yqt (w := wGr) (p := p) (n := n) (step := fun z : Int × Int => Zm8 (mkS mkGr wGr n p) z.1 z.2) (by omega) (by
  rintro i hi k hk
  have hw := Yqq wGr hi
  have hsm := hp.2 _ (Wm hi)
  have hi' : i < (mkS mkGr wGr n p).length := by rw [Yqm]; exact hi
  have hgt := Yqo mkGr wGr p n i hi' hi
  rw [← hk] at hgt
  simp only [Zm8]
  rw [Yqm, dlt hi, Wu, Yhg hi', Wb, hgt, Yhh hi (by omega)]
  generalize p[i] = u at hw hsm
  have hwe : wGr u = 1 + wtG wEv u.events + wtG wEv u.parked := rfl
  have h1 := Yqv u.events (k + 1) hsm.1 (by omega) (by omega)
  have h2 := Yqv u.parked (k + 1 + wtG wEv u.events) hsm.2 (by omega) (by omega)
  rw [w1 k (by omega) (by omega)]
  unfold mkGr
  simp only
  rw [h1, Wb, Wf (by omega : ¬ k + 1 + (wtG wEv u.events : Int) < 0), h2, Wv, Wb, Wf (by omega : ¬ k + 1 + (wtG wEv u.events : Int) + (wtG wEv u.parked : Int) < 0)]
  simp only [bne_self_eq_false, Wv]
  rw [hwe, show k + 1 + (wtG wEv u.events : Int) + (wtG wEv u.parked : Int) = k + ((1 + wtG wEv u.events + wtG wEv u.parked : Nat) : Int) by omega]) (fun k => by
  simp only [Zm8]
  rw [Yqm, dnlt, Wv])]
 rfl


def wSp (_ : Yac) : Nat := 2
def mkSp (n : Int) (_ : Yac) : Yac := ⟨n, n + 1⟩
theorem Yqz (p : List Yac) (n : Int) (hp : p.length ≤ 1048576) (h0 : 0 ≤ n) (hn : n + wtG wSp p ≤ 900000000000000) : Zlk p n = some (n + wtG wSp p, mkS mkSp wSp n p) := by
 unfold Zlk
 rw [Yqs (mk := mkSp) (w := wSp) (p := p) (n := n) (step := fun z : List Yac × Int × Int => Zlj z.1 z.2.1 z.2.2) (by omega) (by
  rintro i hi l k hil hll hli rfl
  have hw := Yqq wSp hi
  have hg : getI l (i : Int) = some p[i] := Y50 hli
  generalize hk : n + (wtG wSp (p.take i) : Int) = k
  generalize p[i] = u at hg hw
  have hwe : wSp u = 2 := rfl
  simp only [Zlj]
  rw [Wt (by omega : (i : Int) < (l.length : Int)), Wu, Yhh hi (by omega), w1 k (by omega) (by omega), w1 (k + 1) (by omega) (by omega)]
  simp only [Int.toNat_natCast, hg, Yod, List.length_set, hil, List.set_set, Wb]
  unfold mkSp wSp
  rw [show k + 1 + 1 = k + ((2 : Nat) : Int) by omega]) (fun l k hll => by
  simp only [Zlj]
  rw [hll, dnlt, Wv])]
 rfl
theorem Yr0 (p : List Yac) (n : Int) (hp : p.length ≤ 1048576) (h0 : 0 ≤ n) (hn : n + wtG wSp p ≤ 900000000000000) : Zmd (mkS mkSp wSp n p) n = some (n + wtG wSp p) := by
 unfold Zmd
 rw [Yqt (w := wSp) (p := p) (n := n) (step := fun z : Int × Int => Zmc (mkS mkSp wSp n p) z.1 z.2) (by omega) (by
  rintro i hi k hk
  have hw := Yqq wSp hi
  have hi' : i < (mkS mkSp wSp n p).length := by rw [Yqm]; exact hi
  have hgt := Yqo mkSp wSp p n i hi' hi
  rw [← hk] at hgt
  have hwe : wSp p[i] = 2 := rfl
  simp only [Zmc]
  rw [Yqm, dlt hi, Wu, Yhg hi', Wb, hgt, Yhh hi (by omega), w1 k (by omega) (by omega), w1 (k + 1) (by omega) (by omega)]
  unfold mkSp wSp
  simp only [bne_self_eq_false, Wv]
  rw [show k + 1 + 1 = k + ((2 : Nat) : Int) by omega]) (fun k => by
  simp only [Zmc]
  rw [Yqm, dnlt, Wv])]
 rfl


structure SmH (h : Yag) : Prop where
 rg : Yqw h.rooms
 sl : h.stream.length ≤ 1048576
def Yr1 (p : List Yag) : Prop := p.length ≤ 1048576 ∧ ∀ h ∈ p, SmH h
def wHu (h : Yag) : Nat := wtG wGr h.rooms + wtG wSp h.stream
def mkHu (n : Int) (h : Yag) : Yag := ⟨mkS mkGr wGr n h.rooms, mkS mkSp wSp (n + wtG wGr h.rooms) h.stream⟩
theorem Yr2 (p : List Yag) (n : Int) (hp : Yr1 p) (h0 : 0 ≤ n) (hn : n + wtG wHu p ≤ 900000000000000) : Zlo p n = some (n + wtG wHu p, mkS mkHu wHu n p) := by
 have hpl := hp.1
 unfold Zlo
 rw [Yqs (mk := mkHu) (w := wHu) (p := p) (n := n) (step := fun z : List Yag × Int × Int => Zln z.1 z.2.1 z.2.2) (by omega) (by
  rintro i hi l k hil hll hli rfl
  have hw := Yqq wHu hi
  have hsm := hp.2 _ (Wm hi)
  have hg : getI l (i : Int) = some p[i] := Y50 hli
  generalize hk : n + (wtG wHu (p.take i) : Int) = k
  generalize p[i] = u at hg hw hsm
  have hwe : wHu u = wtG wGr u.rooms + wtG wSp u.stream := rfl
  have h1 := Yqx u.rooms k hsm.rg (by omega) (by omega)
  have h2 := Yqz u.stream (k + wtG wGr u.rooms) hsm.sl (by omega) (by omega)
  simp only [Zln]
  rw [Wt (by omega : (i : Int) < (l.length : Int)), Wu, Yhh hi (by omega)]
  simp only [Int.toNat_natCast, hg, Yod, hil, List.set_set, Wb, h1, h2]
  unfold mkHu
  rw [hwe, show k + (wtG wGr u.rooms : Int) + (wtG wSp u.stream : Int) = k + ((wtG wGr u.rooms + wtG wSp u.stream : Nat) : Int) by omega]) (fun l k hll => by
  simp only [Zln]
  rw [hll, dnlt, Wv])]
 rfl
theorem Yr3 (p : List Yag) (n : Int) (hp : Yr1 p) (h0 : 0 ≤ n) (hn : n + wtG wHu p ≤ 900000000000000) : Zmh (mkS mkHu wHu n p) n = some (n + wtG wHu p) := by
 have hpl := hp.1
 unfold Zmh
 rw [Yqt (w := wHu) (p := p) (n := n) (step := fun z : Int × Int => Zmg (mkS mkHu wHu n p) z.1 z.2) (by omega) (by
  rintro i hi k hk
  have hw := Yqq wHu hi
  have hsm := hp.2 _ (Wm hi)
  have hi' : i < (mkS mkHu wHu n p).length := by rw [Yqm]; exact hi
  have hgt := Yqo mkHu wHu p n i hi' hi
  rw [← hk] at hgt
  simp only [Zmg]
  rw [Yqm, dlt hi, Wu, Yhg hi', Wb, hgt, Yhh hi (by omega)]
  generalize p[i] = u at hw hsm
  have hwe : wHu u = wtG wGr u.rooms + wtG wSp u.stream := rfl
  have h1 := Yqy u.rooms k hsm.rg (by omega) (by omega)
  have h2 := Yr0 u.stream (k + wtG wGr u.rooms) hsm.sl (by omega) (by omega)
  unfold mkHu
  simp only
  rw [h1, Wb, Wf (by omega : ¬ k + (wtG wGr u.rooms : Int) < 0), h2, Wv, Wb, Wf (by omega : ¬ k + (wtG wGr u.rooms : Int) + (wtG wSp u.stream : Int) < 0), Wv]
  rw [hwe, show k + (wtG wGr u.rooms : Int) + (wtG wSp u.stream : Int) = k + ((wtG wGr u.rooms + wtG wSp u.stream : Nat) : Int) by omega]) (fun k => by
  simp only [Zmg]
  rw [Yqm, dnlt, Wv])]
 rfl


def wLe (_ : Yad) : Nat := 5
def mkLe (n : Int) (_ : Yad) : Yad := ⟨n, n + 1, n + 2, n + 3, txtM (n + 4)⟩
theorem Yr4 (p : List Yad) (n : Int) (hp : p.length ≤ 1048577) (h0 : 0 ≤ n) (hn : n + wtG wLe p ≤ 900000000000000) : Zlt p n = some (n + wtG wLe p, mkS mkLe wLe n p) := by
 unfold Zlt
 rw [Yqs (mk := mkLe) (w := wLe) (p := p) (n := n) (step := fun z : List Yad × Int × Int => Zls z.1 z.2.1 z.2.2) (by omega) (by
  rintro i hi l k hil hll hli rfl
  have hw := Yqq wLe hi
  have hg : getI l (i : Int) = some p[i] := Y50 hli
  generalize hk : n + (wtG wLe (p.take i) : Int) = k
  generalize p[i] = u at hg hw
  have hwe : wLe u = 5 := rfl
  have ht := Yql (k + 1 + 1 + 1 + 1) (by omega) (by omega)
  simp only [Zls]
  rw [Wt (by omega : (i : Int) < (l.length : Int)), Wu, Yhh hi (by omega), w1 k (by omega) (by omega), w1 (k + 1) (by omega) (by omega), w1 (k + 1 + 1) (by omega) (by omega), w1 (k + 1 + 1 + 1) (by omega) (by omega), w1 (k + 1 + 1 + 1 + 1) (by omega) (by omega)]
  simp only [Int.toNat_natCast, hg, Yod, List.length_set, hil, List.set_set, Wb, ht]
  unfold mkLe wLe
  rw [show k + 1 + 1 = k + 2 by omega, show k + 2 + 1 = k + 3 by omega, show k + 3 + 1 = k + 4 by omega, show k + 4 + 1 = k + ((5 : Nat) : Int) by omega]) (fun l k hll => by
  simp only [Zls]
  rw [hll, dnlt, Wv])]
 rfl
theorem Yr5 (p : List Yad) (n : Int) (hp : p.length ≤ 1048577) (h0 : 0 ≤ n) (hn : n + wtG wLe p ≤ 900000000000000) : Zml (mkS mkLe wLe n p) n = some (n + wtG wLe p) := by
 unfold Zml
 rw [Yqt (w := wLe) (p := p) (n := n) (step := fun z : Int × Int => Zmk (mkS mkLe wLe n p) z.1 z.2) (by omega) (by
  rintro i hi k hk
  have hw := Yqq wLe hi
  have hi' : i < (mkS mkLe wLe n p).length := by rw [Yqm]; exact hi
  have hgt := Yqo mkLe wLe p n i hi' hi
  rw [← hk] at hgt
  have hwe : wLe p[i] = 5 := rfl
  have ht := Yql (k + 4) (by omega) (by omega)
  simp only [Zmk]
  rw [Yqm, dlt hi, Wu, Yhg hi', Wb, hgt, Yhh hi (by omega), w1 k (by omega) (by omega), w1 (k + 1) (by omega) (by omega), w1 (k + 1 + 1) (by omega) (by omega), w1 (k + 1 + 1 + 1) (by omega) (by omega), w1 (k + 1 + 1 + 1 + 1) (by omega) (by omega)]
  rw [show k + 1 + 1 = k + 2 by omega, show k + 2 + 1 = k + 3 by omega, show k + 3 + 1 = k + 4 by omega, ht, Wb]
  unfold mkLe wLe
  simp only [bne_self_eq_false, Wv, beq_self_eq_true, Wu]
  rw [show k + 4 + 1 = k + ((5 : Nat) : Int) by omega]) (fun k => by
  simp only [Zmk]
  rw [Yqm, dnlt, Wv])]
 rfl

theorem Yr6 {α : Type} {w : α → Nat} {c : Nat} (h : ∀ x, w x = c) : ∀ l : List α, wtG w l = c * l.length
 | [] => by simp [wtG]
 | x :: l => by rw [Yqb, Yr6 h l, h, List.length_cons, Nat.mul_add]; omega


theorem Yr7 (p : Yah) (n : Int) (hp : Yr1 p.hubs) (hl : p.letters.length ≤ 1048577) (h0 : 0 ≤ n) (hn : n + wtG wHu p.hubs ≤ 800000000000000) :
  Zlv p n = some (n + wtG wHu p.hubs + wtG wLe p.letters, mkS mkHu wHu n p.hubs, mkS mkLe wLe (n + wtG wHu p.hubs) p.letters) := by
 have h5 := Yr6 (w := wLe) (c := 5) (fun _ => rfl) p.letters
 unfold Zlv
 rw [Yr2 _ _ hp h0 (by omega), Wb, Yr4 _ _ hl (by simp only; omega) (by simp only; omega)]; rfl
theorem Yr8 (p : Yah) (n : Int) (hp : Yr1 p.hubs) (hl : p.letters.length ≤ 1048577) (h0 : 0 ≤ n) (hn : n + wtG wHu p.hubs ≤ 800000000000000) :
  Zmn ⟨mkS mkHu wHu n p.hubs, mkS mkLe wLe (n + wtG wHu p.hubs) p.letters⟩ n = some (n + wtG wHu p.hubs + wtG wLe p.letters) := by
 have h5 := Yr6 (w := wLe) (c := 5) (fun _ => rfl) p.letters
 unfold Zmn
 rw [Yr3 _ _ hp h0 (by omega), Wb, Wf (by omega), Wv, Yr5 _ _ hl (by omega) (by omega), Wb, Wf (by omega), Wv]
end Go.Proofs.YtnoknphekhclcaaGreat
namespace Go.Proofs.YtnoknphekhclcaaGreat
open Go Go.Abs

def nH (h : THub) : Nat := h.rooms.length + wtG nG h.rooms + h.stream.length
structure PIn (p : Yae) : Prop where
 hl : p.hubs.length ≤ maxLen
 hh : ∀ h ∈ p.hubs, HIn h
 ll : p.letters.length ≤ maxLen
 lt : ∀ x ∈ p.letters, x.text.size ≤ maxLen
structure Yr9 (p : Yae) : Prop where
 hl : p.hubs.length ≤ 1048576
 hs : ∀ h ∈ p.hubs, Yqd h
 wt : wtG nH p.hubs ≤ 1048576
 ll : p.letters.length ≤ 1048576

theorem Yra (h : THub) (n : Int) (hh : HIn h) (h0 : 0 ≤ n) (hn : n ≤ 1048576) : ∃ r, Zh h n = some r ∧ ((0 ≤ r ∧ r + (nH h : Nat) ≤ n ∧ Yqd h) ∨ r = -1) := by
 have hsl := hh.sl
 simp only [maxLen] at hsl
 unfold Zh
 obtain ⟨r, h1, h2⟩ := Yqe h.rooms n hh.rl hh.rg h0 hn
 rw [h1, Wb]
 rcases h2 with ⟨h2, h3, h4⟩ | rfl
 ·
  rw [Wf (by omega), Wv]
  unfold Zf
  rw [Y4y (by omega) (by omega)]
  by_cases h5 : r - (h.stream.length : Int) < 0
  ·
   rw [Wt h5]; exact ⟨_, rfl, .inr rfl⟩
  ·
   rw [Wf h5, Wv, Wb, Wf h5]
   exact ⟨_, rfl, .inl ⟨by omega, by unfold nH; omega, by omega, h4, by omega, by omega⟩⟩
 ·
  exact ⟨_, rfl, .inr rfl⟩

theorem Yrb (p : List THub) (n : Int) (hl : p.length ≤ maxLen) (hp : ∀ h ∈ p, HIn h) (h0 : 0 ≤ n) (hn : n ≤ 1048576) : ∃ r, Zl p n = some r ∧ ((0 ≤ r ∧ r + (p.length + wtG nH p : Nat) ≤ n ∧ ∀ h ∈ p, Yqd h) ∨ r = -1) := by
 simp only [maxLen] at hl
 unfold Zl
 rw [Y4y (by omega) (by omega)]
 by_cases h : n - (p.length : Int) < 0
 ·
  rw [Wt h]; exact ⟨_, rfl, .inr rfl⟩
 ·
  rw [Wf h, Wv]
  obtain ⟨o, h1, h2⟩ := Yhf (τ := Int × Int) (ω := Int ⊕ Int) (σ := Int) (step := fun z : Int × Int => Zk p z.1 z.2) (n := p.length) (fun s j => (s, j))
   (fun i s => 0 ≤ s ∧ s + (p.length + wtG nH (p.take i) : Nat) ≤ n ∧ ∀ (j : Nat) (hj : j < p.length), j < i → Yqd p[j]) (fun o => o = .inl (-1) ∨ ∃ r, o = .inr r ∧ 0 ≤ r ∧ r + (p.length + wtG nH p : Nat) ≤ n ∧ ∀ h ∈ p, Yqd h) (by omega) (by
   rintro i s hi ⟨hs0, hsn, hI⟩
   obtain ⟨r, e1, e2⟩ := Yra p[i] s (hp _ (Wm hi)) hs0 (by omega)
   simp only [Zk]
   rw [dlt hi, Wu, Yhg hi, Wb, e1, Wb, Yhh hi (by omega)]
   rcases e2 with ⟨e2, e3, e4⟩ | rfl
   ·
    rw [Wf (by omega), Wv]
    refine .inl ⟨r, rfl, e2, by rw [Yqc nH hi]; omega, fun j hj hji => ?_⟩
    rcases Nat.lt_or_ge j i with h | h
    ·
     exact hI j hj h
    ·
     obtain rfl : j = i := by omega
     exact e4
   ·
    exact .inr ⟨_, rfl, .inl rfl⟩) (by
   rintro s ⟨hs0, hsn, hI⟩
   simp only [Zk]
   rw [dnlt, Wv]
   rw [List.take_length] at hsn
   refine ⟨_, rfl, .inr ⟨s, rfl, hs0, hsn, fun e he => ?_⟩⟩
   obtain ⟨j, hj, rfl⟩ := List.mem_iff_getElem.1 he
   exact hI j hj hj) (s := n - (p.length : Int)) ⟨by omega, by simp [wtG], fun j hj h => by omega⟩
  rw [h1, Wb]
  rcases h2 with rfl | ⟨r, rfl, h3⟩
  ·
   exact ⟨_, rfl, .inr rfl⟩
  ·
   exact ⟨_, rfl, .inl h3⟩

theorem Yrc (p : List Yad) (n : Int) (hl : p.length ≤ maxLen) (hp : ∀ x ∈ p, x.text.size ≤ maxLen) (h0 : 0 ≤ n) (hn : n ≤ 1048576) : ∃ r, Zr p n = some r ∧ ((0 ≤ r ∧ r + p.length ≤ n) ∨ r = -1) := by
 simp only [maxLen] at hl hp
 unfold Zr
 rw [Y4y (by omega) (by omega)]
 by_cases h : n - (p.length : Int) < 0
 ·
  rw [Wt h]; exact ⟨_, rfl, .inr rfl⟩
 ·
  rw [Wf h, Wv]
  obtain ⟨o, h1, h2⟩ := Yhf (τ := Int × Int) (ω := Int ⊕ Int) (σ := Int) (step := fun z : Int × Int => Zq p z.1 z.2) (n := p.length) (fun s j => (s, j))
   (fun i s => 0 ≤ s ∧ s + p.length ≤ n) (fun o => o = .inl (-1) ∨ ∃ r, o = .inr r ∧ 0 ≤ r ∧ r + p.length ≤ n) (by omega) (by
   rintro i s hi ⟨hs0, hsn⟩
   have hx := hp _ (Wm hi)
   simp only [Zq]
   rw [dlt hi, Wu, Yhg hi, Wb, Yhh hi (by omega)]
   unfold Zn
   rw [Y4y (by omega) (by omega)]
   by_cases h5 : s - (p[i].text.size : Int) < 0
   ·
    rw [Wt h5]; exact .inr ⟨_, rfl, .inl rfl⟩
   ·
    rw [Wf h5, Wv, Wb, Wf h5]
    exact .inl ⟨_, rfl, by omega, by omega⟩) (by
   rintro s ⟨hs0, hsn⟩
   simp only [Zq]
   rw [dnlt, Wv]
   exact ⟨_, rfl, .inr ⟨s, rfl, hs0, hsn⟩⟩) (s := n - (p.length : Int)) ⟨by omega, by omega⟩
  rw [h1, Wb]
  rcases h2 with rfl | ⟨r, rfl, h3⟩
  ·
   exact ⟨_, rfl, .inr rfl⟩
  ·
   exact ⟨_, rfl, .inl h3⟩

theorem Yrd (p : Yae) (n : Int) (hp : PIn p) (h0 : 0 ≤ n) (hn : n ≤ 1048576) : ∃ r, Zt p n = some r ∧ ((0 ≤ r ∧ r ≤ n ∧ Yr9 p) ∨ r = -1) := by
 unfold Zt
 obtain ⟨r, h1, h2⟩ := Yrb p.hubs n hp.hl hp.hh h0 hn
 rw [h1, Wb]
 rcases h2 with ⟨h2, h3, h4⟩ | rfl
 ·
  obtain ⟨q, q1, q2⟩ := Yrc p.letters r hp.ll hp.lt h2 (by omega)
  rw [Wf (by omega), Wv, q1, Wb]
  rcases q2 with ⟨q2, q3⟩ | rfl
  ·
   rw [Wf (by omega), Wv]
   exact ⟨_, rfl, .inl ⟨q2, by omega, by omega, h4, by omega, by omega⟩⟩
  ·
   exact ⟨_, rfl, .inr rfl⟩
 ·
  exact ⟨_, rfl, .inr rfl⟩


def toP (p : Yae) : Yah := ⟨p.hubs.map toH, p.letters⟩
theorem Yre (p : List THub) (hl : p.length ≤ 1048576) (hp : ∀ h ∈ p, Yqd h) : Z1n p = some (p.map toH) := by
 unfold Z1n
 rw [Y4z (Wt ⟨by omega, by omega⟩), Wb, Int.toNat_natCast]
 rw [Ynw (xs := p) toH (by omega) (fun i s hi hs => by
  have := hp _ (Wm hi)
  simp only [Z1m]
  rw [dlt hi, Wu, Yhg hi, Wb, Yqh _ this, Wb, Yhg (by omega : i < s.length), Wb, Yhh hi (by omega), Int.toNat_natCast]) (fun s => by simp only [Z1m]; rw [dnlt, Wv])]
 rfl
theorem Yrf (p : List Yad) (hl : p.length ≤ 1048576) : Z1u p = some p := by
 unfold Z1u
 rw [Y4z (Wt ⟨by omega, by omega⟩), Wb, Int.toNat_natCast]
 rw [Ynw (xs := p) (fun x => x) (by omega) (fun i s hi hs => by
  simp only [Z1t]
  rw [dlt hi, Wu, Yhg hi, Wb]
  unfold Z1q
  rw [Wb, Yhg (by omega : i < s.length), Wb, Yhh hi (by omega), Int.toNat_natCast]) (fun s => by simp only [Z1t]; rw [dnlt, Wv])]
 simp [Z1s]
theorem Yrg (p : Yae) (hs : Yr9 p) : Z1w p = some (toP p) := by
 unfold Z1w
 rw [Yre _ hs.hl hs.hs, Wb, Yrf _ hs.ll]; rfl

theorem Yrh {h : THub} (s : Yqd h) : SmH (toH h) := ⟨⟨by show (h.rooms.map toG).length ≤ _; rw [List.length_map]; exact s.rl, Yqk s⟩, s.sl⟩
theorem Yri {p : Yae} (s : Yr9 p) : Yr1 (toP p).hubs := ⟨by show (p.hubs.map toH).length ≤ _; rw [List.length_map]; exact s.hl, fun h hh => by
 obtain ⟨h0, h1, rfl⟩ := List.mem_map.1 hh
 exact Yrh (s.hs h0 h1)⟩
theorem Yrj {α β : Type} (w : β → Nat) (f : α → β) (l : List α) : wtG w (l.map f) = wtG (fun x => w (f x)) l := by unfold wtG; rw [List.map_map]; rfl
theorem Yrk {α : Type} {v : α → Nat} : ∀ l : List α, wtG (fun x => 1 + v x) l = l.length + wtG v l
 | [] => by simp [wtG]
 | x :: l => by rw [Yqb, Yqb, Yrk l, List.length_cons]; omega
theorem Yrl {l : List Yaa} (h : Ynt l) : wtG wEv l ≤ 1048584 * l.length := by
 have := Yqr wEv (v := fun _ => 1) (c := 1048584) (l := l) fun x hx => by have := (h.2 x hx).1; unfold wEv; omega
 rwa [Yr6 (c := 1) (fun _ => rfl), Nat.one_mul] at this
theorem Yrm {h : THub} (s : Yqd h) : wHu (toH h) ≤ 2000000 * nH h := by
 have h1 : wtG wGr (toH h).rooms ≤ 1048584 * wtG (fun g => 1 + nG g) h.rooms := by
  show wtG wGr (h.rooms.map toG) ≤ _
  rw [Yrj]
  refine Yqr _ fun g hg => ?_
  have h1 := Yrl (s.rg g hg).1
  have h2 := Yrl (s.rg g hg).2
  show 1 + wtG wEv g.events + wtG wEv g.parked ≤ 1048584 * (1 + (g.events.length + g.parked.length))
  omega
 rw [Yrk] at h1
 have h2 := Yr6 (w := wSp) (c := 2) (fun _ => rfl) h.stream
 show wtG wGr (toH h).rooms + wtG wSp h.stream ≤ _
 unfold nH
 omega
theorem Yrn {p : Yae} (s : Yr9 p) : wtG wHu (toP p).hubs ≤ 2097152000000 := by
 have h1 : wtG wHu (toP p).hubs ≤ 2000000 * wtG nH p.hubs := by
  show wtG wHu (p.hubs.map toH) ≤ _
  rw [Yrj]
  exact Yqr _ fun h hh => Yrm (s.hs h hh)
 have := s.wt
 omega


theorem Yro {h : Yag} (s : SmH h) : Zkk h h = some true := by
 unfold Zkk
 rw [Yqi _ s.rg.1 s.rg.2, Wb, Wu, Yqj _ s.sl]; rfl
theorem Yrp (p : List Yag) (hp : Yr1 p) : Zko p p = some true := by
 have hl := hp.1
 unfold Zko
 rw [bned, Wt rfl]
 simp only [Bool.not_true, Wv]
 rw [Yhw (l := p) (fun _ => true) (.inl false) (.inr ()) (by omega) (fun i hi => by
  simp only [Zkn]
  rw [dlt hi, Wu, Yhg hi, Wb, Wb, Yro (hp.2 _ (Wm hi)), Wb, Yhh hi (by omega)]; rfl) (by simp only [Zkn]; rw [dnlt, Wv])]
 rw [show (p.all fun _ => true) = true by simp]; rfl
theorem Yrq (p : List Yad) (hl : p.length ≤ 1048577) : Zku p p = some true := by
 unfold Zku
 rw [bned, Wt rfl]
 simp only [Bool.not_true, Wv]
 rw [Yhw (l := p) (fun _ => true) (.inl false) (.inr ()) (by omega) (fun i hi => by
  simp only [Zkt]
  rw [dlt hi, Wu, Yhg hi, Wb, Wb, show Zkq p[i] p[i] = some true by simp [Zkq], Wb, Yhh hi (by omega)]; rfl) (by simp only [Zkt]; rw [dnlt, Wv])]
 rw [show (p.all fun _ => true) = true by simp]; rfl
theorem Yrr (p : Yah) (hp : Yr1 p.hubs) (hl : p.letters.length ≤ 1048577) : Zkw p p = some true := by
 unfold Zkw
 rw [Yrp _ hp, Wb, Wu, Yrq _ hl]; rfl
theorem Yrs (o : Yal) (hp : Yr1 o.peers.hubs) (hl : o.peers.letters.length ≤ 1048577) : Zky o o = some true := by
 unfold Zky
 rw [Yrr _ hp hl]; simp
theorem Yrt (o : Yal) (hp : Yr1 o.peers.hubs) (hl : o.peers.letters.length ≤ 1048577) (hn : wtG wHu o.peers.hubs ≤ 2097152000000) :
  Zlx o 1 = some ((1 : Int) + wtG wHu o.peers.hubs + wtG wLe o.peers.letters, mkS mkHu wHu 1 o.peers.hubs, mkS mkLe wLe (1 + wtG wHu o.peers.hubs) o.peers.letters) := by
 unfold Zlx
 rw [Yr7 _ _ hp hl (by omega) (by omega)]; rfl
theorem Yru (o : Yal) (hp : Yr1 o.peers.hubs) (hl : o.peers.letters.length ≤ 1048577) (hn : wtG wHu o.peers.hubs ≤ 2097152000000) :
  Zmp ⟨⟨mkS mkHu wHu 1 o.peers.hubs, mkS mkLe wLe (1 + wtG wHu o.peers.hubs) o.peers.letters⟩, o.id, o.code⟩ 1 = some ((1 : Int) + wtG wHu o.peers.hubs + wtG wLe o.peers.letters) := by
 unfold Zmp
 simp only
 rw [Yr8 _ _ hp hl (by omega) (by omega), Wb, Wf (by omega), Wv]
end Go.Proofs.YtnoknphekhclcaaGreat
namespace Go.Proofs.YtnoknphekhclcaaGreat
open Go Go.Abs


theorem Yrv {α β : Type} (f : α → β) : ∀ (l : List α) (s : List β), l.foldl (fun q x => q ++ [f x]) s = s ++ l.map f
 | [], s => by simp
 | x :: l, s => by rw [List.foldl_cons, Yrv f l]; simp
theorem Yrw {α β τ ω : Type} {l : List α} {step : τ → Option (τ ⊕ ω)} (f : α → β) (emb : List β → Int → τ) (fin : List β → ω) (hl : l.length < 9223372036854775807)
  (h1 : ∀ (i : Nat) (s : List β) (hi : i < l.length), s.length = i → step (emb s i) = some (.inl (emb (s ++ [f l[i]]) ((i + 1 : Nat) : Int)))) (h2 : ∀ s : List β, step (emb s l.length) = some (.inr (fin s))) :
  iter step big (emb [] 0) = some (fin (l.map f)) := by
 have := (Yhx (l := l) (step := step) emb fin (fun q x => q ++ [f x]) (fun i q => q.length = i) hl (fun i s hi hs => ⟨h1 i s hi hs, by rw [List.length_append, hs]; rfl⟩) (fun s _ => h2 s) (s := []) rfl).1
 rwa [Yrv, List.nil_append] at this

theorem l02c (e : Yaa) (h : e.prev.length ≤ 1048576) : Z5x e = some e := by
 unfold Z5x
 rw [Y4z (Wt (by simp only [List.length_nil]; omega))]; rfl
theorem evc (e : Yaa) (h : e.prev.length ≤ 1048576) : Zi6 e = some e := by
 unfold Zi6 Zgd
 rw [Y4z (Wt (by omega))]; rfl
theorem evsc (l : List Yaa) (hl : l.length ≤ 1048576) (h : ∀ e ∈ l, e.prev.length ≤ 1048576) : Zia l = some l := by
 unfold Zia
 rw [Yrw (l := l) (step := fun z : List Yaa × Int => Zi9 l z.1 z.2) (fun x => x) (fun q j => (q, j)) (fun q => q) (by omega) (fun i s hi hs => by
  simp only [Zi9]
  rw [dlt hi, Wu, Yhg hi, Wb, evc _ (h _ (Wm hi)), Wb, Y4z (Wt (by simp only [List.length_cons, List.length_nil]; omega)), Wb, Yhh hi (by omega)]) (fun s => by simp only [Zi9]; rw [dnlt, Wv])]
 simp [Zi8]
theorem grc (g : Yaf) (h : Fine g) : Zjg g = some g := by
 unfold Zjg
 rw [evsc _ h.elen h.ep, Wb, evsc _ h.plen h.pp]; rfl
theorem l03c (g : Yaf) (h : Fine g) : Z8c g = some g := by
 have h1 := h.elen
 have h2 := h.plen
 unfold Z8c
 rw [Yrw (l := g.events) (step := fun z : List Yaa × List Yaa × Int => Z8b g z.1 z.2.1 z.2.2) (fun x => x) (fun q j => ([], q, j)) (fun q => ([], q)) (by omega) (fun i s hi hs => by
  simp only [Z8b]
  rw [dlt hi, Wu, Yhg hi, Wb, l02c _ (h.ep _ (Wm hi)), Wb, Y4z (Wt (by simp only [List.length_cons, List.length_nil]; omega)), Wb, Yhh hi (by omega)]) (fun s => by simp only [Z8b]; rw [dnlt, Wv])]
 rw [Wb]
 simp only [Z8a]
 rw [Yrw (l := g.parked) (step := fun z : List Yaa × Int => Z89 g z.1 z.2) (fun x => x) (fun q j => (q, j)) (fun q => q) (by omega) (fun i s hi hs => by
  simp only [Z89]
  rw [dlt hi, Wu, Yhg hi, Wb, l02c _ (h.pp _ (Wm hi)), Wb, Y4z (Wt (by simp only [List.length_cons, List.length_nil]; omega)), Wb, Yhh hi (by omega)]) (fun s => by simp only [Z89]; rw [dnlt, Wv])]
 simp [Z88]
theorem huc (h : Yag) (hf : Ypk h) : Zjk h = some h := by
 have h1 := hf.rl
 have h2 := hf.sl
 unfold Zjk Zjd
 rw [Y4z (Wt (by omega)), Wb, Wb]
 rw [Yrw (l := h.rooms) (step := fun z : List Yaf × List Yaf × Int => Zjj h z.1 z.2.1 z.2.2) (fun x => x) (fun q j => ([], q, j)) (fun q => ([], q)) (by omega) (fun i s hi hs => by
  simp only [Zjj]
  rw [dlt hi, Wu, Yhg hi, Wb, grc _ (hf.fine _ (Wm hi)), Wb, Y4z (Wt (by simp only [List.length_cons, List.length_nil]; omega)), Wb, Yhh hi (by omega)]) (fun s => by simp only [Zjj]; rw [dnlt, Wv])]
 simp [Zji]
theorem l07c (h : Yag) (hf : Ypk h) : Z8g h = some h := by
 have h1 := hf.rl
 have h2 := hf.sl
 unfold Z8g
 rw [Y4z (Wt (by simp only [List.length_nil]; omega)), Wb]
 rw [Yrw (l := h.rooms) (step := fun z : List Yaf × List Yaf × Int => Z8f h z.1 z.2.1 z.2.2) (fun x => x) (fun q j => ([], q, j)) (fun q => ([], q)) (by omega) (fun i s hi hs => by
  simp only [Z8f]
  rw [dlt hi, Wu, Yhg hi, Wb, l03c _ (hf.fine _ (Wm hi)), Wb, Y4z (Wt (by simp only [List.length_cons, List.length_nil]; omega)), Wb, Yhh hi (by omega)]) (fun s => by simp only [Z8f]; rw [dnlt, Wv])]
 simp [Z8e]

structure Yrx (p : Yah) : Prop where
 hl : p.hubs.length ≤ 1048576
 hf : ∀ h ∈ p.hubs, Ypk h
 ll : p.letters.length ≤ 1048576

theorem l17c (p : Yah) (hp : Yrx p) : Z8k p = some p := by
 have h1 := hp.hl
 have h2 := hp.ll
 unfold Z8k
 rw [Y4z (Wt (by simp only [List.length_nil]; omega)), Wb]
 rw [Yrw (l := p.hubs) (step := fun z : List Yag × List Yag × Int => Z8j p z.1 z.2.1 z.2.2) (fun x => x) (fun q j => ([], q, j)) (fun q => ([], q)) (by omega) (fun i s hi hs => by
  simp only [Z8j]
  rw [dlt hi, Wu, Yhg hi, Wb, l07c _ (hp.hf _ (Wm hi)), Wb, Y4z (Wt (by simp only [List.length_cons, List.length_nil]; omega)), Wb, Yhh hi (by omega)]) (fun s => by simp only [Z8j]; rw [dnlt, Wv])]
 simp [Z8i]
theorem Yry {hs : List Yag} (L : List Yad) (hl : hs.length ≤ 1048576) (hf : ∀ h ∈ hs, Ypk h) : Zjt ⟨hs.map sOf, L⟩ = some ⟨⟨hs, L⟩, 0, 0⟩ := by
 unfold Zjt
 have hll : (hs.map sOf).length = hs.length := List.length_map ..
 rw [Yrw (l := hs.map sOf) (step := fun z : List Yag × List Yag × Int => Zjs ⟨hs.map sOf, L⟩ z.1 z.2.1 z.2.2) (fun x => x.hub) (fun q j => ([], q, j)) (fun q => ([], q)) (by omega) (fun i s hi hsl => by
  have hi' : i < hs.length := by omega
  simp only [Zjs]
  rw [dlt hi, Wu, Yhg hi, Wb, List.getElem_map]
  show (Zjk hs[i]).bind _ = _
  rw [huc _ (hf _ (Wm hi')), Wb, Y4z (Wt (by simp only [List.length_cons, List.length_nil]; omega)), Wb, Yhh hi (by omega)]; rfl) (fun s => by simp only [Zjs]; rw [dnlt, Wv])]
 rw [List.map_map, Wb]
 simp only [Zjr]
 rw [show (hs.map ((fun x => x.hub) ∘ sOf)) = hs by rw [show ((fun x : Yao => x.hub) ∘ sOf) = id from rfl, List.map_id]]


def okHb (h : Yag) : Bool := ((Z7q h).map (·.2)).getD false
theorem Yrz {h : Yag} (hf : Ypk h) : Z7s h = some (okHb h) ∧ Zhl h = some (cond (okHb h) (sOf h, true) (zS, false)) := by
 obtain ⟨b, _, b1, b2⟩ := Yqa hf
 unfold okHb Z7s
 rw [b1]
 cases b <;> exact ⟨rfl, b2⟩
def okLe (n : Int) (x : Yad) : Bool := decide (1 ≤ x.kind ∧ x.kind ≤ 2) && decide (0 ≤ x.from_ ∧ x.from_ ≤ n - 1) && decide (0 ≤ x.to_ ∧ x.to_ ≤ n - 1) && !(x.from_ == x.to_) && decide (1 ≤ x.room ∧ x.room ≤ 3) && !decide ((x.text.size : Int) > 8000)
def Ys0 (p : Yah) : Bool := decide (1 ≤ (p.hubs.length : Int) ∧ (p.hubs.length : Int) ≤ 4) && decide ((p.letters.length : Int) ≤ 60) && p.hubs.all okHb && p.letters.all (okLe p.hubs.length)

theorem Ys1 (p : Yah) (hp : Yrx p) (i : Int) : Z7u p i = some (decide (0 ≤ i ∧ i ≤ (p.hubs.length : Int) - 1)) := by
 have h1 := hp.hl
 unfold Z7u
 rw [Y4y (by omega) (by omega), Yhk]; rfl
theorem Ys2 (p : Yah) (hp : Yrx p) : Z84 p = some (Ys0 p) := by
 have h1 := hp.hl
 have h2 := hp.ll
 have k1 := Yhw (l := p.letters) (step := Z80 p) (okLe p.hubs.length) (.inl false) (.inr ()) (by omega) (fun i hi => by
  simp only [Z80, Z7z]
  rw [dlt hi, Wu, Yhg hi, Wb, Yhk, Wb, Ys1 _ hp, Ys1 _ hp, Yhh hi (by omega)]
  unfold Z7w
  rw [Yhk]
  unfold okLe
  generalize decide (1 ≤ p.letters[i].kind ∧ p.letters[i].kind ≤ 2) = b1
  generalize decide (0 ≤ p.letters[i].from_ ∧ p.letters[i].from_ ≤ (p.hubs.length : Int) - 1) = b2
  generalize decide (0 ≤ p.letters[i].to_ ∧ p.letters[i].to_ ≤ (p.hubs.length : Int) - 1) = b3
  generalize (p.letters[i].from_ == p.letters[i].to_) = b4
  generalize decide (1 ≤ p.letters[i].room ∧ p.letters[i].room ≤ 3) = b5
  generalize decide ((p.letters[i].text.size : Int) > 8000) = b6
  cases b1 <;> cases b2 <;> cases b3 <;> cases b4 <;> cases b5 <;> cases b6 <;> rfl) (by simp only [Z80]; rw [dnlt, Wv])
 have k2 := Yhw (l := p.hubs) (step := Z82 p) okHb (.inl false) (.inr ()) (by omega) (fun i hi => by
  simp only [Z82]
  rw [dlt hi, Wu, Yhg hi, Wb, (Yrz (hp.hf _ (Wm hi))).1, Wb, Yhh hi (by omega)]
  cases okHb p.hubs[i] <;> rfl) (by simp only [Z82]; rw [dnlt, Wv])
 unfold Z84 Ys0
 simp only [Z83, Z81]
 rw [k1, k2]
 generalize p.hubs.all okHb = b1
 generalize p.letters.all (okLe p.hubs.length) = b2
 by_cases h3 : (p.hubs.length : Int) < 1
 ·
  rw [Wt h3, Wf (by omega : ¬ (1 ≤ (p.hubs.length : Int) ∧ (p.hubs.length : Int) ≤ 4))]; rfl
 by_cases h4 : (p.hubs.length : Int) > 4
 ·
  rw [Wf h3, Wt h4, Wf (by omega : ¬ (1 ≤ (p.hubs.length : Int) ∧ (p.hubs.length : Int) ≤ 4))]; rfl
 rw [Wf h3, Wf h4, Wt (by omega : 1 ≤ (p.hubs.length : Int) ∧ (p.hubs.length : Int) ≤ 4)]
 by_cases h5 : (p.letters.length : Int) > 60
 ·
  rw [Wt h5, Wf (by omega : ¬ (p.letters.length : Int) ≤ 60)]; rfl
 ·
  rw [Wf h5, Wt (by omega : (p.letters.length : Int) ≤ 60)]
  cases b1 <;> cases b2 <;> rfl

theorem Ys3 {q : TNet} (hq : q.servers.length ≤ 1048576) (a b : Int) : Zhq q a b = some (decide (0 ≤ a ∧ a ≤ (q.servers.length : Int) - 1) && decide (0 ≤ b ∧ b ≤ (q.servers.length : Int) - 1) && !(a == b)) := by
 unfold Zhq Zhn
 rw [Y4y (by omega) (by omega), c_in, c_in]
 simp only [Wb, Zhp]
 generalize decide (0 ≤ a ∧ a ≤ (q.servers.length : Int) - 1) = b1
 generalize decide (0 ≤ b ∧ b ≤ (q.servers.length : Int) - 1) = b2
 cases b1 <;> cases b2 <;> rfl
theorem Ys4 {q : TNet} (hq : q.servers.length ≤ 1048576) (x : Yad) : Zht x q = some (!okLe q.servers.length x) := by
 unfold Zht
 rw [Ys3 hq, Yho]
 simp only [Zhs]
 unfold okLe
 have e : decide (1 ≤ x.kind ∧ x.kind ≤ 2) = (x.kind == 1 || x.kind == 2) := by rw [Bool.eq_iff_iff]; simp; omega
 rw [e, show (x.kind != 1) = !(x.kind == 1) from rfl, show (x.kind != 2) = !(x.kind == 2) from rfl]
 generalize (x.kind == 1) = b0
 generalize (x.kind == 2) = b1
 generalize decide (0 ≤ x.from_ ∧ x.from_ ≤ (q.servers.length : Int) - 1) = b2
 generalize decide (0 ≤ x.to_ ∧ x.to_ ≤ (q.servers.length : Int) - 1) = b3
 generalize (x.from_ == x.to_) = b4
 generalize decide (1 ≤ x.room ∧ x.room ≤ 3) = b5
 generalize decide ((x.text.size : Int) > 8000) = b6
 cases b0 <;> cases b1 <;> cases b2 <;> cases b3 <;> cases b4 <;> cases b5 <;> cases b6 <;> rfl
theorem Ys5 {q : TNet} (hq : q.servers.length ≤ 1048576) (l : List Yad) (hl : l.length ≤ 1048576) : Zhz l q = some (!l.all (okLe q.servers.length)) := by
 unfold Zhz Zhx
 rw [Yhu (l := l) (fun x => !okLe q.servers.length x) (by omega) (fun i hi => by
  simp only [Zhw]
  rw [dlt hi, Wu, Yhg hi, Wb, Ys4 hq, Wb, Yhh hi (by omega)]
  cases okLe q.servers.length l[i] <;> rfl) (by simp only [Zhw]; rw [dnlt, Wv])]
 cases h : l.findIdx? fun x => !okLe q.servers.length x with
 | none =>
  have : l.all (okLe q.servers.length) = true := by
   rw [List.all_eq_true]; intro x hx
   have := List.findIdx?_eq_none_iff.1 h x hx
   simpa using this
  rw [this]; rfl
 | some k =>
  have : l.all (okLe q.servers.length) = false := by
   obtain ⟨h1, h2, _⟩ := List.findIdx?_eq_some_iff_getElem.1 h
   rw [List.all_eq_false]
   exact ⟨_, Wm h1, by simpa using h2⟩
  rw [this]
  show some (decide ((k : Int) ≥ 0)) = _
  rw [Wt (by omega)]; rfl

def zN : TNet := ⟨[], []⟩
theorem Ys6 (p : Yah) (hp : Yrx p) : Zi4 p = some (cond (Ys0 p) (⟨p.hubs.map sOf, p.letters⟩, true) (zN, false)) := by
 have h1 := hp.hl
 have h2 := hp.ll
 unfold Zi4 Z9i
 rw [Y4z (Wt (by omega)), Wb, Wb]
 rcases Yot (l := p.hubs) (step := fun z : List Yao × Int => Zi3 p z.1 z.2) (fun q j => (q, j)) (fun q => (Sum.inr q : (TNet × Bool) ⊕ List Yao)) (.inl (zN, false)) (fun i => if h : i < p.hubs.length then okHb p.hubs[i] else true) (fun q x => q ++ [sOf x]) (fun i q => q.length = i) (by omega) (fun i s hi hs _ => by
   simp only [Zi3]
   rw [dlt hi, Wu, Yhg hi, Wb, (Yrz (hp.hf _ (Wm hi))).2, Wb, Yhh hi (by omega), dif_pos hi]
   refine ⟨?_, fun _ => by rw [List.length_append, hs]; rfl⟩
   cases okHb p.hubs[i] with
   | false => rfl
   | true =>
    simp only [Wu]
    rw [Y4z (Wt (by simp only [List.length_cons, List.length_nil]; omega))]; rfl)
  (fun s _ => by simp only [Zi3]; rw [dnlt, Wv]) (s := []) rfl with ⟨ha, hb, _⟩ | ⟨⟨i, hi, hb⟩, ha⟩
 ·
  have hall : p.hubs.all okHb = true := Yhv.1 ha
  rw [hb, Yrv, List.nil_append, Wb]
  simp only [Zi2, Zi1]
  have hll : (p.hubs.map sOf).length = p.hubs.length := List.length_map ..
  rw [Ys5 (q := ⟨p.hubs.map sOf, p.letters⟩) (by simp only; omega) _ h2, c_in]
  unfold Ys0
  simp only [Wb, hll, hall]
  generalize decide (1 ≤ (p.hubs.length : Int) ∧ (p.hubs.length : Int) ≤ 4) = b1
  generalize decide ((p.letters.length : Int) ≤ 60) = b2
  generalize p.letters.all (okLe p.hubs.length) = b3
  cases b1 <;> cases b2 <;> cases b3 <;> rfl
 ·
  have hall : p.hubs.all okHb = false := by
   rw [List.all_eq_false]
   rw [dif_pos hi] at hb
   exact ⟨_, Wm hi, by rw [hb]; simp⟩
  rw [ha]
  unfold Ys0
  rw [hall]
  simp


end Go.Proofs.YtnoknphekhclcaaGreat
namespace Go.Proofs.YtnoknphekhclcaaGreat
open Go Go.Abs

structure Ys7 (h : Yag) (r : Int) (k : Nat) : Prop where
 lt : k < h.rooms.length
 wrap : IntKind.i64.wrap (r - 1) = (k : Int)
 rm : ∀ hk : k < h.rooms.length, rmG h r = h.rooms[k]
 mem : rmG h r ∈ h.rooms
 room : (rmG h r).room = r
 right : Ynl (rmG h r)
 hist : getI (sOf h).rooms (k : Int) = some (hiG (rmG h r))
 gr : getI (wOf h).h.rooms (k : Int) = some (rmG h r)
 kn : getI (wOf h).rooms (k : Int) = some (knG (rmG h r))
 pos : getI (wOf h).pos (k : Int) = some (posG (prs h.stream) (rmG h r))
 now : getI (wOf h).now (k : Int) = some (nowG (rmG h r))
 both : Both (rmG h r) (hiG (rmG h r)) (knG (rmG h r))
 graph : (hiG (rmG h r)).graph = rmG h r
theorem Yq8.room {h : Yag} (u : Yq8 h) {r : Int} (hr : 1 ≤ r ∧ r ≤ 3) : ∃ k, Ys7 h r k := by
 obtain ⟨k, hk, k1, k2, k3⟩ := Ypx u.three hr
 have hg : Ynl (rmG h r) := by rw [k3]; exact u.rooms.right _ (Wm hk)
 have hb := (Yp4 hg).2.2
 refine ⟨k, hk, k2, fun _ => k3, by rw [k3]; exact Wm hk, by rw [k3, (u.rooms k hk).2]; exact k1.symm, hg, ?_, ?_, ?_, ?_, ?_, hb, hb.graph⟩
 ·
  rw [k3]; exact Yop hiG hk
 ·
  rw [k3]; exact Yhg hk
 ·
  rw [k3]; exact Yop knG hk
 ·
  rw [k3]; exact Yop _ hk
 ·
  rw [k3]; exact Yop nowG hk

end Go.Proofs.YtnoknphekhclcaaGreat
namespace Go.Proofs.YtnoknphekhclcaaGreat
open Go Go.Abs


theorem Ys8 (l : List Int) : (Y7f l).data.toList = l.map fun n => UInt8.ofNat n.toNat := by
 have key : ∀ (l : List Int) (r : ByteArray), (l.foldl (fun r n => r.push (UInt8.ofNat n.toNat)) r).data.toList = r.data.toList ++ l.map fun n => UInt8.ofNat n.toNat := by
  intro l
  induction l with
  | nil => intro r; simp
  | cons n l ih =>
   intro r
   rw [List.foldl_cons, ih]
   simp [ByteArray.push]
 unfold Y7f
 rw [key]
 rfl
def Byt (l : List Int) : Prop := ∀ n ∈ l, 0 ≤ n ∧ n ≤ 255
theorem Ys9 {l : List Int} (h : Byt l) : Y9v (Y7f l) = l := by
 unfold Y9v
 rw [Ys8, List.map_map]
 refine (List.map_congr_left fun n hn => ?_).trans (List.map_id l)
 have := h n hn
 simp only [Function.comp, id]
 rw [UInt8.toNat_ofNat']
 omega
theorem Ysa (l : List Int) : (Y7f l).size = l.length := by
 have h := congrArg List.length (Ys8 l)
 rw [Array.length_toList, List.length_map] at h
 exact h
theorem Ysb (a b : ByteArray) : Y9v (a ++ b) = Y9v a ++ Y9v b := by
 unfold Y9v
 rw [ByteArray.data_append, Array.toList_append, List.map_append]


def numF : Nat → Nat → List Int
 | 0, u => [(u : Int)]
 | k + 1, u => if u < 128 then [(u : Int)] else ((u % 128 + 128 : Nat) : Int) :: numF k (u / 128)
def numZ (n : Int) : List Int := numF 9 (2 * n.toNat)
theorem Ysc : ∀ k u, 1 ≤ (numF k u).length ∧ (numF k u).length ≤ k + 1
 | 0, _ => by simp [numF]
 | k + 1, u => by
  have := Ysc k (u / 128)
  unfold numF
  split
  ·
   simp
  ·
   simp; omega
theorem Ysd : ∀ k u, u < 128 ^ (k + 1) → Byt (numF k u)
 | 0, u, h => fun n hn => by
  simp [numF] at hn
  omega
 | k + 1, u, h => fun n hn => by
  unfold numF at hn
  split at hn
  ·
   simp at hn; omega
  ·
   rcases List.mem_cons.1 hn with rfl | hn
   ·
    omega
   ·
    refine Ysd k (u / 128) ?_ n hn
    rw [Nat.pow_succ] at h
    exact Nat.div_lt_of_lt_mul (by rw [Nat.mul_comm]; exact h)
theorem Yse (n : Int) : 1 ≤ (numZ n).length ∧ (numZ n).length ≤ 10 := Ysc 9 _
theorem Ysf {n : Int} (h : n ≤ 4611686018427387903) : Byt (numZ n) := Ysd 9 _ (by omega)

theorem u64w {n : Nat} (h : n < 18446744073709551616) : IntKind.u64.wrap (n : Int) = n := by
 show (n : Int) % 18446744073709551616 = n
 omega
theorem u8w (n : Nat) : IntKind.u8.wrap (n : Int) = ((n % 256 : Nat) : Int) := by
 show (n : Int) % 256 = _
 omega
theorem Ysg (u : Nat) : Y4b .u8 (IntKind.u8.wrap (u : Int)) 128 = ((u % 128 + 128 : Nat) : Int) := by
 rw [u8w]
 have key : ∀ x : Fin 256, Y4b .u8 ((x.val : Nat) : Int) 128 = ((x.val % 128 + 128 : Nat) : Int) := by decide +kernel
 have := key ⟨u % 256, by omega⟩
 simp only at this
 rw [this]
 omega

theorem Ysh {step : Int × List Int → Option ((Int × List Int) ⊕ (Int × List Int))} (h1 : ∀ (u : Nat) (l : List Int), l.length ≤ 20 → 128 ≤ u → u < 18446744073709551616 → step ((u : Int), l) = some (.inl (((u / 128 : Nat) : Int), l ++ [((u % 128 + 128 : Nat) : Int)])))
  (h2 : ∀ (u : Nat) (l : List Int), u < 128 → step ((u : Int), l) = some (.inr ((u : Int), l))) {u : Nat} (hu : u < 18446744073709551616) :
  ∃ (v : Nat) (r : List Int), v < 128 ∧ r.length ≤ 9 ∧ iter step big ((u : Int), []) = some ((v : Int), r) ∧ r ++ [(v : Int)] = numF 9 u := by
 obtain ⟨⟨o1, o2⟩, e1, v, h3, h4, h5, h6⟩ := Y51 (step := step) (p := fun o : Int × List Int => ∃ v : Nat, o.1 = (v : Int) ∧ v < 128 ∧ o.2.length ≤ 9 ∧ o.2 ++ [(v : Int)] = numF 9 u)
  (fun k (z : Int × List Int) => ∃ v : Nat, z.1 = (v : Int) ∧ v < 18446744073709551616 ∧ v < 128 ^ (k + 1) ∧ k ≤ 9 ∧ z.2.length + k = 9 ∧ z.2 ++ numF k v = numF 9 u) (by
  rintro k ⟨x, l⟩ ⟨v, rfl, h3, h4, h5, h6, h7⟩
  simp only at h6 h7
  by_cases hv : v < 128
  ·
   left
   refine ⟨_, h2 v l hv, v, rfl, hv, by simp only; omega, ?_⟩
   rw [← h7]
   cases k with
   | zero => rfl
   | succ k => simp [numF, hv]
  ·
   right
   cases k with
   | zero => simp at h4; omega
   | succ k =>
    refine ⟨_, k, h1 v l (by omega) (by omega) h3, by omega, v / 128, rfl, by omega, ?_, by omega, by simp; omega, ?_⟩
    ·
     rw [Nat.pow_succ] at h4
     exact Nat.div_lt_of_lt_mul (by rw [Nat.mul_comm]; exact h4)
    ·
     rw [← h7]
     simp [numF, hv]) big 9 ((u : Int), []) ⟨u, rfl, hu, by omega, by omega, by simp, by simp⟩ (Yhb (by omega))
 simp only at h3 h5 h6
 subst h3
 exact ⟨v, o2, h4, h5, e1, h6⟩

theorem Ysi {n : Int} (h0 : 0 ≤ n) (hn : n ≤ 4611686018427387903) : Zj5 n = some (numZ n) := by
 obtain ⟨m, rfl⟩ := Int.eq_ofNat_of_zero_le h0
 have hm : m ≤ 4611686018427387903 := by omega
 unfold Zj5
 have e1 : shlI .u64 (IntKind.u64.wrap (m : Int)) 1 = ((2 * m : Nat) : Int) := by
  rw [u64w (by omega)]
  show IntKind.u64.wrap ((m : Int) * 2 ^ (min (1 : Int).toNat 64)) = _
  rw [show (m : Int) * 2 ^ (min (1 : Int).toNat 64) = ((2 * m : Nat) : Int) by
   rw [show min (1 : Int).toNat 64 = 1 from rfl]; omega, u64w (by omega)]
 have e2 : IntKind.u64.wrap (shrI .i64 (m : Int) 63) = ((0 : Nat) : Int) := by
  show IntKind.u64.wrap ((m : Int).fdiv (2 ^ (min (63 : Int).toNat 64))) = _
  rw [show (m : Int).fdiv (2 ^ (min (63 : Int).toNat 64)) = ((0 : Nat) : Int) by
   rw [show min (63 : Int).toNat 64 = 63 from rfl, Int.fdiv_eq_ediv_of_nonneg _ (by omega)]; omega, u64w (by omega)]
 have e3 : Y4c .u64 ((2 * m : Nat) : Int) ((0 : Nat) : Int) = ((2 * m : Nat) : Int) := by
  show IntKind.u64.wrap ((BitVec.ofInt 64 ((2 * m : Nat) : Int) ^^^ BitVec.ofInt 64 ((0 : Nat) : Int)).toNat : Int) = _
  rw [BitVec.ofInt_natCast, BitVec.ofInt_natCast, show (BitVec.ofNat 64 0) = 0#64 from rfl, BitVec.xor_zero, BitVec.toNat_ofNat, Nat.mod_eq_of_lt (by omega), u64w (by omega)]
 rw [e1, e2, e3]
 obtain ⟨v, r, h1, h2, h3, h4⟩ := Ysh (step := fun z23 : Int × List Int => Zj4 z23.1 z23.2) (fun u l hl h1 h2 => by
  simp only [Zj4]
  rw [Wt (by omega : (u : Int) > 127), Wu, Ysg, Y4z (Wt (by simp; omega)), Wb, show shrI .u64 (u : Int) 7 = ((u / 128 : Nat) : Int) by
   show (u : Int).fdiv (2 ^ (min (7 : Int).toNat 64)) = _
   rw [show min (7 : Int).toNat 64 = 7 from rfl, Int.fdiv_eq_ediv_of_nonneg _ (by omega)]; omega]) (fun u l h => by
  simp only [Zj4]
  rw [Wf (by omega : ¬ (u : Int) > 127), Wv]) (u := 2 * m) (by omega)
 rw [h3, Wb]
 simp only [Zj3]
 rw [Y4z (Wt (by simp; omega)), Wb, u8w, Nat.mod_eq_of_lt (by omega), h4]
 rfl

theorem Ysj {n : Int} (h0 : 0 ≤ n) (hn : n ≤ 4611686018427387903) : Z97 n = some (Y7f (numZ n)) := by
 obtain ⟨m, rfl⟩ := Int.eq_ofNat_of_zero_le h0
 have hm : m ≤ 4611686018427387903 := by omega
 unfold Z97 Z93
 rw [Wf (by omega : ¬ (m : Int) < 0), Wv, Wb, u64w (by omega), show (2 : Int) * (m : Int) = ((2 * m : Nat) : Int) by omega, u64w (by omega)]
 obtain ⟨v, r, h1, h2, h3, h4⟩ := Ysh (step := fun z24 : Int × List Int => Z96 z24.1 z24.2) (fun u l hl h1 h2 => by
  simp only [Z96]
  have e1 : Int.tmod (u : Int) 128 = ((u % 128 : Nat) : Int) := by rw [Int.tmod_eq_emod_of_nonneg (by omega)]; omega
  have e2 : Int.tdiv (u : Int) 128 = ((u / 128 : Nat) : Int) := by rw [Int.tdiv_eq_ediv_of_nonneg (by omega)]; omega
  rw [Wt (by omega : (u : Int) ≥ 128), Wu, e1, e2, show ((u % 128 : Nat) : Int) + 128 = ((u % 128 + 128 : Nat) : Int) by omega, u64w (by omega), u64w (by omega), u8w, Nat.mod_eq_of_lt (by omega : u % 128 + 128 < 256), Y4z (Wt (by simp; omega)), Wb]) (fun u l h => by
  simp only [Z96]
  rw [Wf (by omega : ¬ (u : Int) ≥ 128), Wv]) (u := 2 * m) (by omega)
 rw [h3, Wb]
 simp only [Z95]
 rw [Y4z (Wt (by simp; omega)), Wb, u8w, Nat.mod_eq_of_lt (by omega), h4]
 rfl
end Go.Proofs.YtnoknphekhclcaaGreat
namespace Go.Proofs.YtnoknphekhclcaaGreat
open Go Go.Abs


def Ysk (q : List Yam) (x : Int) : List Yam :=
 if h : 0 < q.length then (if IntKind.i64.wrap ((q[q.length - 1]).to_ + 1) = x then q.set (q.length - 1) ⟨(q[q.length - 1]).from_, x⟩ else q ++ [⟨x, x⟩]) else q ++ [⟨x, x⟩]
theorem Ysl (q : List Yam) (x : Int) : (Ysk q x).length ≤ q.length + 1 := by
 unfold Ysk
 split
 ·
  split <;> simp
 ·
  simp
theorem Ysm : ∀ (l : List Int) (q : List Yam), (l.foldl Ysk q).length ≤ q.length + l.length
 | [], q => by simp
 | x :: l, q => by
  rw [List.foldl_cons]
  have h1 := Ysm l (Ysk q x)
  have h2 := Ysl q x
  rw [List.length_cons]; omega

theorem Ysn (l : List Int) (hl : l.length ≤ 100000) : Z8q l = some (l.foldl Ysk []) := by
 unfold Z8q
 have := Yhx (l := l) (step := fun z : List Yam × Int => Z8p l z.1 z.2) (fun q j => (q, j)) (fun q => q) Ysk (fun i q => q.length ≤ i) (by omega) (fun i q hi hq => by
  refine ⟨?_, Nat.le_trans (Ysl _ _) (by omega)⟩
  simp only [Z8p, Z8o, Z8n]
  have hw := Yhh hi (by omega)
  unfold Ysk
  by_cases h : 0 < q.length
  ·
   have hg : getI q ((q.length - 1 : Nat) : Int) = some q[q.length - 1] := Yhg (by omega)
   rw [dlt hi, Wu, Wt (by omega : (q.length : Int) > 0), Wu, Yhi h (by omega), hg, Wb, Yhg hi, Wb, beqd, dif_pos h]
   by_cases he : IntKind.i64.wrap ((q[q.length - 1]).to_ + 1) = l[i]
   ·
    rw [Wt he, if_pos he, Wu, Wb, Wb, Int.toNat_natCast, hw]
   ·
    rw [Wf he, if_neg he, Wv, Wb, Y4z (Wt (by simp; omega)), Wb, hw]
  ·
   rw [dlt hi, Wu, Wf (by omega : ¬ (q.length : Int) > 0), Wv, dif_neg h, Wv, Yhg hi, Wb, Y4z (Wt (by simp; omega)), Wb, hw])
  (fun q _ => by simp only [Z8p]; rw [dnlt, Wv]) (s := []) (by simp)
 rw [this.1]; rfl

theorem Yso (l : List Int) (hl : l.length ≤ 100000) : Zir l = some (l.foldl Ysk []) := by
 unfold Zir
 have := Yhx (l := l) (step := fun z : List Yam × Int => Ziq l z.1 z.2) (fun q j => (q, j)) (fun q => q) Ysk (fun i q => q.length ≤ i) (by omega) (fun i q hi hq => by
  refine ⟨?_, Nat.le_trans (Ysl _ _) (by omega)⟩
  simp only [Ziq, Zip, Zio]
  have hw := Yhh hi (by omega)
  unfold Ysk
  rw [dlt hi, Wu, Yhg hi, Wb]
  by_cases h : 0 < q.length
  ·
   have hg : getI q ((q.length - 1 : Nat) : Int) = some q[q.length - 1] := Yhg (by omega)
   rw [Yhi h (by omega), Wt (by omega : ((q.length - 1 : Nat) : Int) ≥ 0), Wu, hg, Wb, beqd, dif_pos h]
   by_cases he : IntKind.i64.wrap ((q[q.length - 1]).to_ + 1) = l[i]
   ·
    rw [Wt he, if_pos he, Wu, Wb, Int.toNat_natCast, hw]
   ·
    rw [Wf he, if_neg he, Wv, Y4z (Wt (by simp; omega)), Wb, hw]
  ·
   rw [Y4y (by omega) (by omega), Wf (by omega : ¬ (q.length : Int) - 1 ≥ 0), Wv, dif_neg h, Wv, Y4z (Wt (by simp; omega)), Wb, hw])
  (fun q _ => by simp only [Ziq]; rw [dnlt, Wv]) (s := []) (by simp)
 rw [this.1]; rfl


theorem Ysp : ∀ (l q : List Int), UpI q → UpI (l.foldl setI q)
 | [], _, h => h
 | x :: l, q, h => by rw [List.foldl_cons]; exact Ysp l _ (Ylr h)
theorem Ysq : ∀ (l q : List Int) (x : Int), x ∈ l.foldl setI q ↔ x ∈ q ∨ x ∈ l
 | [], q, x => by simp
 | y :: l, q, x => by
  rw [List.foldl_cons, Ysq l, Ylq, List.mem_cons, or_assoc]
theorem Ysr : ∀ (l q : List Int), (l.foldl setI q).length ≤ q.length + l.length
 | [], q => by simp
 | x :: l, q => by
  rw [List.foldl_cons]
  have h1 := Ysr l (setI q x)
  have h2 := @Yls x q
  rw [List.length_cons]; omega

def idsG (g : Yaf) : List Int := (g.events.map (·.id) ++ g.parked.map (·.id)).foldl setI []
def Yss (g : Yaf) : List Yam := (idsG g).foldl Ysk []
theorem Yst {g : Yaf} (k : GOk g) : (idsG g).length ≤ 80 := by
 have h1 := Ysr (g.events.map (·.id) ++ g.parked.map (·.id)) []
 have h2 := k.fits.len
 have h3 := k.plen
 simp only [List.length_append, List.length_map, List.length_nil] at h1
 unfold idsG; omega

theorem Ysu {g : Yaf} (k : GOk g) : Z8w g = some (Yss g) := by
 have hel := k.fits.len
 have hpl := k.plen
 unfold Z8w
 have h1 := Yhx (l := g.events) (step := fun z : List Int × Int => Z8v g z.1 z.2) (fun q j => (q, j)) (fun q => q) (fun q e => setI q e.id) (fun i q => UpI q ∧ q.length ≤ i) (by omega) (fun i q hi hq => by
  refine ⟨?_, Ylr hq.1, Nat.le_trans Yls (by omega)⟩
  simp only [Z8v]
  rw [dlt hi, Wu, Yhg hi, Wb, Ylp hq.1 _ (by omega), Wb, Yhh hi (by omega)])
  (fun q _ => by simp only [Z8v]; rw [dnlt, Wv]) (s := []) ⟨.nil, by simp⟩
 rw [h1.1, Wb]
 simp only [Z8u]
 have hq := h1.2
 have h2 := Yhx (l := g.parked) (step := fun z : List Int × Int => Z8t g z.1 z.2) (fun q j => (q, j)) (fun q => q) (fun q e => setI q e.id) (fun i q => UpI q ∧ q.length ≤ 60 + i) (by omega) (fun i q hi hq => by
  refine ⟨?_, Ylr hq.1, Nat.le_trans Yls (by omega)⟩
  simp only [Z8t]
  rw [dlt hi, Wu, Yhg hi, Wb, Ylp hq.1 _ (by omega), Wb, Yhh hi (by omega)])
  (fun q _ => by simp only [Z8t]; rw [dnlt, Wv]) (s := g.events.foldl (fun q e => setI q e.id) []) ⟨hq.1, by have := hq.2; omega⟩
 rw [h2.1, Wb]
 simp only [Z8s]
 have e : g.parked.foldl (fun q e => setI q e.id) (g.events.foldl (fun q e => setI q e.id) []) = idsG g := by
  unfold idsG
  rw [List.foldl_append, List.foldl_map, List.foldl_map]
 rw [e, Ysn _ (by have := Yst k; omega)]; rfl

theorem Ysv {g : Yaf} (k : GOk g) : Ziv g = some (Yss g) := by
 have hel := k.fits.len
 have hpl := k.plen
 unfold Ziv
 rw [evsc g.events (by omega) (fun e he => by have := (k.ev e he).1.prev.1; omega), Wb, Y4z (Wt (by omega)), Wb]
 have h1 := Yrw (l := g.events ++ g.parked) (step := fun z : List Int × Int => Ziu g g.events z.1 z.2) (fun e : Yaa => e.id) (fun q j => (q, j)) (fun q => q) (by simp; omega) (fun i q hi hq => by
  simp only [Ziu]
  rw [dlt hi, Wu, Yhg hi, Wb, chk8 (by simp at hi ⊢; omega), Wb, Yhh hi (by simp; omega)])
  (fun q => by simp only [Ziu]; rw [dnlt, Wv])
 rw [h1, Wb]
 simp only [Zit]
 have hu : UpI (idsG g) := Ysp _ _ .nil
 have hn : ((g.events ++ g.parked).map fun e => e.id).Nodup := by
  rw [List.map_append, List.nodup_append]
  refine ⟨?_, ?_, fun x hx y hy e => ?_⟩
  ·
   rw [List.nodup_iff_pairwise_ne, List.pairwise_map]; exact k.fits.up.imp fun h => by omega
  ·
   rw [List.nodup_iff_pairwise_ne, List.pairwise_map]; exact k.pup.imp fun h => by omega
  ·
   subst e
   obtain ⟨f, hf, rfl⟩ := List.mem_map.1 hx
   obtain ⟨f', hf', he⟩ := List.mem_map.1 hy
   have := k.apart f hf
   rw [Yij.2 ⟨f', hf', he⟩] at this; cases this
 rw [Yoh hu hn (fun x => by
  unfold idsG
  rw [Ysq, List.map_append]; simp) (by have := Yst k; omega), Wb, Yso _ (by have := Yst k; omega)]
 rfl


def spX (l : List Yam) (i : Nat) : Bool := if h : i < l.length then decide (1 ≤ (l[i]).from_ ∧ (l[i]).from_ ≤ 1000000) && (decide ((l[i]).from_ ≤ (l[i]).to_ ∧ (l[i]).to_ ≤ 1000000) && (decide (i = 0) || !decide ((l[i]).from_ < IntKind.i64.wrap ((l[i - 1]'(by omega)).to_ + 2)))) else true
def spB (l : List Yam) : Bool := decide (l.length ≤ 400) && (List.range l.length).all (spX l)
theorem Ysw {l : List Yam} : spB l = true ↔ l.length ≤ 400 ∧ ∀ i, i < l.length → spX l i = true := by
 unfold spB
 rw [Bool.and_eq_true_iff, decide_eq_true_iff, List.all_eq_true]
 simp

theorem Ysx (l : List Yam) (hl : l.length ≤ 100000) : Z91 l = some (spB l) := by
 unfold Z91
 by_cases h4 : (l.length : Int) > 400
 ·
  rw [Wt h4, Wu]
  have : spB l = false := by unfold spB; rw [Wf (by omega)]; rfl
  rw [this]
 ·
  rw [Wf h4, Wv, Yhd (n := l.length) (step := Z90 l) (spX l) (.inl false) (.inr ()) (by omega) (fun i hi => by
   have hw := Yhh hi (by omega)
   simp only [Z90, Z8z]
   rw [dlt hi, Wu, Yhg hi, Wb, Yhl, Wb, Yhk, Wb, hw]
   unfold spX
   rw [dif_pos hi]
   by_cases h0 : i = 0
   ·
    subst h0
    cases decide (1 ≤ (l[0]).from_ ∧ (l[0]).from_ ≤ 1000000) <;> cases decide ((l[0]).from_ ≤ (l[0]).to_ ∧ (l[0]).to_ ≤ 1000000) <;> rfl
   ·
    have hg : getI l ((i - 1 : Nat) : Int) = some l[i - 1] := Yhg (by omega)
    rw [Wt (by omega : (i : Int) > 0), Yhi (by omega) (by omega), hg, Wf h0, Wb]
    cases decide (1 ≤ (l[i]).from_ ∧ (l[i]).from_ ≤ 1000000) <;> cases decide ((l[i]).from_ ≤ (l[i]).to_ ∧ (l[i]).to_ ≤ 1000000) <;> cases decide ((l[i]).from_ < IntKind.i64.wrap ((l[i - 1]).to_ + 2)) <;> rfl) (by simp only [Z90]; rw [dnlt, Wv])]
  by_cases hs : ∀ i, i < l.length → spX l i = true
  ·
   rw [if_pos hs, (Ysw (l := l)).2 ⟨by omega, hs⟩]; rfl
  ·
   rw [if_neg hs]
   have : spB l = false := Bool.eq_false_iff.2 fun h => hs (Ysw.1 h).2
   rw [this]; rfl

theorem Ysy (l : List Yam) (hl : l.length ≤ 100000) : Zj1 l = some (spB l) := by
 unfold Zj1
 rw [Yhd (n := l.length) (step := Zj0 l) (spX l) (.inl false) (.inr ()) (by omega) (fun i hi => by
  have hw := Yhh hi (by omega)
  simp only [Zj0, Ziz, Z9q]
  rw [dlt hi, Wu, Yhg hi, Wb, c_in, Wb, c_in, Wb, Wb, hw]
  unfold spX
  rw [dif_pos hi]
  by_cases h0 : i = 0
  ·
   subst h0
   cases decide (1 ≤ (l[0]).from_ ∧ (l[0]).from_ ≤ 1000000) <;> cases decide ((l[0]).from_ ≤ (l[0]).to_ ∧ (l[0]).to_ ≤ 1000000) <;> rfl
  ·
   have hg : getI l ((i - 1 : Nat) : Int) = some l[i - 1] := Yhg (by omega)
   rw [Wt (by omega : (i : Int) > 0), Yhi (by omega) (by omega), hg, Wf h0, Wb]
   cases decide (1 ≤ (l[i]).from_ ∧ (l[i]).from_ ≤ 1000000) <;> cases decide ((l[i]).from_ ≤ (l[i]).to_ ∧ (l[i]).to_ ≤ 1000000) <;> cases decide ((l[i]).from_ < IntKind.i64.wrap ((l[i - 1]).to_ + 2)) <;> rfl) (by simp only [Zj0]; rw [dnlt, Wv])]
 by_cases hs : ∀ i, i < l.length → spX l i = true
 ·
  rw [if_pos hs, Wb]
  simp only [Ziy]
  congr 1
  by_cases h4 : l.length ≤ 400
  ·
   rw [Wt (by omega), (Ysw (l := l)).2 ⟨h4, hs⟩]
  ·
   have : spB l = false := Bool.eq_false_iff.2 fun h => h4 (Ysw.1 h).1
   rw [this, Wf (by omega)]
 ·
  rw [if_neg hs]
  have : spB l = false := Bool.eq_false_iff.2 fun h => hs (Ysw.1 h).2
  rw [this]; rfl


def Ysz (s : List Int × Int) (x : Yam) : List Int × Int := (s.1 ++ numZ (x.from_ - s.2) ++ numZ (x.to_ - x.from_), x.to_)
def Yt0 (l : List Yam) (i : Nat) : Int := if h : 0 < i ∧ i ≤ l.length then (l[i - 1]'(by omega)).to_ else 0
def Yt1 (l : List Yam) : ByteArray := cond (spB l) (cond (decide ((((l.foldl Ysz (numZ l.length, 0)).1.length : Nat) : Int) > 8000)) ByteArray.empty (Y7f (l.foldl Ysz (numZ l.length, 0)).1)) ByteArray.empty

theorem Yt2 {l : List Yam} (h : spB l = true) {i : Nat} (hi : i < l.length) : 0 ≤ (l[i]).from_ - Yt0 l i ∧ (l[i]).from_ - Yt0 l i ≤ 1000000 ∧ 0 ≤ (l[i]).to_ - (l[i]).from_ ∧ (l[i]).to_ - (l[i]).from_ ≤ 1000000 := by
 have hx := (Ysw.1 h).2 i hi
 unfold spX at hx
 rw [dif_pos hi] at hx
 simp only [Bool.and_eq_true, Bool.or_eq_true, Bool.not_eq_true', decide_eq_true_eq, decide_eq_false_iff_not] at hx
 obtain ⟨h1, h2, h3⟩ := hx
 unfold Yt0
 by_cases h0 : 0 < i
 ·
  have hp := (Ysw.1 h).2 (i - 1) (by omega)
  unfold spX at hp
  rw [dif_pos (by omega)] at hp
  simp only [Bool.and_eq_true, decide_eq_true_eq] at hp
  obtain ⟨p1, p2, _⟩ := hp
  rw [dif_pos ⟨h0, by omega⟩]
  rcases h3 with h3 | h3
  ·
   omega
  ·
   rw [Y4y (by omega) (by omega)] at h3
   omega
 ·
  rw [dif_neg (by omega)]
  omega
theorem Yt3 {l : List Yam} {i : Nat} (hi : i < l.length) : Yt0 l (i + 1) = (l[i]).to_ := by
 unfold Yt0
 rw [dif_pos ⟨by omega, by omega⟩]; rfl

theorem Yt4 (l : List Yam) (hl : l.length ≤ 100000) : Z9b l = some (Yt1 l) := by
 unfold Z9b Yt1
 rw [Ysx l hl, Wb]
 cases hb : spB l with
 | false => rfl
 | true =>
  have h4 := (Ysw.1 hb).1
  have hn := Yse (l.length : Int)
  rw [Wu, Ysj (by omega) (by omega), Wb, Ysa, Y4z (Wt (by omega)), Wb, Ys9 (Ysf (by omega))]
  have := Yhx (l := l) (step := fun z : List Int × Int × Int => Z9a l z.1 z.2.1 z.2.2) (fun (s : List Int × Int) j => (s.1, s.2, j)) (fun s => s.1) Ysz (fun i s => s.2 = Yt0 l i ∧ s.1.length ≤ 10 + 20 * i) (by omega) (fun i s hi hs => by
   obtain ⟨q, x⟩ := s
   obtain ⟨rfl, hq⟩ := hs
   simp only at hq
   obtain ⟨a1, a2, a3, a4⟩ := Yt2 hb hi
   have b1 := Yse ((l[i]).from_ - Yt0 l i)
   have b2 := Yse ((l[i]).to_ - (l[i]).from_)
   refine ⟨?_, (Yt3 hi).symm, by simp only [Ysz, List.length_append]; omega⟩
   simp only [Z9a]
   rw [dlt hi, Wu, Yhg hi, Wb, Y4y (by omega) (by omega), Y4y (n := (l[i]).to_ - (l[i]).from_) (by omega) (by omega), Ysj a1 (by omega), Wb, Ysj a3 (by omega), Wb, Ysa, Ysa, Y4z (Wt (by omega)), Wb, Ysb, Ys9 (Ysf (by omega)), Ys9 (Ysf (by omega)), ByteArray.size_append, Ysa, Ysa, Y4z (Wt (by omega)), Wb, Yhh hi (by omega)]
   simp only [Ysz, List.append_assoc])
   (fun s _ => by simp only [Z9a]; rw [dnlt, Wv]) (s := (numZ l.length, 0)) ⟨by unfold Yt0; rw [dif_neg (by omega)], by simp only; omega⟩
  have e := this.1
  simp only at e
  rw [e, Wb]
  simp only [Z99]
  cases decide ((((l.foldl Ysz (numZ l.length, 0)).1.length : Nat) : Int) > 8000) <;> rfl

theorem Yt5 (l : List Yam) (hl : l.length ≤ 100000) : Zj9 l = some (Yt1 l) := by
 unfold Zj9 Yt1
 rw [Ysy l hl, Wb]
 cases hb : spB l with
 | false => rfl
 | true =>
  have h4 := (Ysw.1 hb).1
  have hn := Yse (l.length : Int)
  rw [Wu, Ysi (by omega) (by omega), Wb]
  have := Yhx (l := l) (step := fun z : List Int × Int × Int => Zj8 l z.1 z.2.1 z.2.2) (fun (s : List Int × Int) j => (s.1, s.2, j)) (fun s => s.1) Ysz (fun i s => s.2 = Yt0 l i ∧ s.1.length ≤ 10 + 20 * i) (by omega) (fun i s hi hs => by
   obtain ⟨q, x⟩ := s
   obtain ⟨rfl, hq⟩ := hs
   simp only at hq
   obtain ⟨a1, a2, a3, a4⟩ := Yt2 hb hi
   have b1 := Yse ((l[i]).from_ - Yt0 l i)
   have b2 := Yse ((l[i]).to_ - (l[i]).from_)
   refine ⟨?_, (Yt3 hi).symm, by simp only [Ysz, List.length_append]; omega⟩
   simp only [Zj8]
   rw [dlt hi, Wu, Yhg hi, Wb, Y4y (by omega) (by omega), Y4y (n := (l[i]).to_ - (l[i]).from_) (by omega) (by omega), Ysi a1 (by omega), Wb, Y4z (Wt (by omega)), Wb, Ysi a3 (by omega), Wb, Y4z (Wt (by simp; omega)), Wb, Yhh hi (by omega)]
   rfl)
   (fun s _ => by simp only [Zj8]; rw [dnlt, Wv]) (s := (numZ l.length, 0)) ⟨by unfold Yt0; rw [dif_neg (by omega)], by simp only; omega⟩
  have e := this.1
  simp only at e
  rw [e, Wb]
  simp only [Zj7]
  cases decide ((((l.foldl Ysz (numZ l.length, 0)).1.length : Nat) : Int) > 8000) <;> rfl
end Go.Proofs.YtnoknphekhclcaaGreat
namespace Go.Proofs.YtnoknphekhclcaaGreat
open Go Go.Abs

theorem Yt6 {h : Yag} (hf : Ypk h) (k : okHb h = true) : Yq8 h := by
 obtain ⟨b, b1, b2, _⟩ := Yqa hf
 refine b1 ?_
 unfold okHb at k
 rw [b2] at k
 cases b with
 | true => rfl
 | false => cases k

theorem Yt7 {p : Yah} (hp : Yrx p) (h : Ys0 p = true) : p.hubs.length ≤ 4 ∧ p.letters.length ≤ 60 ∧ ∀ x ∈ p.hubs, Yq8 x := by
 unfold Ys0 at h
 simp only [Bool.and_eq_true, decide_eq_true_eq, List.all_eq_true] at h
 obtain ⟨⟨⟨h1, h2⟩, h3⟩, _⟩ := h
 exact ⟨by omega, by omega, fun x hx => Yt6 (hp.hf x hx) (h3 x hx)⟩

theorem Yt8 {h : Yag} {r : Int} {k : Nat} (q : Ys7 h r k) : Zjb (sOf h) r = some (hiG (rmG h r)) := by
 unfold Zjb
 rw [q.wrap, q.hist]; rfl
theorem Yt9 {h : Yag} (u : Yq8 h) {r : Int} {k : Nat} (q : Ys7 h r k) : GOk (rmG h r) := by
 have h1 := u.rooms k q.lt
 rw [q.rm q.lt]
 exact h1.1

theorem Yta {g : Yaf} (k : GOk g) : (Yss g).length ≤ 80 := by
 have h1 := Ysm (idsG g) []
 have h2 := Yst k
 simp only [List.length_nil] at h1
 unfold Yss; omega

def offL (p : Yah) (a b r : Int) : Yad := ⟨1, a, b, r, Yt1 (Yss (rmG (p.hubs.getD a.toNat ⟨[], []⟩) r))⟩

theorem Ytb {p : Yah} (hh : ∀ x ∈ p.hubs, Yq8 x) {a : Nat} (ha : a < p.hubs.length) (b : Int) {r : Int} (hr : 1 ≤ r ∧ r ≤ 3) : Z9d p a b r = some (offL p a b r) := by
 have u := hh _ (Wm ha)
 obtain ⟨k, q⟩ := u.room hr
 have hg : getI p.hubs[a].rooms (k : Int) = some (rmG p.hubs[a] r) := q.gr
 have hgo := Yt9 u q
 unfold Z9d
 rw [Yhg ha, Wb, q.wrap, hg, Wb, Ysu hgo, Wb, Yt4 _ (by have := Yta hgo; omega), Wb]
 unfold offL
 rw [Int.toNat_natCast, show p.hubs.getD a ⟨[], []⟩ = p.hubs[a] by simp [ha]]

theorem Ytc {p : Yah} (hh : ∀ x ∈ p.hubs, Yq8 x) (L : List Yad) (hL : L.length ≤ 1000) {a : Nat} (ha : a < p.hubs.length) (b : Int) {r : Int} (hr : 1 ≤ r ∧ r ≤ 3) : Zjp ⟨p.hubs.map sOf, L⟩ a b r = some ⟨p.hubs.map sOf, L ++ [offL p a b r]⟩ := by
 have u := hh _ (Wm ha)
 obtain ⟨k, q⟩ := u.room hr
 have hgo := Yt9 u q
 have hgr : (hiG (rmG p.hubs[a] r)).graph = rmG p.hubs[a] r := q.graph
 have hg : getI (p.hubs.map sOf) (a : Int) = some (sOf p.hubs[a]) := by rw [Yhg (by simpa using ha)]; simp
 unfold Zjp
 simp only
 rw [hg, Wb, Yt8 q, Wb, hgr, Ysv hgo, Wb, Yt5 _ (by have := Yta hgo; omega), Wb, Y4z (Wt (by simp; omega)), Wb]
 unfold offL
 rw [Int.toNat_natCast, show p.hubs.getD a ⟨[], []⟩ = p.hubs[a] by simp [ha]]

theorem Ytd (p : Yah) (hp : Yrx p) (a b r : Int) : ∃ o, Z9g p a b r = some o ∧ Zjw p a b r = some o ∧ (o.peers.hubs = [] ∨ o.peers.hubs = p.hubs) ∧ o.peers.letters.length ≤ 1048577 := by
 have hll := hp.ll
 have hhl := hp.hl
 unfold Z9g Zjw
 rw [Ys2 p hp, Ys6 p hp, Wb, Wb]
 cases hrt : Ys0 p with
 | false => exact ⟨_, rfl, rfl, .inl rfl, by simp⟩
 | true =>
  obtain ⟨r1, r2, r3⟩ := Yt7 hp hrt
  simp only [Wu]
  rw [Ys1 p hp, Ys1 p hp, Ys3 (by simp only [List.length_map]; omega)]
  simp only [Wb, List.length_map]
  by_cases h1 : 0 ≤ a ∧ a ≤ (p.hubs.length : Int) - 1
  rotate_left
  ·
   rw [Wf h1]; exact ⟨_, rfl, rfl, .inl rfl, by simp⟩
  rw [Wt h1]
  by_cases h2 : 0 ≤ b ∧ b ≤ (p.hubs.length : Int) - 1
  rotate_left
  ·
   rw [Wf h2]; exact ⟨_, rfl, rfl, .inl rfl, by simp⟩
  rw [Wt h2]
  simp only [Wu, Bool.true_and, beqd]
  by_cases h3 : a = b
  ·
   rw [Wt h3]; exact ⟨_, rfl, rfl, .inl rfl, by simp⟩
  rw [Wf h3]
  simp only [Bool.not_false, Z9f, Wv, Wu]
  unfold Z7w
  rw [Yhk, Yho]
  simp only [Wb]
  by_cases hr : 1 ≤ r ∧ r ≤ 3
  rotate_left
  ·
   rw [Wf hr]; exact ⟨_, rfl, rfl, .inl rfl, by simp⟩
  rw [Wt hr]
  simp only [Wu, Zjn, Wb]
  by_cases h5 : (p.letters.length : Int) ≥ 60
  ·
   rw [Wt h5]; exact ⟨_, rfl, rfl, .inl rfl, by simp⟩
  rw [Wf h5]
  obtain ⟨a', rfl⟩ : ∃ k : Nat, a = k := ⟨a.toNat, by omega⟩
  have ha : a' < p.hubs.length := by omega
  simp only [Wv]
  rw [l17c p hp, Wb, Ytb r3 ha b hr, Wb, Y4z (Wt (by simp; omega)), Wb, Ytc r3 p.letters (by omega) ha b hr, Wb, Yry _ hp.hl hp.hf, Wb]
  exact ⟨_, rfl, rfl, .inr rfl, by simp; omega⟩
end Go.Proofs.YtnoknphekhclcaaGreat
