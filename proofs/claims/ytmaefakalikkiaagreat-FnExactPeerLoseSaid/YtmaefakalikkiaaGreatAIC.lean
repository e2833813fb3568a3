/- Plain laws for the graphs: who is ahead of whom; depths rise. -/
import Derived.Test.YtmaefakalikkiaaGreatAGO
set_option autoImplicit false
set_option linter.unusedVariables false
set_option linter.unusedSimpArgs false
namespace Go.Proofs.YtmaefakalikkiaaGreat
open Go Go.Abs

inductive Bf (l : List Y9r) (a : Int) : List Int → List Int → Bool → Prop
 | nil (seen : List Int) : Bf l a seen [] false
 | hit (seen r : List Int) : Bf l a seen (a :: r) true
 | skip (seen r : List Int) (id : Int) (b : Bool) : id ≠ a → id ∈ seen → Bf l a seen r b → Bf l a seen (id :: r) b
 | more (seen r : List Int) (id : Int) (b : Bool) : id ≠ a → id ∉ seen → Bf l a (id :: seen) (r ++ (evD l id).prev) b → Bf l a seen (id :: r) b

theorem Bf.det {l : List Y9r} {a : Int} {seen todo : List Int} {b1 b2 : Bool} (h1 : Bf l a seen todo b1) (h2 : Bf l a seen todo b2) : b1 = b2 := by
 induction h1 with
 | nil => cases h2; rfl
 | hit => cases h2 <;> first | rfl | contradiction
 | skip _ _ _ _ n1 m1 _ ih =>
  cases h2 with
  | hit => exact absurd rfl n1
  | skip _ _ _ _ _ _ h => exact ih h
  | more _ _ _ _ _ m2 _ => exact absurd m1 m2
 | more _ _ _ _ n1 m1 _ ih =>
  cases h2 with
  | hit => exact absurd rfl n1
  | skip _ _ _ _ _ m2 _ => exact absurd m2 m1
  | more _ _ _ _ _ _ h => exact ih h

def Yly (l : List Y9r) (seen : List Int) : Nat := l.countP fun e => !decide (e.id ∈ seen)
theorem Ylz {l : List Y9r} {seen : List Int} {id : Int} (hi : id ∈ l.map (·.id)) (hn : id ∉ seen) : Yly l (id :: seen) < Yly l seen := by
 have key : ∀ l : List Y9r, Yly l (id :: seen) ≤ Yly l seen ∧ (id ∈ l.map (·.id) → Yly l (id :: seen) < Yly l seen) := by
  intro l
  unfold Yly
  induction l with
  | nil => simp
  | cons e l ih =>
   obtain ⟨i1, i2⟩ := ih
   by_cases he : e.id = id
   ·
    rw [List.countP_cons_of_neg (by simp [he]), List.countP_cons_of_pos (by simp [he, hn])]
    exact ⟨by omega, fun _ => by omega⟩
   ·
    by_cases hs : e.id ∈ seen
    ·
     rw [List.countP_cons_of_neg (by simp [hs]), List.countP_cons_of_neg (by simp [hs])]
     refine ⟨i1, fun h => i2 ?_⟩
     simp only [List.map_cons, List.mem_cons] at h
     exact h.resolve_left fun h => he h.symm
    ·
     rw [List.countP_cons_of_pos (by simp [hs, he]), List.countP_cons_of_pos (by simp [hs])]
     refine ⟨by omega, fun h => ?_⟩
     simp only [List.map_cons, List.mem_cons] at h
     have := i2 (h.resolve_left fun h => he h.symm)
     omega
 exact (key l).2 hi
theorem Ym0 (l : List Y9r) (seen : List Int) : Yly l seen ≤ l.length := List.countP_le_length

structure Walk (g : Y9w) : Prop where
 fits : Fits g.events
 ev : ∀ e ∈ g.events, EvOk e

theorem Walk.prev {g : Y9w} (h : Walk g) {id : Int} (hi : id ∈ g.events.map (·.id)) : (evD g.events id).prev.length ≤ 4 ∧ ∀ p ∈ (evD g.events id).prev, p ∈ g.events.map (·.id) := by
 obtain ⟨_, h2, _⟩ := Ylr hi h.fits.up
 refine ⟨(h.ev _ h2).prev.1, fun p hp => ?_⟩
 obtain ⟨e, he, hid⟩ := Yhn.1 (h.fits.whole _ h2 p hp)
 exact List.mem_map.2 ⟨e, he, hid⟩

theorem Ym1 {l : List Y9r} {id : Int} : hasE l id = true ↔ id ∈ l.map (·.id) := by rw [Yhn, List.mem_map]

theorem Zlj {g : Y9w} (h : Walk g) (a : Int) {e : Y9r} (he : e ∈ g.events) : ∃ b, Zft g a e = some b ∧ Bf g.events a [] e.prev b := by
 have hfl := h.fits.len
 have hev : evD g.events e.id = e := by unfold evD; rw [h.fits.up.evAt_mem he]; rfl
 have hpe := h.prev (List.mem_map.2 ⟨e, he, rfl⟩)
 rw [hev] at hpe
 unfold Zft
 have hcl : Zfn e.prev = some e.prev := by unfold Zfn; rw [chk8 (by omega)]; rfl
 rw [hcl, Wb]
 obtain ⟨o, h1, h2⟩ := Y4y (step := fun z : List (Int × Bool) × List Int × Int => Zfs g a z.1 z.2.1 z.2.2) (p := fun o : Bool ⊕ Unit => ∃ b, Bf g.events a [] e.prev b ∧ ((o = .inl true ∧ b = true) ∨ (o = .inr () ∧ b = false)))
  (fun k (z : List (Int × Bool) × List Int × Int) => ∃ (seen : List Int) (at_ : Nat), z.2.2 = (at_ : Int) ∧ at_ ≤ z.2.1.length ∧ (∀ id, Option.getD (mget z.1 id) false = true ↔ id ∈ seen) ∧ (∀ id ∈ z.2.1, id ∈ g.events.map (·.id)) ∧ z.2.1.length + 5 * Yly g.events seen ≤ 400 ∧ (∀ b, Bf g.events a seen (z.2.1.drop at_) b → Bf g.events a [] e.prev b) ∧ k = (z.2.1.length - at_) + 5 * Yly g.events seen) (by
  rintro k ⟨m, q, x⟩ ⟨seen, at_, hx, hat, hm, hq, hb, hB, hk⟩
  simp only at hx hat hm hq hb hB hk
  subst hx
  simp only [Zfs]
  by_cases hlt : at_ < q.length
  ·
   rw [dlt hlt, Wu, Ygk hlt, Wb, beqd]
   rw [List.drop_eq_getElem_cons hlt] at hB
   have hqi := hq _ (Wm hlt)
   generalize q[at_] = id at hB hqi
   by_cases ha : id = a
   ·
    left
    rw [Wt ha, Wu]
    subst ha
    exact ⟨_, rfl, true, hB _ (.hit _ _), .inl ⟨rfl, rfl⟩⟩
   ·
    right
    rw [Wf ha, Wv]
    simp only [Zfr, Ygl hlt (by omega : q.length < 9223372036854775807)]
    by_cases hs : Option.getD (mget m id) false = true
    ·
     rw [hs, Wu]
     exact ⟨_, k - 1, rfl, by omega, seen, at_ + 1, rfl, by simp only; omega, hm, hq, hb, fun b h => hB b (.skip _ _ _ _ ha ((hm id).1 hs) h), by simp only; omega⟩
    ·
     rw [Bool.eq_false_iff.2 hs, Wv, c_at _ _ h.fits.up (by omega), Wb]
     have hns : id ∉ seen := fun h => hs ((hm id).2 h)
     have hp := h.prev hqi
     have hu := Ylz hqi hns
     have e1 : (evAt g.events id).getD zEv = evD g.events id := rfl
     rw [e1, chk8 (by show q.length + (evD g.events id).prev.length < 1000000000; omega), Wb]
     refine ⟨_, (q.length + (evD g.events id).prev.length - (at_ + 1)) + 5 * Yly g.events (id :: seen), rfl, by omega, id :: seen, at_ + 1, rfl, by simp; omega, fun id' => ?_, fun id' hid => ?_, by simp; omega, fun b h => hB b ?_, by simp⟩
     ·
      rw [Y6l]
      by_cases h3 : id' = id
      ·
       rw [if_pos h3]; simp [h3]
      ·
       rw [if_neg h3, hm]; simp [h3]
     ·
      rcases List.mem_append.1 hid with hid | hid
      ·
       exact hq _ hid
      ·
       exact hp.2 _ hid
     ·
      refine .more _ _ _ _ ha hns ?_
      simp only at h
      rwa [List.drop_append_of_le_length (by omega)] at h
  ·
   left
   obtain rfl : at_ = q.length := by omega
   rw [dnlt, Wv]
   rw [List.drop_length] at hB
   exact ⟨_, rfl, false, hB _ (.nil _), .inr ⟨rfl, rfl⟩⟩) big (e.prev.length + 5 * Yly g.events []) ([], e.prev, 0) ⟨[], 0, rfl, by simp, by simp [mget], hpe.2, by have := Ym0 g.events []; simp only; omega, by simp, by simp⟩ (Ygf (by have := Ym0 g.events []; omega))
 obtain ⟨b, hb, h2⟩ := h2
 rw [h1, Wb]
 rcases h2 with ⟨rfl, rfl⟩ | ⟨rfl, rfl⟩
 ·
  exact ⟨true, rfl, hb⟩
 ·
  exact ⟨false, rfl, hb⟩

theorem Ym2 (e : Y9r) (h : e.prev.length < 1000000) : Z5x e = some e := by
 unfold Z5x
 rw [chk8 (by simp; omega), Wb]
 rfl

theorem Ym3 {g : Y9w} (hl : g.events.length < 1000000) {e : Y9r} {id : Int} (he : evAt g.events id = some e) (hp : e.prev.length < 1000000) : Z5z g id = some e := by
 unfold Z5z
 obtain ⟨h1, h2⟩ := Ykh he
 rw [Yhh _ _ (by omega), Wb, Wf (by omega), Wv, h1, Wb, Ym2 _ hp]; rfl

theorem Zlk {g : Y9w} (h : Walk g) (a : Int) (ha : a ∈ g.events.map (·.id)) {e : Y9r} (he : e ∈ g.events) : ∃ b, Z64 g a e.id = some b ∧ Bf g.events a [] e.prev b := by
 have hfl := h.fits.len
 have hee := h.fits.up.evAt_mem he
 have hev : evD g.events e.id = e := by unfold evD; rw [hee]; rfl
 have hpe := h.prev (List.mem_map.2 ⟨e, he, rfl⟩)
 rw [hev] at hpe
 unfold Z64
 rw [Yhh _ _ (by omega), Wb, Yhj, Ym1.2 ha, Yhh _ _ (by omega), Wb, Yhj, Yhm he]
 simp only [Bool.not_true, Wv, Z63]
 rw [Y4w (Wt ⟨by omega, by omega⟩), Wb, Ym3 (by omega) hee (by omega), Wb, chk8 (by simp; omega), Wb, Int.toNat_natCast, List.nil_append]
 obtain ⟨o, h1, h2⟩ := Y4y (step := fun z : List Bool × List Int => Z62 g a z.1 z.2) (p := fun o : Bool ⊕ Unit => ∃ b, Bf g.events a [] e.prev b ∧ ((o = .inl true ∧ b = true) ∨ (o = .inr () ∧ b = false)))
  (fun k (z : List Bool × List Int) => ∃ (seen : List Int), z.1.length = g.events.length ∧ (∀ id ∈ g.events.map (·.id), getI z.1 (plc g.events id) = some (decide (id ∈ seen))) ∧ (∀ id ∈ z.2, id ∈ g.events.map (·.id)) ∧ z.2.length + 5 * Yly g.events seen ≤ 400 ∧ (∀ b, Bf g.events a seen z.2 b → Bf g.events a [] e.prev b) ∧ k = z.2.length + 5 * Yly g.events seen) (by
  rintro k ⟨m, q⟩ ⟨seen, hml, hm, hq, hb, hB, hk⟩
  simp only at hml hm hq hb hB hk
  simp only [Z62]
  cases q with
  | nil =>
   left
   exact ⟨_, rfl, false, hB _ (.nil _), .inr ⟨rfl, rfl⟩⟩
  | cons id r =>
   have hqi := hq id (by simp)
   obtain ⟨i1, i2, i3⟩ := Ylr hqi h.fits.up
   rw [Wt (by simp <;> omega), Wu, show (0 : Int) = ((0 : Nat) : Int) from rfl, Ygk (by simp), Wb, Y4w (Wt (by simp <;> omega)), Wb, Yhh _ _ (by omega), Wb]
   simp only [List.getElem_cons_zero, List.length_cons] at hk hb ⊢
   rw [beqd]
   by_cases ha : id = a
   ·
    left
    rw [Wt ha, Wu]
    subst ha
    exact ⟨_, rfl, true, hB _ (.hit _ _), .inl ⟨rfl, rfl⟩⟩
   ·
    right
    rw [Wf ha, Wv, hm id hqi, Wb]
    by_cases hs : id ∈ seen
    ·
     rw [Wt hs, Wu]
     exact ⟨_, k - 1, rfl, by omega, seen, hml, hm, fun id' h => hq id' (by simp at h; simp [h]), by simp; omega, fun b h => hB b (.skip _ _ _ _ ha hs (by simpa using h)), by simp; omega⟩
    ·
     have hp := h.prev hqi
     have hu := Ylz hqi hs
     rw [Wf hs, Wv, (Ykh i1).1, Wb, chk8 (by simp; omega), Wb]
     refine ⟨_, r.length + (evD g.events id).prev.length + 5 * Yly g.events (id :: seen), rfl, by omega, id :: seen, by simp [hml], fun id' hid => ?_, fun id' hid => ?_, by simp; omega, fun b h => hB b (.more _ _ _ _ ha hs (by simpa using h)), by simp⟩
     ·
      obtain ⟨p, hpl, p1, p2, p3⟩ := Yhk (Ym1.2 hid)
      obtain ⟨p', hpl', p1', p2', p3'⟩ := Yhk (Ym1.2 hqi)
      rw [p1, p1', Int.toNat_natCast]
      have hm' := hm id' hid
      rw [p1] at hm'
      by_cases h3 : id' = id
      ·
       subst h3
       obtain rfl : p = p' := by omega
       rw [Ygk (by simp; omega)]
       simp
      ·
       have hne : p' ≠ p := fun h => by subst h; exact h3 (p2.symm.trans p2')
       rw [Ygk (by omega)] at hm'
       rw [Ygk (by simp; omega), List.getElem_set_ne hne]
       rw [hm']
       simp [h3]
     ·
      simp at hid
      rcases hid with hid | hid
      ·
       exact hq _ (by simp [hid])
      ·
       exact hp.2 _ hid) big (e.prev.length + 5 * Yly g.events []) (List.replicate g.events.length false, e.prev) ⟨[], by simp, fun id hid => by
   obtain ⟨p, hpl, p1, _, _⟩ := Yhk (Ym1.2 hid)
   rw [p1, Ygk (by simpa using hpl)]; simp, hpe.2, by have := Ym0 g.events []; simp only; omega, by simp, by simp⟩ (Ygf (by have := Ym0 g.events []; omega))
 obtain ⟨b, hb, h2⟩ := h2
 rw [h1, Wb]
 rcases h2 with ⟨rfl, rfl⟩ | ⟨rfl, rfl⟩
 ·
  exact ⟨true, rfl, hb⟩
 ·
  exact ⟨false, rfl, hb⟩

theorem Bf.none {g : Y9w} (h : Walk g) {a : Int} (ha : a ∉ g.events.map (·.id)) {seen todo : List Int} {b : Bool} (hb : Bf g.events a seen todo b) (ht : ∀ id ∈ todo, id ∈ g.events.map (·.id)) : b = false := by
 induction hb with
 | nil => rfl
 | hit => exact absurd (ht a (by simp)) ha
 | skip _ _ _ _ _ _ _ ih => exact ih fun id hid => ht id (by simp [hid])
 | more _ r id _ _ _ _ ih =>
  refine ih fun id' hid => ?_
  rcases List.mem_append.1 hid with hid | hid
  ·
   exact ht id' (by simp [hid])
  ·
   exact (h.prev (ht id (by simp))).2 _ hid

theorem Ym4 {g : Y9w} (h : Walk g) (a : Int) {e : Y9r} (he : e ∈ g.events) : ∃ b, Z64 g a e.id = some b ∧ Zft g a e = some b := by
 obtain ⟨b, h1, h2⟩ := Zlj h a he
 by_cases ha : a ∈ g.events.map (·.id)
 ·
  obtain ⟨b', h3, h4⟩ := Zlk h a ha he
  have := h2.det h4
  subst this
  exact ⟨b, h3, h1⟩
 ·
  have hpe := h.prev (List.mem_map.2 ⟨e, he, rfl⟩)
  have hev : evD g.events e.id = e := by unfold evD; rw [h.fits.up.evAt_mem he]; rfl
  rw [hev] at hpe
  have := h2.none h ha hpe.2
  subst this
  refine ⟨false, ?_, h1⟩
  have hfl := h.fits.len
  unfold Z64
  rw [Yhh _ _ (by omega), Wb, Yhj, Bool.eq_false_iff.2 (fun hh => ha (Ym1.1 hh))]
  rfl


def Cons (l : List Y9r) (d : List Int) : Prop := ∀ (i : Nat) (hi : i < l.length), d.getD i 0 > 0 → own l d l[i] = d.getD i 0

theorem Ym5 {l : List Y9r} {d : List Int} {e : Y9r} (h : own l d e > 0) : e.prev.all (fun p => decide (dOf l d p > 0)) = true := by
 unfold own at h
 split at h
 ·
  assumption
 ·
  omega

theorem Ym6 {f g : Int → Int → Int} : ∀ {l : List Int} {m : Int}, (∀ m, ∀ p ∈ l, f m p = g m p) → l.foldl f m = l.foldl g m
 | [], _, _ => rfl
 | p :: l, m, h => by rw [List.foldl_cons, List.foldl_cons, h m p (by simp)]; exact Ym6 fun m q hq => h m q (by simp [hq])

theorem Ym7 {l : List Y9r} {d : List Int} (hd : d.length = l.length) (hw : Yi0 l) {i : Nat} {v : Int} (h0 : d.getD i 0 = 0) {e : Y9r} (he : e ∈ l) (h : own l d e > 0) : own l (d.set i v) e = own l d e := by
 have hp := Ym5 h
 have hsame : ∀ p ∈ e.prev, dOf l (d.set i v) p = dOf l d p := fun p hp' => by
  have h1 := Wo (List.all_eq_true.1 hp p hp')
  obtain ⟨k, hk, k1, _, _⟩ := Yhk (hw e he p hp')
  unfold dOf at h1 ⊢
  rw [k1] at h1 ⊢
  have hkd : k < d.length := by omega
  rw [Ygk hkd] at h1
  rw [Ygk (by simpa using hkd), Ygk hkd]
  by_cases hik : i = k
  ·
   subst hik
   simp only [List.getD_eq_getElem?_getD, We hkd, Option.getD_some] at h0
   simp only [Option.getD_some] at h1
   omega
  ·
   rw [List.getElem_set_ne hik]
 unfold own
 have e1 : e.prev.all (fun p => decide (dOf l (d.set i v) p > 0)) = e.prev.all (fun p => decide (dOf l d p > 0)) := by
  rw [Bool.eq_iff_iff, List.all_eq_true, List.all_eq_true]
  constructor
  ·
   intro h2 p hp'; have := h2 p hp'; rwa [hsame p hp'] at this
  ·
   intro h2 p hp'; rw [hsame p hp']; exact h2 p hp'
 rw [e1, Ym6 fun m p hp' => by rw [hsame p hp']]

theorem Cons.upd {l : List Y9r} {d : List Int} {c i : Nat} (hw : Yi0 l) (hb : Bd l c d) (hi : i < l.length) (h : Cons l d) : Cons l (updD l d i) := by
 rcases Yia hb hi with h1 | ⟨h1, h2, h3, _⟩
 ·
  rw [h1]; exact h
 ·
  rw [h3]
  have e2 : l.getD i zEv = l[i] := by simp [hi]
  rw [e2] at h2 ⊢
  intro j hj hpos
  have hjd : j < d.length := by rw [hb.len]; exact hj
  have hid : i < d.length := by rw [hb.len]; exact hi
  by_cases hij : i = j
  ·
   subst hij
   rw [Ym7 hb.len hw h1 (Wm hi) h2]
   simp [hid]
  ·
   have e3 : (d.set i (own l d l[i])).getD j 0 = d.getD j 0 := by
    simp only [List.getD_eq_getElem?_getD, List.getElem?_set_ne hij]
   rw [e3] at hpos ⊢
   have h4 := h j hj hpos
   rw [Ym7 hb.len hw h1 (Wm hj) (by omega)]
   exact h4

theorem Cons.sweep {l : List Y9r} {d : List Int} {c : Nat} (hw : Yi0 l) (hb : Bd l c d) (h : Cons l d) : Cons l (sweep l d) := by
 unfold Go.Proofs.YtmaefakalikkiaaGreat.sweep
 suffices key : ∀ (r : List Nat) (c : Nat) (d : List Int), (∀ i ∈ r, i < l.length) → Bd l c d → Cons l d → Cons l (r.foldl (updD l) d) from key _ c d (fun i hi => by simpa using hi) hb h
 intro r
 induction r with
 | nil => intro c d _ _ h; exact h
 | cons i r ih =>
  intro c d hr hb h
  rw [List.foldl_cons]
  exact ih (c + 1) _ (fun j hj => hr j (by simp [hj])) (Yi6 hw hb (hr i (by simp))) (h.upd hw hb (hr i (by simp)))

theorem Ym8 {l : List Y9r} (hf : Fits l) : Cons l (Yi2 l) := by
 unfold Yi2
 have hz : Bd l 0 (List.replicate l.length 0) := ⟨by simp, fun x hx => by rw [List.eq_of_mem_replicate hx]; simp⟩
 have key : ∀ k, k ≤ l.length → Cons l (Yi1 l k (List.replicate l.length 0)) := by
  intro k
  induction k with
  | zero =>
   intro _ i hi h
   simp [Yi1, hi] at h
  | succ k ih =>
   intro hk
   exact (ih (by omega)).sweep hf.whole (Yie hf hz k (by omega))
 exact key _ (Nat.le_refl _)

theorem Ym9 (a b : Int) : a ≤ mx2 a b ∧ b ≤ mx2 a b := by unfold mx2; split <;> omega
theorem Yma {l : List Y9r} (hf : Fits l) (hd : Deep l) {e : Y9r} (he : e ∈ l) {p : Int} (hp : p ∈ e.prev) : dOf l (Yi2 l) p < dOf l (Yi2 l) e.id := by
 obtain ⟨i, hi, rfl⟩ := List.mem_iff_getElem.1 he
 have hb := (Yi8 hf).2
 have hid : i < (Yi2 l).length := by rw [hb.len]; exact hi
 have e1 : dOf l (Yi2 l) l[i].id = (Yi2 l)[i] := by
  unfold dOf
  rw [(hf.up.plc hi).1, Ygk hid]; rfl
 have e2 : (Yi2 l).getD i 0 = (Yi2 l)[i] := by simp [hid]
 have hpos := hd _ (Wm hid)
 have hc := Ym8 hf i hi (by rw [e2]; exact hpos)
 rw [e2] at hc
 rw [e1]
 have ha := Ym5 (l := l) (d := Yi2 l) (e := l[i]) (by omega)
 unfold own at hc
 rw [if_pos ha] at hc
 have hmx : ∀ (ps : List Int) (m : Int), p ∈ ps → dOf l (Yi2 l) p ≤ ps.foldl (fun m p => mx2 m (dOf l (Yi2 l) p)) m := by
  intro ps
  have hmono : ∀ (ps : List Int) (m : Int), m ≤ ps.foldl (fun m p => mx2 m (dOf l (Yi2 l) p)) m := by
   intro ps
   induction ps with
   | nil => intro m; exact Int.le_refl _
   | cons q ps ih => intro m; rw [List.foldl_cons]; have := ih (mx2 m (dOf l (Yi2 l) q)); have := (Ym9 m (dOf l (Yi2 l) q)).1; omega
  induction ps with
  | nil => intro m h; cases h
  | cons q ps ih =>
   intro m h
   rw [List.foldl_cons]
   rcases List.mem_cons.1 h with rfl | h
   ·
    have := hmono ps (mx2 m (dOf l (Yi2 l) p)); have := (Ym9 m (dOf l (Yi2 l) p)).2; omega
   ·
    exact ih _ h
 have := hmx _ 0 hp
 omega
end Go.Proofs.YtmaefakalikkiaaGreat
namespace Go.Proofs.YtmaefakalikkiaaGreat
open Go Go.Abs

theorem Ymb {τ1 τ2 ω1 ω2 σ1 σ2 : Type} {step1 : τ1 → Option (τ1 ⊕ ω1)} {step2 : τ2 → Option (τ2 ⊕ ω2)} {n : Nat} (emb1 : σ1 → Int → τ1) (emb2 : σ2 → Int → τ2) (I : Nat → σ1 → σ2 → Prop) (Q : ω1 → ω2 → Prop) (hn : n < 9223372036854775807)
  (h1 : ∀ (i : Nat) (s : σ1) (t : σ2), i < n → I i s t → ∃ s' t', step1 (emb1 s i) = some (.inl (emb1 s' ((i + 1 : Nat) : Int))) ∧ step2 (emb2 t i) = some (.inl (emb2 t' ((i + 1 : Nat) : Int))) ∧ I (i + 1) s' t')
  (h2 : ∀ s t, I n s t → ∃ o o', step1 (emb1 s n) = some (.inr o) ∧ step2 (emb2 t n) = some (.inr o') ∧ Q o o') {s : σ1} {t : σ2} (h0 : I 0 s t) :
  ∃ o o', iter step1 big (emb1 s 0) = some o ∧ iter step2 big (emb2 t 0) = some o' ∧ Q o o' := by
 have key : ∀ m i k : Nat, ∀ s t, i + m = n → m < k → I i s t → ∃ o o', iter step1 k (emb1 s i) = some o ∧ iter step2 k (emb2 t i) = some o' ∧ Q o o' := by
  intro m
  induction m with
  | zero =>
   intro i k s t hm hk hi
   obtain ⟨k, rfl⟩ : ∃ k', k = k' + 1 := ⟨k - 1, by omega⟩
   obtain rfl : i = n := by omega
   obtain ⟨o, o', e1, e2, hq⟩ := h2 s t hi
   exact ⟨o, o', by rw [iter, e1]; rfl, by rw [iter, e2]; rfl, hq⟩
  | succ m ih =>
   intro i k s t hm hk hi
   obtain ⟨k, rfl⟩ : ∃ k', k = k' + 1 := ⟨k - 1, by omega⟩
   obtain ⟨s', t', e1, e2, hi'⟩ := h1 i s t (by omega) hi
   obtain ⟨o, o', f1, f2, hq⟩ := ih (i + 1) k s' t' (by omega) (by omega) hi'
   exact ⟨o, o', by rw [iter, e1]; exact f1, by rw [iter, e2]; exact f2, hq⟩
 exact key n 0 big s t (by omega) (Ygf (by omega)) h0


theorem Ymc {l : List Y9r} {k : Nat} (hk : k < l.length) : idPl l (k : Int) = l[k].id := by unfold idPl; simp [hk]
theorem Ymd {l : List Y9r} (hf : Fits l) {k : Nat} (hk : k < l.length) : dd (Yi2 l) (k : Int) = dOf l (Yi2 l) l[k].id := by
 have hb := (Yi8 hf).2
 have hkd : k < (Yi2 l).length := by rw [hb.len]; exact hk
 unfold dd dOf
 rw [(hf.up.plc hk).1, Ygk hkd]
 simp [hkd]

theorem Yme {l : List Y9r} (hf : Fits l) {k : Nat} (hk : k < l.length) : (k : Int) ∈ Yja l := by
 refine (Yjc hf).2.1.mem_iff.2 ?_
 unfold idt
 exact List.mem_map.2 ⟨k, List.mem_range'_1.2 ⟨by omega, by omega⟩, rfl⟩

theorem Ymf {l : List Y9r} (hf : Fits l) : (Yjb l).length = l.length := by unfold Yjb; rw [List.length_map, Yje hf]
theorem Ymg {l : List Y9r} (hf : Fits l) {id : Int} : id ∈ Yjb l ↔ id ∈ l.map (·.id) := by
 unfold Yjb
 rw [List.mem_map, List.mem_map]
 constructor
 ·
  rintro ⟨x, hx, rfl⟩
  obtain ⟨k, rfl, hk⟩ := Yjd hf hx
  exact ⟨l[k], Wm hk, (Ymc hk).symm⟩
 ·
  rintro ⟨e, he, rfl⟩
  obtain ⟨k, hk, rfl⟩ := List.mem_iff_getElem.1 he
  exact ⟨(k : Int), Yme hf hk, Ymc hk⟩
theorem Ymh {l : List Y9r} (hf : Fits l) : (Yjb l).Nodup := by
 unfold Yjb
 rw [List.nodup_iff_pairwise_ne, List.pairwise_map]
 refine List.Pairwise.imp_of_mem (fun {a b} ha hb hab he => ?_) (Yjc hf).2.2
 obtain ⟨i, rfl, hi⟩ := Yjd hf ha
 obtain ⟨j, rfl, hj⟩ := Yjd hf hb
 rw [Ymc hi, Ymc hj] at he
 obtain rfl := hf.up.inj hi hj he
 unfold Lt2 at hab; omega

theorem Ymi {l : List Y9r} {i : Nat} (h1 : i < (Yja l).length) (h2 : i < (Yjb l).length) : (Yjb l)[i] = idPl l (Yja l)[i] := List.getElem_map _
theorem Ymj {l : List Y9r} (hf : Fits l) (hd : Deep l) {i : Nat} (hi : i < (Yjb l).length) {e : Y9r} (he : evAt l (Yjb l)[i] = some e) {p : Int} (hp : p ∈ e.prev) : p ∈ (Yjb l).take i := by
 obtain ⟨hel, hid⟩ := Yho he
 obtain ⟨f, hfl, hfid⟩ := Yhn.1 (hf.whole e hel p hp)
 obtain ⟨k, hk, rfl⟩ := List.mem_iff_getElem.1 hfl
 obtain ⟨u, hu, huk⟩ := List.mem_iff_getElem.1 (Yme hf hk)
 have hlt := Yma hf hd hel hp
 have hil : i < (Yja l).length := by rw [Yje hf]; rw [Ymf hf] at hi; exact hi
 obtain ⟨x, hx, hxl⟩ := Yjd hf (Wm hil)
 have e1 : (Yjb l)[i] = l[x].id := by
  rw [Ymi hil hi, hx, Ymc hxl]
 have d1 := Ymd hf hxl
 have d2 := Ymd hf hk
 rw [← e1, ← hid] at d1
 rw [hfid] at d2
 have hui : u < i := by
  rcases Nat.lt_trichotomy u i with h | h | h
  ·
   exact h
  ·
   subst h
   rw [hx] at huk
   have : x = k := by omega
   subst this
   omega
  ·
   have := List.pairwise_iff_getElem.1 (Yjc hf).2.2 i u hil hu h
   rw [hx, huk] at this
   unfold Lt2 at this; omega
 have hul : u < (Yjb l).length := by omega
 have e2 : (Yjb l)[u] = p := by
  rw [Ymi hu hul, huk, Ymc hk, hfid]
 have : ((Yjb l).take i)[u]'(by simp; omega) = p := by simp [e2]
 rw [← this]
 exact Wm _


def Ymk (g : Y9w) (a : Int) (e : Y9r) : Bool := (Zft g a e).getD false
def Yml (g : Y9w) (s : List Y9z) (e : Y9r) : Int := if alw g s e = 0 ∧ e.kind = 8 ∧ Ymk g e.key e = false then 6 else alw g s e
def Ymm (g : Y9w) (s : List Y9z) (e : Y9r) : List Y9z := if Yml g s e = 0 ∧ e.kind ≤ 6 then putE s e else s

theorem Ymn {g : Y9w} (hu : Up2 g.events) {s : List Y9z} (hs : StOk g.events s) {e : Y9r} (he : e ∈ g.events) : StOk g.events (Ymm g s e) := by
 unfold Ymm
 split
 ·
  exact hs.put (hu.evAt_mem he)
 ·
  exact hs

structure Ymo (g : Y9w) (ls : Int → List Y9z) (B A : List (Int × List Y9z)) (R : List (Int × Int)) (ah bh : List (List Y9z)) (cd : List Int) (e : Y9r) : Prop where
 ok : StOk g.events (Ylv g (e.prev.map ls))
 mB : mget B e.id = some (Ylv g (e.prev.map ls))
 mR : mget R e.id = some (Yml g (Ylv g (e.prev.map ls)) e)
 mA : mget A e.id = some (Ymm g (Ylv g (e.prev.map ls)) e)
 ga : getI ah (plc g.events e.id) = some (Ylv g (e.prev.map ls))
 gc : getI cd (plc g.events e.id) = some (Yml g (Ylv g (e.prev.map ls)) e)
 gb : getI bh (plc g.events e.id) = some (Ymm g (Ylv g (e.prev.map ls)) e)

def behI (A : List (Int × List Y9z)) (id : Int) : List Y9z := Option.getD (mget A id) []

structure Ymp (g : Y9w) : Prop where
 fits : Fits g.events
 ev : ∀ e ∈ g.events, EvOk e
 deep : Deep g.events
theorem GOk.right {g : Y9w} (h : GOk g) : Ymp g := ⟨h.fits, fun e he => (h.ev e he).1, h.deep⟩
theorem Ymp.walk {g : Y9w} (h : Ymp g) : Walk g := ⟨h.fits, h.ev⟩

theorem Ymq {g : Y9w} (h : Ymp g) (a : Int) {e : Y9r} (he : e ∈ g.events) : Z64 g a e.id = some (Ymk g a e) ∧ Zft g a e = some (Ymk g a e) := by
 obtain ⟨b, h1, h2⟩ := Ym4 h.walk a he
 unfold Ymk
 rw [h1, h2]
 exact ⟨rfl, rfl⟩

theorem Ymr {α : Type} {l : List α} {k j : Nat} {v : α} (hk : k < l.length) : getI (l.set k v) (j : Int) = if j = k then some v else getI l (j : Int) := by
 have h0 : (0 : Int) ≤ (j : Int) := by omega
 simp only [getI, h0, if_true, Int.toNat_natCast]
 by_cases h : j = k
 ·
  subst h; rw [if_pos rfl, List.getElem?_set_self hk]
 ·
  rw [if_neg h, List.getElem?_set_ne (by omega)]

theorem Zll {h : Ya3} (hr : Ymp h.graph) (hk : Ylw h) {e : Y9r} (he : e ∈ h.graph.events) (hpl : ∀ p ∈ e.prev, StOk h.graph.events (behI h.after p)) :
  Zfy h e = some (mset h.before e.id (Ylv h.graph (e.prev.map (behI h.after))), mset h.after e.id (Ymm h.graph (Ylv h.graph (e.prev.map (behI h.after))) e), mset h.refused e.id (Yml h.graph (Ylv h.graph (e.prev.map (behI h.after))) e)) := by
 have hp4 := (hr.ev e he).prev.1
 have hst : Zd5 h e.prev = some (e.prev.map (behI h.after)) := by
  unfold Zd5
  have := Yh1 (l := e.prev) (step := fun z : List (List Y9z) × Int => Zd4 h e.prev z.1 z.2) (fun q j => (q, j)) (fun q => q) (fun q p => q ++ [behI h.after p]) (fun i q => q.length = i) (by omega) (fun i q hi hq => by
   refine ⟨?_, by simp [hq]⟩
   simp only [Zd4]
   rw [dlt hi, Wu, Ygk hi, Wb, Yjy (by simp; omega), Wb, Ygl hi (by omega)]; rfl)
   (fun q _ => by simp only [Zd4]; rw [dnlt, Wv]) (s := []) rfl
  have e1 : ∀ (r : List Int) (q : List (List Y9z)), r.foldl (fun q p => q ++ [behI h.after p]) q = q ++ r.map (behI h.after) := by
   intro r
   induction r with
   | nil => intro q; simp
   | cons p r ih => intro q; rw [List.foldl_cons, ih]; simp
  rw [this.1, e1]; rfl
 have hm : Mrg h.graph (e.prev.map (behI h.after)) := ⟨hr.fits, hr.ev, hr.deep, fun s hs => by obtain ⟨p, hp, rfl⟩ := List.mem_map.1 hs; exact hpl p hp, by simp; omega⟩
 obtain ⟨_, c2, c3⟩ := Ylx hm hk
 unfold Zfy
 rw [hst, Wb, c2, Wb, (Yks (hm.sts c3) (hr.ev e he).ask).2, Wb, (Ymq hr _ he).2, beqd, beqd]
 have hsl := hm.slen c3
 generalize Ylv h.graph (e.prev.map (behI h.after)) = s at c3 hsl
 have hid := (hr.ev e he).id.1
 have hput := Ykc c3.up (Y9z.mk e.kind e.key e.id) (by simp only; omega) (by omega)
 simp only [Zfx, Zfw, Zfv, Wb, hput, Y6m, beqd]
 unfold Ymm Yml putE
 by_cases h1 : alw h.graph s e = 0
 ·
  by_cases h2 : e.kind = 8
  ·
   cases h3 : Ymk h.graph e.key e with
   | false => simp [h1, h2]
   | true => simp [h1, h2]
  ·
   by_cases h4 : e.kind ≤ 6
   ·
    simp [h1, h2, h4]
   ·
    simp [h1, h2, h4]
 ·
  simp [h1]
end Go.Proofs.YtmaefakalikkiaaGreat
namespace Go.Proofs.YtmaefakalikkiaaGreat
open Go Go.Abs

theorem Yms {α β : Type} (f : α → β) : ∀ (r : List α) (q : List β), r.foldl (fun q p => q ++ [f p]) q = q ++ r.map f
 | [], q => by simp
 | p :: r, q => by rw [List.foldl_cons, Yms f r]; simp

theorem Zlm {g : Y9w} (hr : Ymp g) {od : List Int} {ah bh : List (List Y9z)} {cd : List Int} (ls : Int → List Y9z) {i : Nat} (hi : i < od.length) (hil : i < g.events.length) {k : Nat} (hk : k < g.events.length) (hid : od[i] = g.events[k].id)
  (la : ah.length = g.events.length) (lb : bh.length = g.events.length) (lc : cd.length = g.events.length) (hpl : ∀ p ∈ g.events[k].prev, StOk g.events (ls p) ∧ getI bh (plc g.events p) = some (ls p)) :
  Z6d g (Yi2 g.events) od ah bh cd (i : Int) = some (.inl (ah.set k (Ylv g (g.events[k].prev.map ls)), bh.set k (Ymm g (Ylv g (g.events[k].prev.map ls)) g.events[k]), cd.set k (Yml g (Ylv g (g.events[k].prev.map ls)) g.events[k]), ((i + 1 : Nat) : Int))) := by
 have hfl := hr.fits.len
 have he : g.events[k] ∈ g.events := Wm hk
 have hev := hr.ev _ he
 have hp4 := hev.prev.1
 have hplc := (hr.fits.up.plc hk).1
 simp only [Z6d]
 rw [dlt hil, Wu, Ygk hi, Wb, hid, Yhh _ _ (by omega), Wb, hplc, Ygk hk, Wb]
 generalize g.events[k] = e at *
 have h7 := Yh1 (l := e.prev) (step := fun z : List (List Y9z) × Int => Z6c g bh e z.1 z.2) (fun q j => (q, j)) (fun q => q) (fun q p => q ++ [ls p]) (fun i q => q.length = i) (by omega) (fun i q hi hq => by
  refine ⟨?_, by simp [hq]⟩
  simp only [Z6c]
  rw [dlt hi, Wu, Ygk hi, Wb, Yhh _ _ (by omega), Wb, (hpl _ (Wm hi)).2, Wb, Yjy (by simp; omega), Wb, Ygl hi (by omega)])
  (fun q _ => by simp only [Z6c]; rw [dnlt, Wv]) (s := []) rfl
 rw [h7.1, Yms, Wb, List.nil_append]
 have hm : Mrg g (e.prev.map ls) := ⟨hr.fits, hr.ev, hr.deep, fun s hs => by obtain ⟨p, hp, rfl⟩ := List.mem_map.1 hs; exact (hpl p hp).1, by simp; omega⟩
 -- any history that knows the depths
 have hkn : Ylw (Ya3.mk g (g.events.map fun e => (e.id, dmR g.events e)) [] [] []) := by
  intro e' he'
  have key : ∀ l : List Y9r, e' ∈ l → mget (l.map fun e => (e.id, dmR g.events e)) e'.id = some (dmR g.events e') := by
   intro l
   induction l with
   | nil => intro h; cases h
   | cons f l ih =>
    intro h
    simp only [List.map_cons, mget]
    by_cases hf : e'.id = f.id
    ·
     rw [if_pos hf]
     unfold dmR
     rw [hf]
    ·
     rw [if_neg hf]
     rcases List.mem_cons.1 h with rfl | h
     ·
      exact absurd rfl hf
     ·
      exact ih h
  exact key _ he'
 obtain ⟨c1, _, c3⟩ := Ylx (h := Ya3.mk g (g.events.map fun e => (e.id, dmR g.events e)) [] [] []) hm hkn
 simp only at c1 c3
 simp only [Z6b]
 rw [c1, Wb, Ygk (by omega : k < ah.length), Wb, Int.toNat_natCast, Ymr (by omega), if_pos rfl, Wb, (Yks (hm.sts c3) hev.ask).1, Wb, Ygk (by omega : k < cd.length), Wb, Ymr (by omega), if_pos rfl, Wb, (Ymq hr _ he).1, beqd, beqd]
 have hsl := hm.slen c3
 generalize Ylv g (e.prev.map ls) = s at c3 hsl
 have hput := Yk1 c3.up (Y9z.mk e.kind e.key e.id) (by omega)
 have w1 : IntKind.i64.wrap ((i : Int) + 1) = ((i + 1 : Nat) : Int) := Ygl hil (by omega)
 simp only [Z6a, Z69, Z68, Z67, Int.toNat_natCast, hput, List.nil_append]
 rw [Yjy (by simp; omega)]
 have hgb : ∀ v : List Y9z, getI (bh.set k v) (k : Int) = some v := fun v => by rw [Ymr (by omega), if_pos rfl]
 have hgc : ∀ v : Int, getI (cd.set k v) (k : Int) = some v := fun v => by rw [Ymr (by omega), if_pos rfl]
 have hgb0 := Ygk (by omega : k < bh.length)
 simp only [Wb, hgb, hgc, hgb0, w1, List.set_set, beqd]
 unfold Ymm Yml putE
 by_cases h1 : alw g s e = 0
 ·
  by_cases h2 : e.kind = 8
  ·
   cases h3 : Ymk g e.key e with
   | false => simp [h1, h2, hgc]
   | true => simp [h1, h2, hgc]
  ·
   by_cases h4 : e.kind ≤ 6
   ·
    simp [h1, h2, h4, hgc]
   ·
    simp [h1, h2, h4, hgc]
 ·
  simp [h1, hgc]

structure Both (g : Y9w) (h : Ya3) (w : Ya0) : Prop where
 graph : h.graph = g
 depth : Ylw h
 depths : w.depths = Yi2 g.events
 la : w.ahead.length = g.events.length
 lb : w.behind.length = g.events.length
 lc : w.code.length = g.events.length
 all : ∀ e ∈ g.events, Ymo g (behI h.after) h.before h.after h.refused w.ahead w.behind w.code e

theorem Ymt {A : List (Int × List Y9z)} {id p : Int} {t : List Y9z} (h : p ≠ id) : behI (mset A id t) p = behI A p := by
 unfold behI; rw [Y6l, if_neg h]

theorem Ymu {g : Y9w} (hr : Ymp g) : ∃ h w, Zg4 g = some h ∧ Z6f g = some w ∧ Both g h w := by
 have hfl := hr.fits.len
 obtain ⟨e0, hb⟩ := Yi8 hr.fits
 have hol := Ymf hr.fits
 -- the depths
 obtain ⟨m, hm1, hm2⟩ : ∃ m, iter (fun z : List (Int × Int) × Int => Zg3 g (Yi2 g.events, decide (Yi9 (Yi2 g.events) = 0)) z.1 z.2) big ([], 0) = some m ∧ ∀ e ∈ g.events, mget m e.id = some (dmR g.events e) := by
  obtain ⟨o, h1, h2⟩ := Ygi (τ := List (Int × Int) × Int) (ω := List (Int × Int)) (σ := List (Int × Int)) (step := fun z : List (Int × Int) × Int => Zg3 g (Yi2 g.events, decide (Yi9 (Yi2 g.events) = 0)) z.1 z.2) (n := g.events.length) (fun s j => (s, j))
   (fun i s => ∀ (j : Nat) (hj : j < g.events.length), j < i → mget s g.events[j].id = some (dmR g.events g.events[j])) (fun o => ∀ (j : Nat) (hj : j < g.events.length), mget o g.events[j].id = some (dmR g.events g.events[j])) (by omega) (by
   intro i s hi hI
   have hid : i < (Yi2 g.events).length := by rw [hb.len]; exact hi
   refine ⟨mset s g.events[i].id (Yi2 g.events)[i], ?_, fun j hj hji => ?_⟩
   ·
    simp only [Zg3]
    rw [dlt hi, Wu, Ygk hi, Wb, Ygk hid, Wb, Ygl hi (by omega)]
   ·
    rw [Y6l]
    by_cases he : g.events[j].id = g.events[i].id
    ·
     rw [if_pos he]
     obtain rfl := hr.fits.up.inj hj hi he
     unfold dmR dOf
     rw [(hr.fits.up.plc hj).1, Ygk hid]; rfl
    ·
     rw [if_neg he]
     exact hI j hj (by
      rcases Nat.lt_or_ge j i with h | h
      ·
       exact h
      ·
       obtain rfl : j = i := by omega
       exact absurd rfl he)) (by
   intro s hI
   simp only [Zg3]
   rw [dnlt, Wv]
   exact ⟨s, rfl, fun j hj => hI j hj hj⟩) (s := []) (fun j hj h => by omega)
  refine ⟨o, h1, fun e he => ?_⟩
  obtain ⟨j, hj, rfl⟩ := List.mem_iff_getElem.1 he
  exact h2 j hj
 -- the states
 have hpos : ∀ i, (hi : i < (Yjb g.events).length) → ∃ k, ∃ hk : k < g.events.length, (Yjb g.events)[i] = g.events[k].id := fun i hi => by
  obtain ⟨e, he, h1⟩ := List.mem_map.1 ((Ymg hr.fits).1 (Wm hi))
  obtain ⟨k, hk, rfl⟩ := List.mem_iff_getElem.1 he
  exact ⟨k, hk, h1.symm⟩
 obtain ⟨⟨B, A, R⟩, ⟨ah, bh, cd⟩, q1, q2, la, lb, lc, hall⟩ := Ymb (step1 := fun z : List (Int × List Y9z) × List (Int × List Y9z) × List (Int × Int) × Int => Zg1 g m (Yjb g.events) z.1 z.2.1 z.2.2.1 z.2.2.2) (step2 := fun z : List (List Y9z) × List (List Y9z) × List Int × Int => Z6d g (Yi2 g.events) (Yjb g.events) z.1 z.2.1 z.2.2.1 z.2.2.2) (n := g.events.length)
  (fun (s : List (Int × List Y9z) × List (Int × List Y9z) × List (Int × Int)) j => (s.1, s.2.1, s.2.2, j)) (fun (s : List (List Y9z) × List (List Y9z) × List Int) j => (s.1, s.2.1, s.2.2, j))
  (fun i s t => t.1.length = g.events.length ∧ t.2.1.length = g.events.length ∧ t.2.2.length = g.events.length ∧ ∀ e ∈ g.events, e.id ∈ (Yjb g.events).take i → Ymo g (behI s.2.1) s.1 s.2.1 s.2.2 t.1 t.2.1 t.2.2 e)
  (fun (s : List (Int × List Y9z) × List (Int × List Y9z) × List (Int × Int)) (t : List (List Y9z) × List (List Y9z) × List Int) => t.1.length = g.events.length ∧ t.2.1.length = g.events.length ∧ t.2.2.length = g.events.length ∧ ∀ e ∈ g.events, Ymo g (behI s.2.1) s.1 s.2.1 s.2.2 t.1 t.2.1 t.2.2 e) (by omega) (by
  rintro i ⟨B, A, R⟩ ⟨ah, bh, cd⟩ hi ⟨la, lb, lc, hI⟩
  simp only at la lb lc hI ⊢
  have hio : i < (Yjb g.events).length := by omega
  obtain ⟨k, hk, hid⟩ := hpos i hio
  have he : g.events[k] ∈ g.events := Wm hk
  have hevat : evAt g.events (Yjb g.events)[i] = some g.events[k] := by rw [hid]; exact (hr.fits.up.plc hk).2
  have hprev : ∀ p ∈ g.events[k].prev, ∃ f ∈ g.events, f.id = p ∧ p ∈ (Yjb g.events).take i := fun p hp => by
   obtain ⟨f, hf, hfid⟩ := Yhn.1 (hr.fits.whole _ he p hp)
   exact ⟨f, hf, hfid, Ymj hr.fits hr.deep hio hevat hp⟩
  have hknow : ∀ p ∈ g.events[k].prev, StOk g.events (behI A p) ∧ getI bh (plc g.events p) = some (behI A p) := fun p hp => by
   obtain ⟨f, hf, hfid, ht⟩ := hprev p hp
   subst hfid
   have hk := hI f hf ht
   have e1 : behI A f.id = Ymm g (Ylv g (f.prev.map (behI A))) f := by
    show Option.getD (mget A f.id) [] = _
    rw [hk.mA]; rfl
   rw [e1]
   exact ⟨Ymn hr.fits.up hk.ok hf, hk.gb⟩
  have hks : Ylw (Ya3.mk g m B A R) := hm2
  have s1 := Zll (h := Ya3.mk g m B A R) hr hks he (fun p hp => (hknow p hp).1)
  have s2 := Zlm hr (od := Yjb g.events) (ah := ah) (bh := bh) (cd := cd) (behI A) hio hi hk hid la lb lc hknow
  have hm : Mrg g (g.events[k].prev.map (behI A)) := ⟨hr.fits, hr.ev, hr.deep, fun s hs => by obtain ⟨p, hp, rfl⟩ := List.mem_map.1 hs; exact (hknow p hp).1, by have := (hr.ev _ he).prev.1; simp; omega⟩
  have hsok := (Ylx (h := Ya3.mk g m B A R) hm hks).2.2
  simp only at s1 hsok
  refine ⟨(mset B g.events[k].id (Ylv g (g.events[k].prev.map (behI A))), mset A g.events[k].id (Ymm g (Ylv g (g.events[k].prev.map (behI A))) g.events[k]), mset R g.events[k].id (Yml g (Ylv g (g.events[k].prev.map (behI A))) g.events[k])), (ah.set k (Ylv g (g.events[k].prev.map (behI A))), bh.set k (Ymm g (Ylv g (g.events[k].prev.map (behI A))) g.events[k]), cd.set k (Yml g (Ylv g (g.events[k].prev.map (behI A))) g.events[k])), ?_, s2, by simp [la], by simp [lb], by simp [lc], ?_⟩
  ·
   simp only [Zg1]
   rw [dlt hio, Wu, Ygk hio, Wb, c_at _ _ hr.fits.up (by omega), hevat, Wb]
   simp only [Option.getD_some]
   rw [s1, Wb, Ygl hio (by omega)]
  ·
   intro e hem het
   have hself : ∀ p ∈ g.events[k].prev, p ≠ g.events[k].id := fun p hp => ((hr.ev _ he).prev.2.1 p hp).2.2
   have hpk := (hr.fits.up.plc hk).1
   by_cases hek : e = g.events[k]
   ·
    subst hek
    have e1 : g.events[k].prev.map (behI (mset A g.events[k].id (Ymm g (Ylv g (g.events[k].prev.map (behI A))) g.events[k]))) = g.events[k].prev.map (behI A) := List.map_congr_left fun p hp => Ymt (hself p hp)
    refine ⟨?_, ?_, ?_, ?_, ?_, ?_, ?_⟩
    ·
     simp only [e1]; exact hsok
    ·
     simp only [e1]; rw [Y6l, if_pos rfl]
    ·
     simp only [e1]; rw [Y6l, if_pos rfl]
    ·
     simp only [e1]; rw [Y6l, if_pos rfl]
    ·
     simp only [e1]; rw [hpk, Ymr (by omega), if_pos rfl]
    ·
     simp only [e1]; rw [hpk, Ymr (by omega), if_pos rfl]
    ·
     simp only [e1]; rw [hpk, Ymr (by omega), if_pos rfl]
   ·
    have hne : e.id ≠ g.events[k].id := fun h => hek (by
     obtain ⟨j, hj, rfl⟩ := List.mem_iff_getElem.1 hem
     obtain rfl := hr.fits.up.inj hj hk h
     rfl)
    have het' : e.id ∈ (Yjb g.events).take i := by
     rw [List.take_add_one, We hio, hid] at het
     rcases List.mem_append.1 het with h | h
     ·
      exact h
     ·
      simp at h; exact absurd h hne
    obtain ⟨j, hj, hji, hje⟩ := Yiq het'
    have hpn : ∀ p ∈ e.prev, p ≠ g.events[k].id := fun p hp hpe => by
     have h1 := Ymj hr.fits hr.deep hj (e := e) (by rw [hje]; exact hr.fits.up.evAt_mem hem) hp
     obtain ⟨u, hu, huj, hue⟩ := Yiq h1
     have : u = i := by
      have hnd := Ymh hr.fits
      exact (List.getElem_inj (h₀ := hu) (h₁ := hio) hnd).1 (by rw [hue, hpe, hid])
     omega
    have e1 : e.prev.map (behI (mset A g.events[k].id (Ymm g (Ylv g (g.events[k].prev.map (behI A))) g.events[k]))) = e.prev.map (behI A) := List.map_congr_left fun p hp => Ymt (hpn p hp)
    have hK := hI e hem het'
    obtain ⟨ke, hke, hkp, _, _⟩ := Yhk (Yhm hem)
    have hkk : ke ≠ k := fun h => by
     subst h
     have := hr.fits.up.plc hke
     obtain ⟨j2, hj2, hje2⟩ := List.mem_iff_getElem.1 hem
     have h3 := (hr.fits.up.plc hj2).1
     rw [hje2, hkp] at h3
     have : j2 = ke := by omega
     subst this
     exact hek hje2.symm
    refine ⟨?_, ?_, ?_, ?_, ?_, ?_, ?_⟩
    ·
     simp only [e1]; exact hK.ok
    ·
     simp only [e1]; rw [Y6l, if_neg hne]; exact hK.mB
    ·
     simp only [e1]; rw [Y6l, if_neg hne]; exact hK.mR
    ·
     simp only [e1]; rw [Y6l, if_neg hne]; exact hK.mA
    ·
     simp only [e1]; rw [hkp, Ymr (by omega), if_neg hkk, ← hkp]; exact hK.ga
    ·
     simp only [e1]; rw [hkp, Ymr (by omega), if_neg hkk, ← hkp]; exact hK.gc
    ·
     simp only [e1]; rw [hkp, Ymr (by omega), if_neg hkk, ← hkp]; exact hK.gb) (by
  rintro ⟨B, A, R⟩ ⟨ah, bh, cd⟩ ⟨la, lb, lc, hI⟩
  simp only at la lb lc hI
  refine ⟨(B, A, R), (ah, bh, cd), ?_, ?_, la, lb, lc, fun e he => hI e he ?_⟩
  ·
   simp only [Zg1]
   rw [hol, dnlt, Wv]
  ·
   simp only [Z6d]
   rw [dnlt, Wv]
  ·
   rw [List.take_of_length_le (by omega)]
   exact (Ymg hr.fits).2 (List.mem_map.2 ⟨e, he, rfl⟩)) (s := ([], [], [])) (t := (List.replicate g.events.length [], List.replicate g.events.length [], List.replicate g.events.length 0)) ⟨by simp, by simp, by simp, fun e _ h => by simp at h⟩
 simp only at q1 q2 la lb lc hall
 refine ⟨Ya3.mk g m B A R, Ya0.mk (Yi2 g.events) ah bh cd, ?_, ?_, rfl, hm2, rfl, la, lb, lc, hall⟩
 ·
  unfold Zg4
  rw [Yif hr.fits, Wb, hm1, Wb]
  simp only [Zg2, Zg0]
  rw [Yjf hr.fits, Wb, q1]; rfl
 ·
  unfold Z6f
  rw [e0, Wb, Y4w (Wt ⟨by omega, by omega⟩), Wb, Wb, Y4w (Wt ⟨by omega, by omega⟩), Wb]
  simp only [Z6e, Z66, Int.toNat_natCast]
  rw [Yjn hr.fits hr.deep, Wb, q2]; rfl
end Go.Proofs.YtmaefakalikkiaaGreat
namespace Go.Proofs.YtmaefakalikkiaaGreat
open Go Go.Abs

def refB (h : Ya3) (id : Int) : Bool := decide (Option.getD (mget h.refused id) 0 = 0)

theorem Both.code {g : Y9w} {h : Ya3} {w : Ya0} (hb : Both g h w) {e : Y9r} (he : e ∈ g.events) : ∃ c, getI w.code (plc g.events e.id) = some c ∧ Option.getD (mget h.refused e.id) 0 = c := by
 have hk := hb.all e he
 exact ⟨_, hk.gc, by rw [hk.mR]; rfl⟩
theorem Both.behind {g : Y9w} {h : Ya3} {w : Ya0} (hb : Both g h w) (hr : Ymp g) {e : Y9r} (he : e ∈ g.events) : getI w.behind (plc g.events e.id) = some (behI h.after e.id) ∧ StOk g.events (behI h.after e.id) := by
 have hk := hb.all e he
 have e1 : behI h.after e.id = Ymm g (Ylv g (e.prev.map (behI h.after))) e := by
  show Option.getD (mget h.after e.id) [] = _
  rw [hk.mA]; rfl
 rw [e1]
 exact ⟨hk.gb, Ymn hr.fits.up hk.ok he⟩
theorem Both.ahead {g : Y9w} {h : Ya3} {w : Ya0} (hb : Both g h w) {e : Y9r} (he : e ∈ g.events) : getI w.ahead (plc g.events e.id) = some (behI h.before e.id) ∧ StOk g.events (behI h.before e.id) := by
 have hk := hb.all e he
 have e1 : behI h.before e.id = Ylv g (e.prev.map (behI h.after)) := by
  show Option.getD (mget h.before e.id) [] = _
  rw [hk.mB]; rfl
 rw [e1]
 exact ⟨hk.ga, hk.ok⟩

theorem Ymp.sts {g : Y9w} (hr : Ymp g) {s : List Y9z} (hs : StOk g.events s) : Sts g s := (Mrg.mk (ls := []) hr.fits hr.ev hr.deep (fun s hs => by cases hs) (by simp)).sts hs

end Go.Proofs.YtmaefakalikkiaaGreat
namespace Go.Proofs.YtmaefakalikkiaaGreat
open Go Go.Abs


theorem Ymv (p : List Int) (n : Int) (hp : p.length ≤ maxLen) (h0 : 0 ≤ n) (hn : n ≤ 1048576) : ∃ r, Z1 p n = some r ∧ ((0 ≤ r ∧ r ≤ n ∧ p.length ≤ 1048576) ∨ r = -1) := by
 simp only [maxLen] at hp
 unfold Z1
 rw [Y4v (by omega) (by omega)]
 by_cases h : n - (p.length : Int) < 0
 ·
  rw [Wt h]; exact ⟨_, rfl, .inr rfl⟩
 ·
  rw [Wf h]; exact ⟨_, rfl, .inl ⟨by omega, by omega, by omega⟩⟩

structure EvIn (e : Y9r) : Prop where
 text : e.text.size ≤ maxLen
 prev : e.prev.length ≤ maxLen

theorem Ymw (e : Y9r) (n : Int) (he : EvIn e) (h0 : 0 ≤ n) (hn : n ≤ 1048576) : ∃ r, Z3 e n = some r ∧ ((0 ≤ r ∧ r ≤ n ∧ e.prev.length ≤ 1048576 ∧ e.text.size ≤ 1048576) ∨ r = -1) := by
 have ht := he.text
 simp only [maxLen] at ht
 unfold Z3
 rw [Y4v (by omega) (by omega)]
 by_cases h : n - (e.text.size : Int) < 0
 ·
  rw [Wt h]; exact ⟨_, rfl, .inr rfl⟩
 ·
  rw [Wf h, Wv]
  obtain ⟨r, h1, h2⟩ := Ymv e.prev (n - (e.text.size : Int)) he.prev (by omega) (by omega)
  rw [h1, Wb]
  rcases h2 with ⟨h2, h3, h4⟩ | rfl
  ·
   rw [Wf (by omega)]; exact ⟨_, rfl, .inl ⟨h2, by omega, h4, by omega⟩⟩
  ·
   exact ⟨_, rfl, .inr rfl⟩

def Ymx (l : List Y9r) : Prop := l.length ≤ 1048576 ∧ ∀ e ∈ l, e.prev.length ≤ 1048576 ∧ e.text.size ≤ 1048576

theorem Ymy (p : List Y9r) (n : Int) (hl : p.length ≤ maxLen) (hp : ∀ e ∈ p, EvIn e) (h0 : 0 ≤ n) (hn : n ≤ 1048576) : ∃ r, Z7 p n = some r ∧ ((0 ≤ r ∧ r + p.length ≤ n ∧ Ymx p) ∨ r = -1) := by
 simp only [maxLen] at hl
 unfold Z7
 rw [Y4v (by omega) (by omega)]
 by_cases h : n - (p.length : Int) < 0
 ·
  rw [Wt h]; exact ⟨_, rfl, .inr rfl⟩
 ·
  rw [Wf h, Wv]
  obtain ⟨o, h1, h2⟩ := Ygj (τ := Int × Int) (ω := Int ⊕ Int) (σ := Int) (step := fun z : Int × Int => Z6 p z.1 z.2) (n := p.length) (fun s j => (s, j))
   (fun i s => 0 ≤ s ∧ s + p.length ≤ n ∧ ∀ (j : Nat) (hj : j < p.length), j < i → p[j].prev.length ≤ 1048576 ∧ p[j].text.size ≤ 1048576) (fun o => o = .inl (-1) ∨ ∃ r, o = .inr r ∧ 0 ≤ r ∧ r + p.length ≤ n ∧ Ymx p) (by omega) (by
   rintro i s hi ⟨hs0, hsn, hI⟩
   obtain ⟨r, e1, e2⟩ := Ymw p[i] s (hp _ (Wm hi)) hs0 (by omega)
   simp only [Z6]
   rw [dlt hi, Wu, Ygk hi, Wb, e1, Wb, Ygl hi (by omega)]
   rcases e2 with ⟨e2, e3, e4⟩ | rfl
   ·
    rw [Wf (by omega), Wv]
    refine .inl ⟨r, rfl, e2, by omega, fun j hj hji => ?_⟩
    rcases Nat.lt_or_ge j i with h | h
    ·
     exact hI j hj h
    ·
     obtain rfl : j = i := by omega
     exact e4
   ·
    exact .inr ⟨_, rfl, .inl rfl⟩) (by
   rintro s ⟨hs0, hsn, hI⟩
   simp only [Z6]
   rw [dnlt, Wv]
   refine ⟨_, rfl, .inr ⟨s, rfl, hs0, hsn, by omega, fun e he => ?_⟩⟩
   obtain ⟨j, hj, rfl⟩ := List.mem_iff_getElem.1 he
   exact hI j hj hj) (s := n - (p.length : Int)) ⟨by omega, by omega, fun j hj h => by omega⟩
  rw [h1, Wb]
  rcases h2 with rfl | ⟨r, rfl, h3⟩
  ·
   exact ⟨_, rfl, .inr rfl⟩
  ·
   exact ⟨_, rfl, .inl h3⟩

structure GIn (g : Y9s) : Prop where
 el : g.events.length ≤ maxLen
 pl : g.parked.length ≤ maxLen
 ev : ∀ e ∈ g.events, EvIn e
 pv : ∀ e ∈ g.parked, EvIn e

theorem Ymz (g : Y9s) (n : Int) (hg : GIn g) (h0 : 0 ≤ n) (hn : n ≤ 1048576) : ∃ r, Z9 g n = some r ∧ ((0 ≤ r ∧ r + (g.events.length + g.parked.length : Nat) ≤ n ∧ Ymx g.events ∧ Ymx g.parked) ∨ r = -1) := by
 unfold Z9
 obtain ⟨r, h1, h2⟩ := Ymy g.events n hg.el hg.ev h0 hn
 rw [h1, Wb]
 rcases h2 with ⟨h2, h3, h4⟩ | rfl
 ·
  rw [Wf (by omega), Wv]
  obtain ⟨r', h5, h6⟩ := Ymy g.parked r hg.pl hg.pv h2 (by omega)
  rw [h5, Wb]
  rcases h6 with ⟨h6, h7, h8⟩ | rfl
  ·
   rw [Wf (by omega)]; exact ⟨_, rfl, .inl ⟨h6, by omega, h4, h8⟩⟩
  ·
   exact ⟨_, rfl, .inr rfl⟩
 ·
  exact ⟨_, rfl, .inr rfl⟩


theorem Yn0 {α β : Type} {xs : List α} {z : β} (f : α → β) {step : List β × Int → Option ((List β × Int) ⊕ List β)} (hl : xs.length < 9223372036854775807)
  (h1 : ∀ (i : Nat) (s : List β) (hi : i < xs.length), s.length = xs.length → step (s, (i : Int)) = some (.inl (s.set i (f xs[i]), ((i + 1 : Nat) : Int)))) (h2 : ∀ s : List β, step (s, (xs.length : Int)) = some (.inr s)) :
  iter step big (List.replicate xs.length z, 0) = some (xs.map f) := by
 obtain ⟨o, e1, rfl⟩ := Ygi (τ := List β × Int) (ω := List β) (σ := List β) (step := step) (n := xs.length) (fun s j => (s, j)) (fun i s => s = (xs.take i).map f ++ List.replicate (xs.length - i) z) (fun o => o = xs.map f) hl (by
  rintro i s hi rfl
  refine ⟨_, h1 i _ hi (by simp; omega), ?_⟩
  have e0 : List.replicate (xs.length - i) z = z :: List.replicate (xs.length - (i + 1)) z := by
   rw [show xs.length - i = (xs.length - (i + 1)) + 1 by omega, List.replicate_succ]
  have e1 : xs.take (i + 1) = xs.take i ++ [xs[i]] := by rw [List.take_add_one, We hi]; rfl
  rw [e0, Yih (X := (xs.take i).map f) (u := z) (Y := List.replicate (xs.length - (i + 1)) z) rfl (by simp; omega), e1, List.map_append, List.append_assoc]
  rfl) (by
  rintro s rfl
  exact ⟨_, h2 _, by simp⟩) (s := List.replicate xs.length z) (by simp)
 exact e1

theorem Yn1 (p : List Int) (hp : p.length ≤ 1048576) : Zx p = some p := by
 unfold Zx
 rw [Y4w (Wt ⟨by omega, by omega⟩), Wb, Int.toNat_natCast]
 rw [Yn0 (xs := p) (fun x => x) (by omega) (fun i s hi hs => by
  simp only [Zw]
  rw [dlt hi, Wu, Ygk hi, Wb, Ygk (by omega : i < s.length), Wb, Ygl hi (by omega), Int.toNat_natCast]) (fun s => by simp only [Zw]; rw [dnlt, Wv])]
 simp [Zv]

theorem Yn2 (e : Y9r) (hp : e.prev.length ≤ 1048576) : Zz e = some e := by
 unfold Zz
 rw [Yn1 _ hp]; rfl

theorem Yn3 (p : List Y9r) (hp : Ymx p) : Z13 p = some p := by
 have hl := hp.1
 unfold Z13
 rw [Y4w (Wt ⟨by omega, by omega⟩), Wb, Int.toNat_natCast]
 rw [Yn0 (xs := p) (fun x => x) (by omega) (fun i s hi hs => by
  simp only [Z12]
  rw [dlt hi, Wu, Ygk hi, Wb, Yn2 _ (hp.2 _ (Wm hi)).1, Wb, Ygk (by omega : i < s.length), Wb, Ygl hi (by omega), Int.toNat_natCast]) (fun s => by simp only [Z12]; rw [dnlt, Wv])]
 simp [Z11]

def toG (g : Y9s) : Y9w := Y9w.mk g.room g.events g.parked
theorem Yn4 (g : Y9s) (he : Ymx g.events) (hp : Ymx g.parked) : Z16 g = some (toG g) := by
 unfold Z16
 rw [Yn3 _ he, Wb, Yn3 _ hp]; rfl

theorem Yn5 {g : Y9s} (he : Ymx g.events) (hp : Ymx g.parked) : Fine (toG g) := ⟨he.1, hp.1, fun e h => (he.2 e h).1, fun e h => (hp.2 e h).1⟩


theorem Yn6 (p : List Int) (hp : p.length ≤ 1048576) : Zif p p = some true := by
 unfold Zif
 rw [bned, Wt rfl]
 simp only [Bool.not_true, Wv]
 rw [Yh0 (l := p) (fun _ => true) (.inl false) (.inr ()) (by omega) (fun i hi => by
  simp only [Zie]
  rw [dlt hi, Wu, Ygk hi, Wb, Wb, bned, Wt rfl, Ygl hi (by omega)]; rfl) (by simp only [Zie]; rw [dnlt, Wv])]
 rw [show (p.all fun _ => true) = true by simp]; rfl

theorem Yn7 (e : Y9r) (hp : e.prev.length ≤ 1048576) : Zih e e = some true := by
 unfold Zih
 rw [Yn6 _ hp]
 simp

theorem Yn8 (p : List Y9r) (hp : Ymx p) : Zil p p = some true := by
 have hl := hp.1
 unfold Zil
 rw [bned, Wt rfl]
 simp only [Bool.not_true, Wv]
 rw [Yh0 (l := p) (fun _ => true) (.inl false) (.inr ()) (by omega) (fun i hi => by
  simp only [Zik]
  rw [dlt hi, Wu, Ygk hi, Wb, Wb, Yn7 _ (hp.2 _ (Wm hi)).1, Wb, Ygl hi (by omega)]; rfl) (by simp only [Zik]; rw [dnlt, Wv])]
 rw [show (p.all fun _ => true) = true by simp]; rfl

theorem Yn9 (g : Y9w) (he : Ymx g.events) (hp : Ymx g.parked) : Zin g g = some true := by
 unfold Zin
 rw [Yn8 _ he, Yn8 _ hp]
 simp


def Yna (n : Int) : Nat → List Int
 | 0 => []
 | k + 1 => n :: Yna (n + 1) k
theorem Ynb : ∀ (k : Nat) (n : Int), (Yna n k).length = k
 | 0, _ => rfl
 | k + 1, n => by simp [Yna, Ynb k]
theorem Ync : ∀ (k : Nat) (n : Int) (i : Nat) (hi : i < (Yna n k).length), (Yna n k)[i] = n + i
 | 0, _, i, hi => by simp [Yna] at hi
 | k + 1, n, 0, hi => by simp [Yna]
 | k + 1, n, i + 1, hi => by
  simp only [Yna, List.getElem_cons_succ]
  rw [Ync k]; omega
theorem Ynd : ∀ (k : Nat) (n : Int), Yna n (k + 1) = Yna n k ++ [n + k]
 | 0, n => by simp [Yna]
 | k + 1, n => by
  rw [Yna, Ynd k (n + 1)]
  simp [Yna]; omega

theorem Yne (p : List Int) (n : Int) (hp : p.length ≤ 1048576) (h0 : 0 ≤ n) (hn : n ≤ 1000000000000000) : Zjl p n = some (n + p.length, Yna n p.length) := by
 unfold Zjl
 obtain ⟨o, e1, rfl⟩ := Ygi (τ := List Int × Int × Int) (ω := Int × List Int) (σ := List Int × Int) (step := fun z : List Int × Int × Int => Zjk z.1 z.2.1 z.2.2) (n := p.length) (fun s j => (s.1, s.2, j)) (fun i s => s = (Yna n i ++ p.drop i, n + i)) (fun o => o = (n + p.length, Yna n p.length)) (by omega) (by
  rintro i s hi rfl
  have e0 : p.drop i = p[i] :: p.drop (i + 1) := List.drop_eq_getElem_cons hi
  generalize hR : p.drop (i + 1) = R at e0
  generalize p[i] = u at e0
  refine ⟨(Yna n (i + 1) ++ R, n + i + 1), ?_, by simp; omega⟩
  have hlen : (Yna n i ++ p.drop i).length = p.length := by rw [List.length_append, Ynb, List.length_drop]; omega
  simp only [Zjk]
  rw [hlen, dlt hi, Wu, e0, Yig (X := Yna n i) (u := u) (Y := R) rfl (Ynb i n).symm, Wb, Int.toNat_natCast, Yih (X := Yna n i) (u := u) (Y := R) rfl (Ynb i n).symm, Ygl hi (by omega), Y4v (by omega) (by omega), Ynd]
  simp) (by
  rintro s rfl
  simp only [Zjk]
  rw [show (Yna n p.length ++ p.drop p.length).length = p.length by simp [Ynb], dnlt, Wv]
  exact ⟨_, rfl, by simp⟩) (s := (p, n)) (by simp [Yna])
 rw [e1, Wb]; rfl

theorem Ynf (k : Nat) (n : Int) (hk : k ≤ 1048576) (h0 : 0 ≤ n) (hn : n ≤ 1000000000000000) : Zkg (Yna n k) n = some (n + k) := by
 unfold Zkg
 obtain ⟨o, e1, rfl⟩ := Ygi (τ := Int × Int) (ω := Int ⊕ Int) (σ := Int) (step := fun z : Int × Int => Zkf (Yna n k) z.1 z.2) (n := k) (fun s j => (s, j)) (fun i s => s = n + i) (fun o => o = .inr (n + k)) (by omega) (by
  rintro i s hi rfl
  refine ⟨n + i + 1, ?_, by omega⟩
  simp only [Zkf, Ynb]
  have hi' : i < (Yna n k).length := by rw [Ynb]; exact hi
  rw [dlt hi, Wu, Ygk hi', Wb, Ync, bned, Wt rfl, Ygl hi (by omega), Y4v (by omega) (by omega)]; rfl) (by
  rintro s rfl
  simp only [Zkf, Ynb]
  rw [dnlt, Wv]
  exact ⟨_, rfl, rfl⟩) (s := n) (by simp)
 rw [e1, Wb]; rfl

theorem Yng (n : Int) (h0 : 0 ≤ n) (hn : n ≤ 1000000000000000) : ∃ t, Zjh n = some t := by
 unfold Zjh
 by_cases h : n ≤ 0
 ·
  rw [Wt h]; exact ⟨_, rfl⟩
 ·
  rw [Wf h, Wv]
  obtain ⟨o, e1, e2⟩ := Y4y (step := fun z : Int × ByteArray => Zjg z.1 z.2) (p := fun o : ByteArray => (o.size : Int) ≤ 1000000000000000) (fun m (z : Int × ByteArray) => 0 ≤ z.1 ∧ z.1 + z.2.size ≤ 1000000000000000 ∧ m = z.1.toNat) (by
   rintro m ⟨x, t⟩ ⟨hx, hs, rfl⟩
   simp only at hx hs
   simp only [Zjg]
   by_cases hp : x > 0
   ·
    right
    have hsz : ∀ k : Int, (Y7c [k]).size = 1 := fun k => rfl
    have hd : 0 ≤ Int.tdiv x 10 ∧ Int.tdiv x 10 < x := by
     rw [Int.tdiv_eq_ediv_of_nonneg hx]; omega
    rw [Wt hp, Wu, Y4w (Wt (by rw [hsz]; omega)), Wb, Y4v (n := Int.tdiv x 10) (by omega) (by omega)]
    refine ⟨_, (Int.tdiv x 10).toNat, rfl, by omega, hd.1, ?_, rfl⟩
    simp only [ByteArray.size_append, hsz]; omega
   ·
    left
    rw [Wf hp, Wv]
    exact ⟨_, rfl, by omega⟩) big n.toNat (n, ByteArray.empty) ⟨h0, by simp; omega, rfl⟩ (Ygf (by omega))
  rw [e1, Wb]
  unfold Zjf
  rw [Y4w (Wt (by show 1 + o.size ≤ _; omega))]
  exact ⟨_, rfl⟩

theorem Ynh {α : Type} {l : List α} {k : Nat} {v : α} (hk : k < l.length) : getI (l.set k v) (k : Int) = some v := by rw [Ymr hk, if_pos rfl]

end Go.Proofs.YtmaefakalikkiaaGreat
namespace Go.Proofs.YtmaefakalikkiaaGreat
open Go Go.Abs


def accT (l : List Y9r) (T : Int → Bool) : List Int := (l.map (·.id)).filter T
def endT (l : List Y9r) (T : Int → Bool) (x : Int) : Bool := (accT l T).all fun id => !decide (x ∈ (evD l id).prev)
def endsT (l : List Y9r) (T : Int → Bool) : List Int := (accT l T).filter (endT l T)

theorem Yni {l : List Y9r} (h : Up2 l) : UpI (l.map (·.id)) := by
 show (l.map (·.id)).Pairwise (· < ·)
 rw [List.pairwise_map]; exact h

theorem Ynj {h : Ya3} (hr : Ymp h.graph) : Zg9 h = some (accT h.graph.events (refB h)) := by
 have hfl := hr.fits.len
 unfold Zg9
 have := Yh1 (l := h.graph.events) (step := fun z : List Int × Int => Zg8 h z.1 z.2) (fun q j => (q, j)) (fun q => q) (fun q e => if refB h e.id = true then q ++ [e.id] else q) (fun i q => q.length ≤ i) (by omega) (fun i q hi hq => by
  refine ⟨?_, by split <;> first | omega | (rw [List.length_append, List.length_singleton]; omega)⟩
  simp only [Zg8, Zg7]
  rw [dlt hi, Wu, Ygk hi, Wb, Ygl hi (by omega), chk8 (by simp; omega), beqd]
  unfold refB
  by_cases hc : Option.getD (mget h.refused h.graph.events[i].id) 0 = 0
  ·
   rw [Wt hc]; rfl
  ·
   rw [Wf hc]; rfl)
  (fun q _ => by simp only [Zg8]; rw [dnlt, Wv]) (s := []) (by simp)
 rw [this.1, Wb]
 have key : ∀ (l : List Y9r) (q : List Int), l.foldl (fun q e => if refB h e.id = true then q ++ [e.id] else q) q = q ++ (l.map (·.id)).filter (refB h) := by
  intro l
  induction l with
  | nil => intro q; simp
  | cons e l ih =>
   intro q
   rw [List.foldl_cons, ih]
   cases hc : refB h e.id with
   | true => rw [if_pos rfl, List.map_cons, List.filter_cons_of_pos hc]; simp
   | false => rw [if_neg (by simp), List.map_cons, List.filter_cons_of_neg (by simp [hc])]
 rw [key]; rfl

theorem Ynk {l : List Y9r} (hf : Fits l) (T : Int → Bool) : UpI (accT l T) := (Yni hf.up).filter _
theorem Ynl {l : List Y9r} (hf : Fits l) (T : Int → Bool) : (accT l T).length ≤ 60 := by
 have := List.length_filter_le T (l.map (·.id))
 rw [List.length_map] at this
 have := hf.len
 unfold accT; omega
theorem Ynm {l : List Y9r} {T : Int → Bool} {id : Int} (hi : id ∈ endsT l T) : id ∈ l.map (·.id) := (List.mem_filter.1 (List.mem_filter.1 hi).1).1
theorem Ynn {l : List Y9r} (hf : Fits l) (T : Int → Bool) : (endsT l T).length ≤ 60 := Nat.le_trans (List.length_filter_le _ _) (Ynl hf T)

def Yno (l : List Y9r) (T : Int → Bool) : List Bool := l.map fun e => T e.id

theorem Ynp {g : Y9w} {h : Ya3} {w : Ya0} (hb : Both g h w) (hr : Ymp g) : w.code.map (fun c => decide (c = 0)) = Yno h.graph.events (refB h) := by
 unfold Yno
 rw [hb.graph]
 refine List.ext_getElem (by simp [hb.lc]) fun i h1 h2 => ?_
 simp only [List.length_map] at h1 h2
 simp only [List.getElem_map]
 obtain ⟨c, k1, k2⟩ := hb.code (Wm h2)
 rw [(hr.fits.up.plc h2).1, Ygk h1] at k1
 cases k1
 unfold refB
 rw [k2]

theorem Ynq {w : Ya0} {step : List Bool × Int → Option ((List Bool × Int) ⊕ List Bool)} (hl : w.code.length < 1000000)
  (h1 : ∀ (l : List Bool) (i : Nat), step (l, (i : Int)) = cond (decide ((i : Int) < (l.length : Int))) ((getI w.code (i : Int)).bind fun e12 => (getI l (i : Int)).bind fun e14 => some (.inl ((List.set l (Int.toNat (i : Int)) (e12 == 0)), (IntKind.i64.wrap ((i : Int) + 1))))) (some (.inr l))) :
  iter step big (List.replicate w.code.length false, 0) = some (w.code.map fun c => decide (c = 0)) := by
 obtain ⟨o, e1, rfl⟩ := Ygi (τ := List Bool × Int) (ω := List Bool) (σ := List Bool) (step := step) (n := w.code.length) (fun s j => (s, j)) (fun i s => s = (w.code.take i).map (fun c => decide (c = 0)) ++ List.replicate (w.code.length - i) false) (fun o => o = w.code.map fun c => decide (c = 0)) (by omega) (by
  rintro i s hi rfl
  have e0 : List.replicate (w.code.length - i) false = false :: List.replicate (w.code.length - (i + 1)) false := by
   rw [show w.code.length - i = (w.code.length - (i + 1)) + 1 by omega, List.replicate_succ]
  have etk : w.code.take (i + 1) = w.code.take i ++ [w.code[i]] := by rw [List.take_add_one, We hi]; rfl
  refine ⟨_, ?_, rfl⟩
  rw [h1, Wt (by simp; omega), Wu, Ygk hi, Wb, e0, Yig (X := (w.code.take i).map fun c => decide (c = 0)) rfl (by simp; omega), Wb, Int.toNat_natCast, Yih (X := (w.code.take i).map fun c => decide (c = 0)) rfl (by simp; omega), Ygl hi (by omega), etk, beqd, List.map_append, List.append_assoc]
  rfl) (by
  rintro s rfl
  refine ⟨_, ?_, rfl⟩
  rw [h1, Wf (by simp), Wv]
  simp) (s := List.replicate w.code.length false) (by simp)
 exact e1

theorem Ynr {α β : Type} (f : α → β) {l : List α} {i : Nat} (hi : i < l.length) : getI (l.map f) (i : Int) = some (f l[i]) := by
 rw [Ygk (by simpa using hi)]; simp

theorem Yns {g : Y9w} (hr : Ymp g) (T : Int → Bool) : Z6q g (Yno g.events T) = some (endsT g.events T) := by
 have hfl := hr.fits.len
 unfold Z6q
 -- whether one stands behind an event
 have inner1 : ∀ (i k : Nat) (hi : i < g.events.length) (hk : k < g.events.length) (b : Bool), iter (fun z : Bool × Int => Z6n g (Yno g.events T) (i : Int) (k : Int) z.1 z.2) big (b, 0) = some (b && (!T g.events[k].id || !decide (g.events[i].id ∈ g.events[k].prev))) := by
  intro i k hi hk b
  have hpl := hr.fits.plen _ (Wm hk)
  have ht : getI (Yno g.events T) (k : Int) = some (T g.events[k].id) := Ynr _ hk
  cases hrk : T g.events[k].id with
  | false =>
   rw [Y4z (o := b) (fun m (z : Bool × Int) => z = (b, 0)) ?_ (m := 0) rfl (Ygf (by omega))]
   ·
    simp
   ·
    rintro m z rfl
    left
    simp only [Z6n, Z6m]
    rw [ht, Wb, hrk]; rfl
  | true =>
   have := Yh1 (l := g.events[k].prev) (step := fun z : Bool × Int => Z6n g (Yno g.events T) (i : Int) (k : Int) z.1 z.2) (fun q j => (q, j)) (fun q => q) (fun q p => q && !decide (p = g.events[i].id)) (fun _ _ => True) hpl (fun j q hj _ => by
    refine ⟨?_, trivial⟩
    simp only [Z6n, Z6m, Z6l]
    rw [ht, Wb, hrk, Wu, Ygk hk, Wb, dlt hj, Wu, Ygk hi, Ygl hj hpl]
    cases q with
    | false => rfl
    | true =>
     simp only [Wu, Wb]
     rw [Ygk hj, Wb, bned]; rfl)
    (fun q _ => by
     simp only [Z6n, Z6m]
     rw [ht, Wb, hrk, Wu, Ygk hk, Wb, dnlt, Wv]) (s := b) trivial
   rw [this.1]
   congr 1
   have key : ∀ (ps : List Int) (q : Bool), ps.foldl (fun q p => q && !decide (p = g.events[i].id)) q = (q && !decide (g.events[i].id ∈ ps)) := by
    intro ps
    induction ps with
    | nil => intro q; simp
    | cons p ps ih =>
     intro q
     rw [List.foldl_cons, ih]
     by_cases hp : p = g.events[i].id
     ·
      simp [hp]
     ·
      simp [hp, show ¬ g.events[i].id = p from fun h => hp h.symm]
   rw [key]; simp
 have inner2 : ∀ (i : Nat) (hi : i < g.events.length) (b : Bool), iter (fun z : Bool × Int => Z6o g (Yno g.events T) (i : Int) z.1 z.2) big (b, 0) = some (b && endT g.events T g.events[i].id) := by
  intro i hi b
  have := Yh1 (l := g.events) (step := fun z : Bool × Int => Z6o g (Yno g.events T) (i : Int) z.1 z.2) (fun q j => (q, j)) (fun q => q) (fun q e => q && (!T e.id || !decide (g.events[i].id ∈ e.prev))) (fun _ _ => True) (by omega) (fun k q hk _ => by
   refine ⟨?_, trivial⟩
   simp only [Z6o]
   rw [dlt hk, Wu, inner1 i k hi hk, Wb]
   simp only [Z6k]
   rw [Ygl hk (by omega)])
   (fun q _ => by simp only [Z6o]; rw [dnlt, Wv]) (s := b) trivial
  rw [this.1]
  congr 1
  have key : ∀ (l : List Y9r) (q : Bool), l.foldl (fun q e => q && (!T e.id || !decide (g.events[i].id ∈ e.prev))) q = (q && l.all fun e => (!T e.id || !decide (g.events[i].id ∈ e.prev))) := by
   intro l
   induction l with
   | nil => intro q; simp
   | cons e l ih => intro q; rw [List.foldl_cons, ih, List.all_cons, Bool.and_assoc]
  rw [key]
  congr 1
  unfold endT accT
  rw [Bool.eq_iff_iff, List.all_eq_true, List.all_eq_true]
  constructor
  ·
   intro h1 id hid
   obtain ⟨h2, h3⟩ := List.mem_filter.1 hid
   obtain ⟨_, e2, e3⟩ := Ylr h2 hr.fits.up
   have := h1 _ e2
   rw [e3, h3] at this
   simpa using this
  ·
   intro h1 e he
   cases h3 : T e.id with
   | false => rfl
   | true =>
    have := h1 e.id (List.mem_filter.2 ⟨List.mem_map.2 ⟨e, he, rfl⟩, h3⟩)
    have e1 : evD g.events e.id = e := by unfold evD; rw [hr.fits.up.evAt_mem he]; rfl
    rw [e1] at this
    simpa using this
 have := Yh1 (l := g.events) (step := fun z : List Int × Int => Z6p g (Yno g.events T) z.1 z.2) (fun q j => (q, j)) (fun q => q) (fun q e => if (T e.id && endT g.events T e.id) = true then q ++ [e.id] else q) (fun i q => q.length ≤ i) (by omega) (fun i q hi hq => by
  refine ⟨?_, by split <;> first | omega | (rw [List.length_append, List.length_singleton]; omega)⟩
  have ht : getI (Yno g.events T) (i : Int) = some (T g.events[i].id) := Ynr _ hi
  simp only [Z6p]
  rw [dlt hi, Wu, ht, Wb, inner2 i hi, Wb]
  simp only [Z6j, Z6i]
  rw [Ygk hi, Ygl hi (by omega), Wb, chk8 (by simp; omega)]
  cases (T g.events[i].id && endT g.events T g.events[i].id) <;> rfl)
  (fun q _ => by simp only [Z6p]; rw [dnlt, Wv]) (s := []) (by simp)
 rw [this.1, Wb]
 simp only [Z6h]
 congr 1
 unfold endsT accT
 rw [List.filter_filter]
 have key : ∀ (l : List Y9r) (q : List Int), l.foldl (fun q e => if (T e.id && endT g.events T e.id) = true then q ++ [e.id] else q) q = q ++ (l.map (·.id)).filter fun x => endT g.events T x && T x := by
  intro l
  induction l with
  | nil => intro q; simp
  | cons e l ih =>
   intro q
   rw [List.foldl_cons, ih]
   cases hc : T e.id && endT g.events T e.id with
   | true => rw [if_pos rfl, List.map_cons, List.filter_cons_of_pos (by rw [Bool.and_comm]; exact hc)]; simp
   | false => rw [if_neg (by simp), List.map_cons, List.filter_cons_of_neg (by rw [Bool.and_comm, hc]; simp)]
 rw [key]; rfl


def nowT (g : Y9w) (h : Ya3) (T : Int → Bool) : List Y9z := Ylv g ((endsT g.events T).map (behI h.after))

theorem Both.endsT {g : Y9w} {h : Ya3} {w : Ya0} (hb : Both g h w) (hr : Ymp g) (T : Int → Bool) : Mrg g ((endsT g.events T).map (behI h.after)) := by
 refine ⟨hr.fits, hr.ev, hr.deep, fun s hs => ?_, by have := Ynn hr.fits T; simp; omega⟩
 obtain ⟨id, hid, rfl⟩ := List.mem_map.1 hs
 have hm := Ynm hid
 obtain ⟨_, e2, e3⟩ := Ylr hm hr.fits.up
 have := (hb.behind hr e2).2
 rwa [e3] at this

theorem Ynt {g : Y9w} {h : Ya3} {w : Ya0} (hb : Both g h w) (hr : Ymp g) (T : Int → Bool) : Z6y g w (Yno g.events T) = some (nowT g h T) := by
 have hgr := hb.graph
 have hel := Ynn hr.fits T
 have hfl := hr.fits.len
 unfold Z6y
 rw [Yns hr, Wb]
 have := Yh1 (l := endsT g.events T) (step := fun z : List (List Y9z) × Int => Z6x g w (endsT g.events T) z.1 z.2) (fun q j => (q, j)) (fun q => q) (fun q p => q ++ [behI h.after p]) (fun i q => q.length = i) (by omega) (fun i q hi hq => by
  refine ⟨?_, by simp [hq]⟩
  have hm := Ynm (Wm hi)
  obtain ⟨_, e2, e3⟩ := Ylr hm hr.fits.up
  have hbe := (hb.behind hr e2).1
  rw [e3] at hbe
  simp only [Z6x]
  rw [dlt hi, Wu, Ygk hi, Wb, Yhh _ _ (by omega), Wb, hbe, Wb, Yjy (by simp; omega), Wb, Ygl hi (by omega)])
  (fun q _ => by simp only [Z6x]; rw [dnlt, Wv]) (s := []) rfl
 rw [this.1, Yms, Wb]
 simp only [Z6w, List.nil_append]
 have hm' : Mrg h.graph ((endsT g.events T).map (behI h.after)) := by rw [hgr]; exact hb.endsT hr T
 obtain ⟨c1, _, _⟩ := Ylx hm' hb.depth
 rw [hb.depths, ← hgr]
 rw [hgr] at c1 ⊢
 rw [c1]
 rfl

theorem Ynu {g : Y9w} {h : Ya3} {w : Ya0} (hb : Both g h w) (hr : Ymp g) : Z6u w = some (Yno g.events (refB h)) := by
 have hfl := hr.fits.len
 have hlc := hb.lc
 unfold Z6u
 rw [Y4w (Wt (by omega)), Wb, Int.toNat_natCast]
 rw [Ynq (by omega) (fun l i => by simp only [Z6t]), Wb]
 have := Ynp hb hr
 rw [hb.graph] at this
 rw [this]; rfl
end Go.Proofs.YtmaefakalikkiaaGreat
namespace Go.Proofs.YtmaefakalikkiaaGreat
open Go Go.Abs


theorem Ynv {α σ τ ω : Type} {l : List α} {step : τ → Option (τ ⊕ ω)} (emb : σ → Int → τ) (fin : σ → ω) (bad : ω) (p : Nat → Bool) (g : σ → α → σ) (I : Nat → σ → Prop) (hl : l.length < 9223372036854775807)
  (h1 : ∀ (i : Nat) (s : σ) (hi : i < l.length), I i s → (∀ j, j < i → p j = true) → step (emb s i) = some (cond (p i) (.inl (emb (g s l[i]) ((i + 1 : Nat) : Int))) (.inr bad)) ∧ (p i = true → I (i + 1) (g s l[i])))
  (h2 : ∀ s, I l.length s → step (emb s l.length) = some (.inr (fin s))) {s : σ} (h0 : I 0 s) :
  ((∀ i, i < l.length → p i = true) ∧ iter step big (emb s 0) = some (fin (l.foldl g s)) ∧ I l.length (l.foldl g s)) ∨ ((∃ i, i < l.length ∧ p i = false) ∧ iter step big (emb s 0) = some bad) := by
 have key : ∀ m i k : Nat, ∀ s, i + m = l.length → m < k → I i s → (∀ j, j < i → p j = true) →
   ((∀ i, i < l.length → p i = true) ∧ iter step k (emb s i) = some (fin ((l.drop i).foldl g s)) ∧ I l.length ((l.drop i).foldl g s)) ∨ ((∃ i, i < l.length ∧ p i = false) ∧ iter step k (emb s i) = some bad) := by
  intro m
  induction m with
  | zero =>
   intro i k s hm hk hi hp
   obtain ⟨k, rfl⟩ : ∃ k', k = k' + 1 := ⟨k - 1, by omega⟩
   obtain rfl : i = l.length := by omega
   rw [iter, h2 s hi, List.drop_length]
   exact .inl ⟨hp, rfl, hi⟩
  | succ m ih =>
   intro i k s hm hk hi hp
   obtain ⟨k, rfl⟩ : ∃ k', k = k' + 1 := ⟨k - 1, by omega⟩
   have hil : i < l.length := by omega
   obtain ⟨e1, e2⟩ := h1 i s hil hi hp
   cases hpi : p i with
   | false =>
    rw [hpi] at e1
    exact .inr ⟨⟨i, hil, hpi⟩, by rw [iter, e1]; rfl⟩
   | true =>
    rw [hpi] at e1
    rw [iter, e1, List.drop_eq_getElem_cons hil, List.foldl_cons]
    exact ih (i + 1) k _ (by omega) (by omega) (e2 hpi) fun j hj => by
     rcases Nat.lt_or_ge j i with h | h
     ·
      exact hp j h
     ·
      obtain rfl : j = i := by omega
      exact hpi
 have := key l.length 0 big s (by omega) (Ygf (by omega)) h0 fun j hj => by omega
 simpa using this


abbrev Pr := Int × Int
def pr (x : Y9t) : Pr := (x.room, x.id)
def prs (l : List Y9t) : List Pr := l.map pr
def posP (l : List Pr) (y : Pr) : Int := if y ∈ l then (l.idxOf y : Int) + 1 else 0

theorem Ynw (l : List Pr) (a y : Pr) : posP (l ++ [a]) y = if y ∈ l then posP l y else if y = a then (l.length : Int) + 1 else 0 := by
 unfold posP
 by_cases h : y ∈ l
 ·
  rw [if_pos h, if_pos h, if_pos (by simp [h]), List.idxOf_append, if_pos h]
 ·
  rw [if_neg h]
  by_cases ha : y = a
  ·
   subst ha
   rw [if_pos (by simp), if_pos rfl, List.idxOf_append, if_neg h]
   simp
  ·
   rw [if_neg (by simp [h, ha]), if_neg ha]
theorem Ynx {l : List Pr} {y : Pr} : 0 < posP l y ↔ y ∈ l := by
 unfold posP
 by_cases h : y ∈ l
 ·
  rw [if_pos h]; exact ⟨fun _ => h, fun _ => by omega⟩
 ·
  rw [if_neg h]; exact ⟨fun x => by omega, fun x => absurd x h⟩
theorem Yny {l : List Pr} {y : Pr} {i : Nat} (hi : i ≤ l.length) : y ∈ l.take i ↔ y ∈ l ∧ l.idxOf y < i := by
 constructor
 ·
  intro h
  refine ⟨List.mem_of_mem_take h, ?_⟩
  have e : l = l.take i ++ l.drop i := (List.take_append_drop i l).symm
  have h2 := List.idxOf_lt_length_of_mem h
  rw [List.length_take] at h2
  rw [e, List.idxOf_append, if_pos h]
  omega
 ·
  rintro ⟨h, hlt⟩
  have h1 := List.idxOf_lt_length_of_mem h
  have : l[l.idxOf y] = y := List.getElem_idxOf h1
  rw [List.mem_take_iff_getElem]
  exact ⟨l.idxOf y, by omega, this⟩
theorem Ynz {l : List Pr} {y : Pr} {i : Nat} (hi : i ≤ l.length) : y ∈ l.take i ↔ 0 < posP l y ∧ posP l y ≤ i := by
 rw [Yny hi, Ynx]
 unfold posP
 constructor
 ·
  rintro ⟨h, hlt⟩; rw [if_pos h]; exact ⟨h, by omega⟩
 ·
  rintro ⟨h, hlt⟩; rw [if_pos h] at hlt; exact ⟨h, by omega⟩
theorem Yo0 {α : Type} {l : List α} (h : l.Nodup) {i j : Nat} (hi : i < l.length) (hj : j < l.length) (e : l[i] = l[j]) : i = j := by
 have hp := List.pairwise_iff_getElem.1 (List.nodup_iff_pairwise_ne.1 h)
 rcases Nat.lt_trichotomy i j with h1 | h1 | h1
 ·
  exact absurd e (hp i j hi hj h1)
 ·
  exact h1
 ·
  exact absurd e.symm (hp j i hj hi h1)
theorem Yo1 {l : List Pr} (h : l.Nodup) {i : Nat} (hi : i < l.length) : l.idxOf l[i] = i := by
 have hm : l[i] ∈ l := Wm hi
 have h1 := List.idxOf_lt_length_of_mem hm
 have e : l[l.idxOf l[i]] = l[i] := List.getElem_idxOf h1
 exact Yo0 h h1 hi e
theorem Yo2 {l : List Pr} : l.Nodup ↔ ∀ (i : Nat) (hi : i < l.length), l[i] ∉ l.take i := by
 constructor
 ·
  intro h i hi hm
  have := (Yny (by omega)).1 hm
  rw [Yo1 h hi] at this
  omega
 ·
  intro h
  rw [List.nodup_iff_pairwise_ne, List.pairwise_iff_getElem]
  intro i j hi hj hij e
  exact h j hj (by rw [List.mem_take_iff_getElem]; exact ⟨i, by omega, e⟩)

theorem Yo3 : ∀ {a l : List Pr}, a.Nodup → (∀ x ∈ a, x ∈ l) → a.length ≤ l.length
 | [], _, _, _ => Nat.zero_le _
 | x :: a, l, hn, hs => by
  simp only [List.nodup_cons] at hn
  have hx : x ∈ l := hs x (by simp)
  have := Yo3 (l := l.erase x) hn.2 fun y hy => (List.mem_erase_of_ne (fun e => hn.1 (by rw [← e]; exact hy))).2 (hs y (by simp [hy]))
  rw [List.length_erase_of_mem hx] at this
  have : 0 < l.length := List.length_pos_of_mem hx
  simp only [List.length_cons]; omega
theorem Yo4 {a l : List Pr} (hn : a.Nodup) (hs : ∀ x ∈ a, x ∈ l) (hl : l.length ≤ a.length) : ∀ x ∈ l, x ∈ a := by
 intro x hx
 by_cases h : x ∈ a
 ·
  exact h
 ·
  have := Yo3 (a := x :: a) (l := l) (List.nodup_cons.2 ⟨h, hn⟩) fun y hy => by
   rcases List.mem_cons.1 hy with rfl | hy
   ·
    exact hx
   ·
    exact hs y hy
  simp only [List.length_cons] at this
  omega


def Yo5 : Ya3 := ⟨⟨0, [], []⟩, [], [], [], []⟩
def hiG (g : Y9w) : Ya3 := (Zg4 g).getD Yo5
def knG (g : Y9w) : Ya0 := (Z6f g).getD ⟨[], [], [], []⟩
theorem Yo6 {g : Y9w} (hr : Ymp g) : Zg4 g = some (hiG g) ∧ Z6f g = some (knG g) ∧ Both g (hiG g) (knG g) := by
 obtain ⟨h, w, h1, h2, h3⟩ := Ymu hr
 unfold hiG knG
 rw [h1, h2]
 exact ⟨rfl, rfl, h3⟩

def okB (g : Y9w) (id : Int) : Bool := refB (hiG g) id
def posG (s : List Pr) (g : Y9w) : List Int := g.events.map fun e => posP s (g.room, e.id)
def nowG (g : Y9w) : List Y9z := nowT g (hiG g) (okB g)
def wOf (h : Y9x) : Ya1 := ⟨h, h.rooms.map knG, h.rooms.map (posG (prs h.stream)), h.rooms.map nowG⟩

theorem Yo7 {s : List Pr} {g : Y9w} {j : Nat} (hj : j < g.events.length) (h2 : j < (posG s g).length) : (posG s g)[j] = posP s (g.room, g.events[j].id) := List.getElem_map _

theorem Yo8 {h : Y9x} {g : Y9w} (hr : Ymp g) (hn : (prs h.stream).Nodup) (hl : h.stream.length ≤ 120) :
  iter (fun z : List Int × Int => Z74 h g z.1 z.2) big (List.replicate g.events.length 0, 0) = some (posG (prs h.stream) g) := by
 have hfl := hr.fits.len
 obtain ⟨o, e1, rfl⟩ := Ygi (τ := List Int × Int) (ω := List Int) (σ := List Int) (step := fun z : List Int × Int => Z74 h g z.1 z.2) (n := h.stream.length) (fun s j => (s, j)) (fun i s => s = posG ((prs h.stream).take i) g) (fun o => o = posG (prs h.stream) g) (by omega) (by
  rintro i s hi rfl
  have hil : i < (prs h.stream).length := by unfold prs; rw [List.length_map]; exact hi
  have eL : (prs h.stream)[i] = (h.stream[i].room, h.stream[i].id) := List.getElem_map pr
  have etk : (prs h.stream).take (i + 1) = (prs h.stream).take i ++ [(h.stream[i].room, h.stream[i].id)] := by rw [List.take_add_one, We hil, eL]; rfl
  have hnot := Yo2.1 hn i hil
  rw [eL] at hnot
  have hw := Ygl hi (by omega : h.stream.length < 9223372036854775807)
  have hlt : ((prs h.stream).take i).length = i := by rw [List.length_take]; omega
  have hskip : (∀ e ∈ g.events, (g.room, e.id) ≠ (h.stream[i].room, h.stream[i].id)) → posG ((prs h.stream).take i) g = posG ((prs h.stream).take (i + 1)) g := fun hx => by
   unfold posG
   refine List.map_congr_left fun e he => ?_
   rw [etk, Ynw]
   by_cases hm : (g.room, e.id) ∈ (prs h.stream).take i
   ·
    rw [if_pos hm]
   ·
    rw [if_neg hm, if_neg (hx e he)]
    unfold posP; rw [if_neg hm]
  simp only [Z74]
  rw [dlt hi, Wu, Ygk hi, Wb, Yhh _ _ (by omega), Wb, beqd]
  by_cases hroom : h.stream[i].room = g.room
  ·
   rw [Wt hroom, Wu, Yhi]
   cases hh : hasE g.events h.stream[i].id with
   | false =>
    refine ⟨_, by simp only [Z73, Z72, Wv]; rw [hw], hskip fun e he ee => ?_⟩
    have : e.id = h.stream[i].id := (Prod.mk.inj ee).2
    have := Yhn.2 ⟨e, he, this⟩
    rw [hh] at this; cases this
   | true =>
    obtain ⟨k, hk, h1, h2, h3⟩ := Yhk hh
    have hkl : k < (posG ((prs h.stream).take i) g).length := by unfold posG; rw [List.length_map]; exact hk
    refine ⟨(posG ((prs h.stream).take i) g).set k ((i + 1 : Nat) : Int), by simp only [Z73, Z72, Wu]; rw [h1, Ygk hkl, Wb, Int.toNat_natCast, hw], ?_⟩
    refine List.ext_getElem (by simp [posG]) fun j hj1 hj2 => ?_
    have hj : j < g.events.length := by simpa [posG] using hj2
    have hj0 : j < (posG ((prs h.stream).take i) g).length := by simpa [posG] using hj
    rw [List.getElem_set, Yo7 hj hj2, Yo7 hj hj0]
    simp only [etk]
    rw [Ynw]
    by_cases hjk : k = j
    ·
     subst hjk
     have ee : (g.room, g.events[k].id) = (h.stream[i].room, h.stream[i].id) := by rw [h2, hroom]
     rw [if_pos rfl, ee, if_neg hnot, if_pos rfl, hlt]; omega
    ·
     rw [if_neg hjk]
     by_cases hm : (g.room, g.events[j].id) ∈ (prs h.stream).take i
     ·
      rw [if_pos hm]
     ·
      rw [if_neg hm, if_neg (fun ee => hjk (hr.fits.up.inj hk hj (by rw [h2]; exact (Prod.mk.inj ee).2.symm)))]
      unfold posP; rw [if_neg hm]
  ·
   rw [Wf hroom, Wv]
   exact ⟨_, by simp only [Z73, Z72, Wv]; rw [hw], hskip fun e he ee => hroom (Prod.mk.inj ee).1.symm⟩) (by
  rintro s rfl
  simp only [Z74]
  rw [dnlt, Wv]
  exact ⟨_, rfl, by rw [show h.stream.length = (prs h.stream).length by simp [prs], List.take_length]⟩) (s := List.replicate g.events.length 0) (by
  show List.replicate g.events.length 0 = posG [] g
  exact List.ext_getElem (by simp [posG]) fun j h1 h2 => by simp [posG, posP])
 exact e1

theorem Yo9 {h : Y9x} (hr : ∀ g ∈ h.rooms, Ymp g) (hn : (prs h.stream).Nodup) (hl : h.stream.length ≤ 120) (h3 : h.rooms.length = 3) : Z76 h = some (wOf h) := by
 unfold Z76
 have := Yh1 (l := h.rooms) (step := fun z : List Ya0 × List (List Int) × List (List Y9z) × Int => Z75 h z.1 z.2.1 z.2.2.1 z.2.2.2) (fun (q : List Ya0 × List (List Int) × List (List Y9z)) j => (q.1, q.2.1, q.2.2, j)) (fun q => q)
  (fun q g => (q.1 ++ [knG g], q.2.1 ++ [posG (prs h.stream) g], q.2.2 ++ [nowG g])) (fun i q => q.1.length = i ∧ q.2.1.length = i ∧ q.2.2.length = i) (by omega) (fun i q hi ⟨q1, q2, q3⟩ => by
  refine ⟨?_, by simp [q1], by simp [q2], by simp [q3]⟩
  have hg := hr _ (Wm hi)
  have hfl := hg.fits.len
  obtain ⟨b1, b2, b3⟩ := Yo6 hg
  have hp := Yo8 hg hn hl
  simp only [Z75]
  rw [dlt hi, Wu, Ygk hi, Wb, b2, Wb, Y4w (Wt (by simp; omega)), Wb, Ynu b3 hg, Wb, Ynt b3 hg, Wb, Yjy (by simp; omega), Wb, Y4w (Wt (by omega)), Wb, Int.toNat_natCast, hp, Wb]
  simp only [Z71]
  rw [Yjy (by simp; omega), Wb, Ygl hi (by omega)]
  rfl)
  (fun q _ => by simp only [Z75]; rw [dnlt, Wv]) (s := ([], [], [])) ⟨rfl, rfl, rfl⟩
 rw [this.1, Wb]
 have key : ∀ (l : List Y9w) (q : List Ya0 × List (List Int) × List (List Y9z)), l.foldl (fun q g => (q.1 ++ [knG g], q.2.1 ++ [posG (prs h.stream) g], q.2.2 ++ [nowG g])) q = (q.1 ++ l.map knG, q.2.1 ++ l.map (posG (prs h.stream)), q.2.2 ++ l.map nowG) := by
  intro l
  induction l with
  | nil => intro q; simp
  | cons g l ih => intro q; rw [List.foldl_cons, ih]; simp
 rw [key]
 simp only [List.nil_append, Z70]
 rfl
end Go.Proofs.YtmaefakalikkiaaGreat
namespace Go.Proofs.YtmaefakalikkiaaGreat
open Go Go.Abs

def inS (s : List Pr) (g : Y9w) (e : Y9r) : Bool := decide (0 < posP s (g.room, e.id))
def strE (s : List Pr) (g : Y9w) (e : Y9r) : Bool := (okB g e.id == inS s g e) && (!inS s g e || e.prev.all fun p => decide (posP s (g.room, p) < posP s (g.room, e.id)))
def Yoa (s : List Pr) (g : Y9w) : Nat := (g.events.filter (inS s g)).length
def Yob (s : List Pr) (l : List Y9w) : Nat := (l.map (Yoa s)).sum

theorem Yoc (s : List Pr) (g : Y9w) : ∀ (l : List Y9r) (m : Int), l.foldl (fun m e => if inS s g e = true then m + 1 else m) m = m + (l.filter (inS s g)).length
 | [], m => by simp
 | e :: l, m => by
  rw [List.foldl_cons, Yoc s g l]
  cases h : inS s g e with
  | true => rw [if_pos rfl, List.filter_cons_of_pos h, List.length_cons]; omega
  | false => rw [if_neg (by simp), List.filter_cons_of_neg (by simp [h])]
theorem Yod (s : List Pr) : ∀ (l : List Y9w) (m : Int), l.foldl (fun m g => m + (Yoa s g : Int)) m = m + (Yob s l : Nat)
 | [], m => by simp [Yob]
 | g :: l, m => by
  rw [List.foldl_cons, Yod s l]
  unfold Yob
  rw [List.map_cons, List.sum_cons]
  omega

def atB {α : Type} (l : List α) (p : α → Bool) (i : Nat) : Bool := if h : i < l.length then p l[i] else true
theorem Yoe {α : Type} {l : List α} {p : α → Bool} {i : Nat} (h : i < l.length) : atB l p i = p l[i] := by unfold atB; rw [dif_pos h]
theorem Yof {α : Type} {l : List α} {p : α → Bool} : (∀ i, i < l.length → atB l p i = true) ↔ l.all p = true := Ygz
theorem Yog {α : Type} {l : List α} {p : α → Bool} (h : ∃ i, i < l.length ∧ atB l p i = false) : l.all p = false := by
 obtain ⟨i, hi, hb⟩ := h
 rw [Bool.eq_false_iff]
 intro ha
 have := Yof.2 ha i hi
 rw [hb] at this; cases this

theorem Yoh {s : List Pr} {g : Y9w} (hr : Ymp g) {k : Nat} (hk : k < g.events.length) :
  iter (Z7d g (k : Int) (posG s g) (posP s (g.room, g.events[k].id))) big 0 = some (cond (!inS s g g.events[k] || g.events[k].prev.all fun p => decide (posP s (g.room, p) < posP s (g.room, g.events[k].id))) (.inr ()) (.inl false)) := by
 have hpl := hr.fits.plen _ (Wm hk)
 have hfl := hr.fits.len
 cases hin : inS s g g.events[k] with
 | false =>
  have h0 : decide (posP s (g.room, g.events[k].id) > 0) = false := hin
  rw [Y4z (o := .inr ()) (fun m (x : Int) => x = 0 ∧ m = 0) ?_ (m := 0) ⟨rfl, rfl⟩ (Ygf (by omega))]
  ·
   rfl
  ·
   rintro m x ⟨rfl, rfl⟩
   left
   simp only [Z7d]
   rw [Ygk hk, Wb, h0]
   cases decide ((0 : Int) < (g.events[k].prev.length : Int)) <;> rfl
 | true =>
  have h0 : decide (posP s (g.room, g.events[k].id) > 0) = true := hin
  rw [Yh0 (l := g.events[k].prev) (fun p => decide (posP s (g.room, p) < posP s (g.room, g.events[k].id))) (.inl false) (.inr ()) hpl (fun i hi => by
   obtain ⟨j, hj, j1, j2, _⟩ := Yhk (hr.fits.whole _ (Wm hk) _ (Wm hi))
   have hjl : j < (posG s g).length := by unfold posG; rw [List.length_map]; exact hj
   simp only [Z7d]
   rw [Ygk hk, Wb, dlt hi, Wu, h0]
   simp only [Z7c]
   rw [Ygk hk, Wu, Wb, Ygk hi, Wb, Yhh _ _ (by omega), Wb, j1, Ygk hjl, Wb, Yo7 hj, j2, Ygl hi hpl]
   by_cases hc : posP s (g.room, g.events[k].prev[i]) < posP s (g.room, g.events[k].id)
   ·
    rw [Wt hc, Wf (by omega)]; rfl
   ·
    rw [Wf hc, Wt (by omega)]; rfl) (by
   simp only [Z7d]
   rw [Ygk hk, Wb, dnlt, Wv]; rfl)]
  rfl

theorem Yoi {g : Y9w} (hr : Ymp g) {k : Nat} (hk : k < g.events.length) : ∃ c, getI (knG g).code (k : Int) = some c ∧ (c == 0) = okB g g.events[k].id := by
 obtain ⟨c, h1, h2⟩ := (Yo6 hr).2.2.code (Wm hk)
 rw [(hr.fits.up.plc hk).1] at h1
 refine ⟨c, h1, ?_⟩
 unfold okB refB
 rw [h2, beqd]

theorem Yoj {h : Y9x} {i : Nat} (hi : i < h.rooms.length) (hr : Ymp h.rooms[i]) {m : Int} (hm : 0 ≤ m ∧ m ≤ 1000) :
  iter (fun z : Int × Int => Z7e (wOf h) (i : Int) h.rooms[i] z.1 z.2) big (m, 0) = some (cond (h.rooms[i].events.all (strE (prs h.stream) h.rooms[i])) (.inr (m + (Yoa (prs h.stream) h.rooms[i] : Int))) (.inl false)) := by
 have hfl := hr.fits.len
 have g1 : getI (wOf h).rooms (i : Int) = some (knG h.rooms[i]) := Ynr knG hi
 have g2 : getI (wOf h).pos (i : Int) = some (posG (prs h.stream) h.rooms[i]) := Ynr _ hi
 have := Ynv (l := h.rooms[i].events) (step := fun z : Int × Int => Z7e (wOf h) (i : Int) h.rooms[i] z.1 z.2) (fun q j => (q, j)) (fun q => Sum.inr q) (Sum.inl false) (atB h.rooms[i].events (strE (prs h.stream) h.rooms[i])) (fun m e => if inS (prs h.stream) h.rooms[i] e = true then m + 1 else m) (fun k q => 0 ≤ q ∧ q ≤ 1000 + k) (by omega) (fun k q hk ⟨q1, q2⟩ _ => by
  refine ⟨?_, fun _ => by split <;> omega⟩
  obtain ⟨c, c1, c2⟩ := Yoi hr hk
  have hkl : k < (posG (prs h.stream) h.rooms[i]).length := by unfold posG; rw [List.length_map]; exact hk
  have hp := Yoh (s := prs h.stream) hr hk
  have hw := Ygl hk (by omega : h.rooms[i].events.length < 9223372036854775807)
  have hin : decide (posP (prs h.stream) (h.rooms[i].room, h.rooms[i].events[k].id) > 0) = inS (prs h.stream) h.rooms[i] h.rooms[i].events[k] := rfl
  simp only [Z7e]
  rw [dlt hk, Wu, g1, Wb, c1, Wb, g2, Wb, Ygk hkl, Wb, Yo7 hk, c2, hin, hp, Wb, Yoe hk]
  unfold strE
  cases ho : okB h.rooms[i] h.rooms[i].events[k].id == inS (prs h.stream) h.rooms[i] h.rooms[i].events[k] with
  | false => rfl
  | true =>
   rw [Wu, Bool.true_and]
   cases hc : (!inS (prs h.stream) h.rooms[i] h.rooms[i].events[k] || h.rooms[i].events[k].prev.all fun p => decide (posP (prs h.stream) (h.rooms[i].room, p) < posP (prs h.stream) (h.rooms[i].room, h.rooms[i].events[k].id))) with
   | false => rfl
   | true =>
    simp only [Wu, Z7b, Z7a]
    rw [hin, hw, Y4v (n := q + 1) (by omega) (by omega)]
    cases inS (prs h.stream) h.rooms[i] h.rooms[i].events[k] <;> rfl)
  (fun q _ => by simp only [Z7e]; rw [dnlt, Wv]) (s := m) ⟨hm.1, by omega⟩
 rcases this with ⟨a1, a2, _⟩ | ⟨a1, a2⟩
 ·
  rw [a2, Yof.1 a1, Yoc]; rfl
 ·
  rw [a2, Yog a1]; rfl

theorem Yok {s : List Pr} {g : Y9w} (hr : Ymp g) : Yoa s g ≤ 60 := Nat.le_trans (List.length_filter_le _ _) hr.fits.len

theorem Yol {h : Y9x} (hr : ∀ g ∈ h.rooms, Ymp g) (h3 : h.rooms.length = 3) (hl : h.stream.length ≤ 120) :
  Z7g (wOf h) = some ((h.rooms.all fun g => g.events.all (strE (prs h.stream) g)) && decide (Yob (prs h.stream) h.rooms = h.stream.length)) := by
 unfold Z7g
 have := Ynv (l := h.rooms) (step := fun z : Int × Int => Z7f (wOf h) z.1 z.2) (fun q j => (q, j)) (fun q => Sum.inr q) (Sum.inl false) (atB h.rooms fun g => g.events.all (strE (prs h.stream) g)) (fun m g => m + (Yoa (prs h.stream) g : Int)) (fun k q => 0 ≤ q ∧ q ≤ 60 * k) (by omega) (fun k q hk ⟨q1, q2⟩ _ => by
  have hg := hr _ (Wm hk)
  have hml := Yok (s := prs h.stream) hg
  refine ⟨?_, fun _ => by omega⟩
  have hev := Yoj (h := h) hk hg (m := q) ⟨q1, by omega⟩
  have g0 : getI (wOf h).h.rooms (k : Int) = some h.rooms[k] := Ygk hk
  have hw := Ygl hk (by omega : h.rooms.length < 9223372036854775807)
  have hd : decide ((k : Int) < ((wOf h).h.rooms.length : Int)) = true := dlt hk
  simp only [Z7f]
  rw [hd, Wu, g0, Wb, hev, Wb, Yoe hk]
  cases h.rooms[k].events.all (strE (prs h.stream) h.rooms[k]) with
  | false => rfl
  | true => simp only [Wu, Z79]; rw [hw])
  (fun q _ => by
   have hd : decide ((h.rooms.length : Int) < ((wOf h).h.rooms.length : Int)) = false := dnlt _
   simp only [Z7f]; rw [hd, Wv]) (s := 0) ⟨by omega, by omega⟩
 rcases this with ⟨a1, a2, _⟩ | ⟨a1, a2⟩
 ·
  rw [a2, Yof.1 a1, Yod, Wb]
  simp only [Z78]
  rw [beqd, Bool.true_and]
  congr 1
  rw [Bool.eq_iff_iff]
  simp only [decide_eq_true_eq]
  show (0 + ((Yob (prs h.stream) h.rooms : Nat) : Int) = (h.stream.length : Int)) ↔ _
  omega
 ·
  rw [a2, Yog a1]; rfl
end Go.Proofs.YtmaefakalikkiaaGreat
namespace Go.Proofs.YtmaefakalikkiaaGreat
open Go Go.Abs

structure Yom (h : Y9x) : Prop where
 rl : h.rooms.length ≤ 1048576
 sl : h.stream.length ≤ 1048576
 fine : ∀ g ∈ h.rooms, Fine g

def gB (g : Y9w) : Bool := (Z3l g).getD false
theorem Yon {g : Y9w} (hg : Fine g) : Z3l g = some (gB g) ∧ Zbi g = some (gB g) ∧ (gB g = true ↔ GOk g) := by
 obtain ⟨b, h1, h2, h3⟩ := Yjt hg
 unfold gB
 rw [h1]
 exact ⟨rfl, h2, h3⟩
def rB (l : List Y9w) (i : Nat) : Bool := if h : i < l.length then gB l[i] && decide (l[i].room = (i : Int) + 1) else true
theorem Yoo {l : List Y9w} {i : Nat} (h : i < l.length) : rB l i = (gB l[i] && decide (l[i].room = (i : Int) + 1)) := by unfold rB; rw [dif_pos h]
def Yop (h : Y9x) : Prop := ∀ (i : Nat) (hi : i < h.rooms.length), GOk h.rooms[i] ∧ h.rooms[i].room = (i : Int) + 1
theorem Yoq {h : Y9x} (hf : Yom h) : (∀ i, i < h.rooms.length → rB h.rooms i = true) ↔ Yop h := by
 constructor
 ·
  intro k i hi
  have := k i hi
  rw [Yoo hi, Bool.and_eq_true] at this
  exact ⟨(Yon (hf.fine _ (Wm hi))).2.2.1 this.1, by simpa using this.2⟩
 ·
  intro k i hi
  rw [Yoo hi, Bool.and_eq_true]
  exact ⟨(Yon (hf.fine _ (Wm hi))).2.2.2 (k i hi).1, by simpa using (k i hi).2⟩
theorem Yop.right {h : Y9x} (k : Yop h) : ∀ g ∈ h.rooms, Ymp g := fun g hg => by
 obtain ⟨i, hi, rfl⟩ := List.mem_iff_getElem.1 hg
 exact (k i hi).1.right


def zW : Ya1 := ⟨⟨[], []⟩, [], [], []⟩
def OkS (h : Y9x) : Prop := h.rooms.length = 3 ∧ h.stream.length ≤ 120 ∧ Yop h ∧ (prs h.stream).Nodup ∧ (∀ g ∈ h.rooms, ∀ e ∈ g.events, strE (prs h.stream) g e = true) ∧ Yob (prs h.stream) h.rooms = h.stream.length

theorem Yor {l : List Y9t} {i : Nat} (hi : i < l.length) (h2 : i < (prs l).length) : (prs l)[i] = (l[i].room, l[i].id) := List.getElem_map pr
theorem Yos (l : List Y9t) : (prs l).length = l.length := List.length_map pr

theorem eqSp (a b c d : Int) : ((a == b) && ((c == d) && true)) = decide ((b, d) = (a, c)) := by
 rw [Bool.eq_iff_iff]
 simp only [Bool.and_eq_true, beq_iff_eq, and_true, decide_eq_true_eq, Prod.mk.injEq]
 exact ⟨fun x => ⟨x.1.symm, x.2.symm⟩, fun x => ⟨x.1.symm, x.2.symm⟩⟩

theorem Yot {h : Y9x} (hl : h.stream.length ≤ 120) {i : Nat} (hi : i < h.stream.length) :
  iter (Z7k h (i : Int)) big 0 = some (cond (!decide ((h.stream[i].room, h.stream[i].id) ∈ (prs h.stream).take i)) (.inr ()) (.inl (zW, false))) := by
 have hlt : ((prs h.stream).take i).length = i := by rw [List.length_take, Yos]; omega
 have hgt : ∀ (k : Nat) (hk : k < ((prs h.stream).take i).length), ((prs h.stream).take i)[k] = (h.stream[k].room, h.stream[k].id) := fun k hk => by
  rw [List.getElem_take]; exact Yor _ _
 rw [Yh0 (l := (prs h.stream).take i) (step := Z7k h (i : Int)) (fun y => !decide (y = (h.stream[i].room, h.stream[i].id))) (.inl (zW, false)) (.inr ()) (by omega) (fun k hk => by
  have hki : k < i := by omega
  simp only [Z7k]
  rw [dlt hki, Wu, Ygk hi, Wb, Ygk (by omega : k < h.stream.length), Wb, hgt k hk, Ygl hki (by omega)]
  rw [eqSp]
  cases decide ((h.stream[k].room, h.stream[k].id) = (h.stream[i].room, h.stream[i].id)) <;> rfl) (by
  simp only [Z7k]
  rw [hlt, dnlt, Wv])]
 congr 2
 rw [Bool.eq_iff_iff, List.all_eq_true]
 simp only [Bool.not_eq_true', decide_eq_false_iff_not]
 constructor
 ·
  exact fun k hm => k _ hm rfl
 ·
  exact fun k y hy e => k (e ▸ hy)

theorem You {h : Y9x} (hf : Yom h) : ∃ b : Bool, (b = true ↔ OkS h) ∧ Z7q h = some (cond b (wOf h, true) (zW, false)) := by
 have hrl := hf.rl
 have hsl := hf.sl
 unfold Z7q
 by_cases h3 : (h.rooms.length : Int) = 3
 rotate_left
 ·
  refine ⟨false, ⟨fun x => (by cases x), fun x => absurd x.1 (by omega)⟩, ?_⟩
  rw [bned, Wf h3]; rfl
 by_cases hl : (h.stream.length : Int) > 120
 ·
  refine ⟨false, ⟨fun x => (by cases x), fun x => absurd x.2.1 (by omega)⟩, ?_⟩
  rw [bned, Wt h3, Wt hl]; rfl
 rw [bned, Wt h3, Wf hl]
 simp only [Bool.not_true, Wv, Z7p]
 have hl' : h.stream.length ≤ 120 := by omega
 have h3' : h.rooms.length = 3 := by omega
 have := Ynv (l := h.rooms) (step := fun z : Int => Z7o h z) (fun (_ : Unit) j => j) (fun _ => Sum.inr ()) (Sum.inl (zW, false)) (rB h.rooms) (fun q _ => q) (fun _ _ => True) (by omega) (fun k q hk _ _ => by
  refine ⟨?_, fun _ => trivial⟩
  obtain ⟨b1, _, _⟩ := Yon (hf.fine _ (Wm hk))
  have hw := Ygl hk (by omega : h.rooms.length < 9223372036854775807)
  simp only [Z7o]
  rw [dlt hk, Wu, Ygk hk, Wb, b1, Wb, Yoo hk, hw, bned]
  cases gB h.rooms[k] with
  | false => rfl
  | true =>
   simp only [Wu, Bool.true_and, Z7n, hw]
   by_cases hc : h.rooms[k].room = (k : Int) + 1
   ·
    rw [Wt hc, Wt (by omega)]; rfl
   ·
    rw [Wf hc, Wf (by omega)]; rfl)
  (fun q _ => by simp only [Z7o]; rw [dnlt, Wv]) (s := ()) trivial
 rcases this with ⟨a1, a2, _⟩ | ⟨⟨i, hi, a1⟩, a2⟩
 rotate_left
 ·
  refine ⟨false, ⟨fun x => (by cases x), fun x => ?_⟩, ?_⟩
  ·
   have := (Yoq hf).2 x.2.2.1 i hi
   rw [a1] at this; cases this
  ·
   have a2' : iter (Z7o h) big 0 = some (Sum.inl (zW, false)) := a2
   rw [a2']; rfl
 have hro := (Yoq hf).1 a1
 have a2' : iter (Z7o h) big 0 = some (Sum.inr ()) := a2
 rw [a2', Wb]
 simp only [Z7m]
 -- no repetition
 have := Ynv (l := prs h.stream) (step := fun z : Int => Z7l h z) (fun (_ : Unit) j => j) (fun _ => Sum.inr ()) (Sum.inl (zW, false)) (fun i => if hi : i < (prs h.stream).length then !decide ((prs h.stream)[i] ∈ (prs h.stream).take i) else true) (fun q _ => q) (fun _ _ => True) (by rw [Yos]; omega) (fun k q hk _ _ => by
  refine ⟨?_, fun _ => trivial⟩
  have hk' : k < h.stream.length := by rw [Yos] at hk; exact hk
  have hw := Ygl hk' (by omega : h.stream.length < 9223372036854775807)
  have hd := Yot hl' hk'
  simp only [Z7l]
  rw [dlt hk', Wu, hd, Wb, dif_pos hk, Yor hk']
  cases decide ((h.stream[k].room, h.stream[k].id) ∈ (prs h.stream).take k) with
  | false => simp only [Bool.not_false, Wu, Z7j]; rw [hw]
  | true => rfl)
  (fun q _ => by simp only [Z7l]; rw [Yos, dnlt, Wv]) (s := ()) trivial
 rcases this with ⟨n1, n2, _⟩ | ⟨⟨i, hi, n1⟩, n2⟩
 rotate_left
 ·
  refine ⟨false, ⟨fun x => (by cases x), fun x => ?_⟩, ?_⟩
  ·
   rw [dif_pos hi] at n1
   have := Yo2.1 x.2.2.2.1 i hi
   simp [this] at n1
  ·
   have n2' : iter (Z7l h) big 0 = some (Sum.inl (zW, false)) := n2
   rw [n2']; rfl
 have hnd : (prs h.stream).Nodup := Yo2.2 fun i hi => by
  have := n1 i hi
  rw [dif_pos hi] at this
  simpa using this
 have n2' : iter (Z7l h) big 0 = some (Sum.inr ()) := n2
 rw [n2', Wb]
 simp only [Z7i]
 rw [Yo9 hro.right hnd hl' h3', Wb, Yol hro.right h3' hl', Wb]
 refine ⟨(h.rooms.all fun g => g.events.all (strE (prs h.stream) g)) && decide (Yob (prs h.stream) h.rooms = h.stream.length), ?_, ?_⟩
 ·
  rw [Bool.and_eq_true, List.all_eq_true, decide_eq_true_eq]
  constructor
  ·
   rintro ⟨k1, k2⟩
   exact ⟨h3', hl', hro, hnd, fun g hg e he => List.all_eq_true.1 (k1 g hg) e he, k2⟩
  ·
   rintro ⟨_, _, _, _, k1, k2⟩
   exact ⟨fun g hg => List.all_eq_true.2 fun e he => k1 g hg e he, k2⟩
 ·
  cases (h.rooms.all fun g => g.events.all (strE (prs h.stream) g)) && decide (Yob (prs h.stream) h.rooms = h.stream.length) <;> rfl
end Go.Proofs.YtmaefakalikkiaaGreat
namespace Go.Proofs.YtmaefakalikkiaaGreat
open Go Go.Abs

def zS : Ya4 := ⟨⟨[], []⟩, []⟩
def sOf (h : Y9x) : Ya4 := ⟨h, h.rooms.map hiG⟩
def zG : Y9w := ⟨0, [], []⟩
def rmG (h : Y9x) (r : Int) : Y9w := h.rooms.getD (r - 1).toNat zG
def stX (h : Y9x) (i : Nat) (x : Y9t) : Bool :=
 decide (1 ≤ x.room ∧ x.room ≤ 3) && !decide ((x.room, x.id) ∈ (prs h.stream).take i) && hasE (rmG h x.room).events x.id && okB (rmG h x.room) x.id &&
  (evD (rmG h x.room).events x.id).prev.all fun p => !okB (rmG h x.room) p || decide ((x.room, p) ∈ (prs h.stream).take i)
def stB (h : Y9x) (i : Nat) : Bool := if hi : i < h.stream.length then stX h i h.stream[i] else true
def Yov (g : Y9w) : Nat := (accT g.events (okB g)).length
def Yow (l : List Y9w) : Nat := (l.map Yov).sum
theorem Yox : ∀ (l : List Y9w) (q : List Ya3 × Int), l.foldl (fun q g => (q.1 ++ [hiG g], q.2 + (Yov g : Int))) q = (q.1 ++ l.map hiG, q.2 + (Yow l : Nat))
 | [], q => by simp [Yow]
 | g :: l, q => by
  rw [List.foldl_cons, Yox l]
  unfold Yow
  rw [List.map_cons, List.map_cons, List.sum_cons, List.append_assoc]
  congr 1
  omega

theorem Yoy {g : Y9w} (hr : Ymp g) : Yov g ≤ 60 := Ynl hr.fits _

def OkI (h : Y9x) : Prop := h.rooms.length = 3 ∧ h.stream.length ≤ 120 ∧ Yop h ∧ (∀ i, i < h.stream.length → stB h i = true) ∧ Yow h.rooms = h.stream.length

theorem Yoz {h : Y9x} (h3 : h.rooms.length = 3) {r : Int} (hr : 1 ≤ r ∧ r ≤ 3) : ∃ (k : Nat) (hk : k < h.rooms.length), r = (k : Int) + 1 ∧ IntKind.i64.wrap (r - 1) = (k : Int) ∧ rmG h r = h.rooms[k] := by
 refine ⟨(r - 1).toNat, by omega, by omega, ?_, ?_⟩
 ·
  rw [Y4v (by omega) (by omega)]; omega
 ·
  unfold rmG
  rw [List.getD_eq_getElem?_getD, We (by omega)]; rfl

theorem Yp0 {g : Y9w} (hg : Ymp g) {m : List (Pr × Bool)} {s : List Pr} {x : Y9t} (hm : ∀ y, Option.getD (pget m y) false = decide (y ∈ s)) (p : Int) :
  Zge p (hiG g) m x = some (!(!okB g p || decide ((x.room, p) ∈ s))) := by
 unfold Zge
 rw [beqd]
 show cond (okB g p) _ _ = _
 cases okB g p with
 | false => rfl
 | true => simp only [Wu, Zgd, hm]; simp

theorem Yp1 {g : Y9w} (hg : Ymp g) {m : List (Pr × Bool)} {s : List Pr} {x : Y9t} (hm : ∀ y, Option.getD (pget m y) false = decide (y ∈ s)) (l : List Int) (hl : l.length < 9223372036854775807) :
  Zgk l (hiG g) m x = some (!l.all fun p => !okB g p || decide ((x.room, p) ∈ s)) := by
 unfold Zgk Zgi
 rw [Yh3 (Ygy (l := l) (step := Zgh l (hiG g) m x) (fun p => !(!okB g p || decide ((x.room, p) ∈ s))) hl (fun i hi => by
  simp only [Zgh]
  rw [dlt hi, Wu, Ygk hi, Wb, Yp0 hg hm, Wb, Ygl hi hl]
  cases (!okB g l[i] || decide ((x.room, l[i]) ∈ s)) <;> rfl) (by simp only [Zgh]; rw [dnlt, Wv])) (fun _ => rfl) rfl, Wb, Yh2, Ylo]

theorem Yp2 {h : Y9x} (hro : Yop h) (h3 : h.rooms.length = 3) (hl : h.stream.length ≤ 120) :
  ((∀ i, i < h.stream.length → stB h i = true) ∧ iter (fun z : List (Pr × Bool) × Int => Zgq h (h.rooms.map hiG) z.1 z.2) big ([], 0) = some (.inr ())) ∨
  ((∃ i, i < h.stream.length ∧ stB h i = false) ∧ iter (fun z : List (Pr × Bool) × Int => Zgq h (h.rooms.map hiG) z.1 z.2) big ([], 0) = some (.inl (zS, false))) := by
 have := Ynv (l := h.stream) (step := fun z : List (Pr × Bool) × Int => Zgq h (h.rooms.map hiG) z.1 z.2) (fun q j => (q, j)) (fun _ => Sum.inr ()) (Sum.inl (zS, false)) (stB h) (fun m x => pset m (x.room, x.id) true) (fun i m => ∀ y, Option.getD (pget m y) false = decide (y ∈ (prs h.stream).take i)) (by omega) (fun i m hi hm _ => by
  have hil : i < (prs h.stream).length := by rw [Yos]; exact hi
  have etk : (prs h.stream).take (i + 1) = (prs h.stream).take i ++ [(h.stream[i].room, h.stream[i].id)] := by rw [List.take_add_one, We hil, Yor hi]; rfl
  refine ⟨?_, fun _ y => ?_⟩
  rotate_left
  ·
   rw [Y8p, etk]
   by_cases hy : y = (h.stream[i].room, h.stream[i].id)
   ·
    rw [if_pos hy, Option.getD_some]; simp [hy]
   ·
    rw [if_neg hy, hm]; simp [hy]
  have hw := Ygl hi (by omega : h.stream.length < 9223372036854775807)
  have hb : stB h i = stX h i h.stream[i] := by unfold stB; rw [dif_pos hi]
  rw [hb]
  simp only [Zgq]
  rw [dlt hi, Wu, Ygk hi, Wb, Ygs, Wb]
  generalize h.stream[i] = x
  unfold stX
  by_cases hx : 1 ≤ x.room ∧ x.room ≤ 3
  rotate_left
  ·
   rw [Wf hx]; rfl
  rw [Wt hx, Wu, hm, Bool.true_and]
  simp only [Zgp]
  cases decide ((x.room, x.id) ∈ (prs h.stream).take i) with
  | true => rfl
  | false =>
   rw [Wv, Bool.not_false, Bool.true_and]
   obtain ⟨k, hk, k1, k2, k3⟩ := Yoz h3 hx
   have hg := hro.right _ (Wm hk)
   have hfl := hg.fits.len
   have hgr : (hiG h.rooms[k]).graph = h.rooms[k] := (Yo6 hg).2.2.graph
   have e1 : Zgb (Ya4.mk h (h.rooms.map hiG)) x.room = some (hiG h.rooms[k]) := by
    unfold Zgb
    rw [k2]
    show (getI (h.rooms.map hiG) (k : Int)).bind _ = _
    rw [Ynr hiG hk]; rfl
   rw [e1, Wb, hgr, c_at _ _ hg.fits.up (by omega), Wb, k3]
   simp only [Zgo]
   cases hh : hasE h.rooms[k].events x.id with
   | false => rfl
   | true =>
    rw [Wu, Bool.true_and, bned]
    show cond (!okB h.rooms[k] x.id) _ _ = _
    cases okB h.rooms[k] x.id with
    | false => rfl
    | true =>
     rw [Bool.not_true, Wv, Bool.true_and]
     have hev : Option.getD (evAt h.rooms[k].events x.id) zEv = evD h.rooms[k].events x.id := rfl
     have hpl := (hg.walk.prev (Ym1.1 hh)).1
     rw [hev, Yp1 hg hm _ (by omega), Wb]
     simp only [Zgn, hw]
     cases (evD h.rooms[k].events x.id).prev.all fun p => !okB h.rooms[k] p || decide ((x.room, p) ∈ (prs h.stream).take i) <;> rfl)
  (fun q _ => by simp only [Zgq]; rw [dnlt, Wv]) (s := []) (fun y => by simp [pget])
 rcases this with ⟨a1, a2, _⟩ | ⟨a1, a2⟩
 ·
  exact .inl ⟨a1, a2⟩
 ·
  exact .inr ⟨a1, a2⟩

theorem Yp3 {h : Y9x} (hf : Yom h) : ∃ b : Bool, (b = true ↔ OkI h) ∧ Zgv h = some (cond b (sOf h, true) (zS, false)) := by
 have hrl := hf.rl
 have hsl := hf.sl
 unfold Zgv
 by_cases h3 : (h.rooms.length : Int) = 3
 rotate_left
 ·
  refine ⟨false, ⟨fun x => (by cases x), fun x => absurd x.1 (by omega)⟩, ?_⟩
  rw [bned, Wf h3]; rfl
 by_cases hl : (h.stream.length : Int) > 120
 ·
  refine ⟨false, ⟨fun x => (by cases x), fun x => absurd x.2.1 (by omega)⟩, ?_⟩
  rw [bned, Wt h3, Wt hl]; rfl
 rw [bned, Wt h3, Wf hl]
 simp only [Bool.not_true, Wv, Zgu]
 have hl' : h.stream.length ≤ 120 := by omega
 have h3' : h.rooms.length = 3 := by omega
 have := Ynv (l := h.rooms) (step := fun z : List Ya3 × Int × Int => Zgt h z.1 z.2.1 z.2.2) (fun (q : List Ya3 × Int) j => (q.1, q.2, j)) (fun q => Sum.inr q) (Sum.inl (zS, false)) (rB h.rooms) (fun q g => (q.1 ++ [hiG g], q.2 + (Yov g : Int))) (fun i q => q.1.length = i ∧ 0 ≤ q.2 ∧ q.2 ≤ 60 * i) (by omega) (fun k q hk ⟨q1, q2, q3⟩ hp => by
  obtain ⟨_, b2, b3⟩ := Yon (hf.fine _ (Wm hk))
  have hw := Ygl hk (by omega : h.rooms.length < 9223372036854775807)
  have hb := Yoo hk
  refine ⟨?_, fun ht => ?_⟩
  rotate_left
  ·
   rw [hb, Bool.and_eq_true] at ht
   have := Yoy (b3.1 ht.1).right
   simp only [List.length_append, List.length_singleton]; omega
  simp only [Zgt]
  rw [dlt hk, Wu, Ygk hk, Wb, b2, Wb, hb, hw, bned]
  cases hgB : gB h.rooms[k] with
  | false => rfl
  | true =>
   have hg := (b3.1 hgB).right
   obtain ⟨n1, _, n3⟩ := Yo6 hg
   have hle := Yoy hg
   have hac : Zg9 (hiG h.rooms[k]) = some (accT h.rooms[k].events (okB h.rooms[k])) := by
    have := Ynj (h := hiG h.rooms[k]) (by rw [n3.graph]; exact hg)
    rw [n3.graph] at this; exact this
   have hgt : getI (q.1 ++ [hiG h.rooms[k]]) (k : Int) = some (hiG h.rooms[k]) := Yig (X := q.1) (Y := []) rfl q1.symm
   simp only [Wu, Bool.true_and, Zgs]
   by_cases hc : h.rooms[k].room = (k : Int) + 1
   ·
    rw [Wt hc, Wt (by omega), Bool.not_true, Wv, n1, Wb, Y4w (Wt (by simp; omega)), Wb, hgt, Wb, hac, Wb, hw, Y4v (n := q.2 + ((accT h.rooms[k].events (okB h.rooms[k])).length : Int)) (by unfold Yov at hle; omega) (by unfold Yov at hle; omega)]
    rfl
   ·
    rw [Wf hc, Wf (by omega)]; rfl)
  (fun q _ => by simp only [Zgt]; rw [dnlt, Wv]) (s := ([], 0)) ⟨rfl, by omega, by omega⟩
 rcases this with ⟨a1, a2, _⟩ | ⟨⟨i, hi, a1⟩, a2⟩
 rotate_left
 ·
  refine ⟨false, ⟨fun x => (by cases x), fun x => ?_⟩, ?_⟩
  ·
   have := (Yoq hf).2 x.2.2.1 i hi
   rw [a1] at this; cases this
  ·
   have a2' : iter (fun z : List Ya3 × Int × Int => Zgt h z.1 z.2.1 z.2.2) big ([], 0, 0) = some (Sum.inl (zS, false)) := a2
   rw [a2']; rfl
 have hro := (Yoq hf).1 a1
 rw [Yox] at a2
 have a2' : iter (fun z : List Ya3 × Int × Int => Zgt h z.1 z.2.1 z.2.2) big ([], 0, 0) = some (Sum.inr (h.rooms.map hiG, 0 + (Yow h.rooms : Int))) := a2
 rw [a2', Wb]
 simp only [Zgr]
 rcases Yp2 hro h3' hl' with ⟨s1, s2⟩ | ⟨⟨i, hi, s1⟩, s2⟩
 ·
  rw [s2, Wb]
  simp only [Zgm]
  rw [beqd]
  refine ⟨decide (0 + (Yow h.rooms : Int) = (h.stream.length : Int)), ?_, ?_⟩
  ·
   rw [decide_eq_true_eq]
   exact ⟨fun k => ⟨h3', hl', hro, s1, by omega⟩, fun k => by have := k.2.2.2.2; omega⟩
  ·
   cases decide (0 + (Yow h.rooms : Int) = (h.stream.length : Int)) <;> rfl
 ·
  rw [s2, Wb]
  exact ⟨false, ⟨fun x => (by cases x), fun x => by have := x.2.2.2.1 i hi; rw [s1] at this; cases this⟩, rfl⟩
end Go.Proofs.YtmaefakalikkiaaGreat
namespace Go.Proofs.YtmaefakalikkiaaGreat
open Go Go.Abs

def accG (g : Y9w) : List Pr := (accT g.events (okB g)).map fun id => (g.room, id)
def accA (l : List Y9w) : List Pr := l.flatMap accG
theorem Yp4 : ∀ l : List Y9w, (accA l).length = Yow l
 | [] => rfl
 | g :: l => by
  unfold accA Yow
  rw [List.flatMap_cons, List.length_append, List.map_cons, List.sum_cons]
  show (accG g).length + (accA l).length = _
  rw [Yp4 l]
  unfold accG Yov
  rw [List.length_map]; rfl
theorem Yp5 {g : Y9w} {y : Pr} : y ∈ accG g ↔ y.1 = g.room ∧ hasE g.events y.2 = true ∧ okB g y.2 = true := by
 unfold accG accT
 rw [List.mem_map]
 constructor
 ·
  rintro ⟨id, h, rfl⟩
  obtain ⟨h1, h2⟩ := List.mem_filter.1 h
  exact ⟨rfl, Ym1.2 h1, h2⟩
 ·
  rintro ⟨h1, h2, h3⟩
  exact ⟨y.2, List.mem_filter.2 ⟨Ym1.1 h2, h3⟩, Prod.ext h1.symm rfl⟩
theorem Yop.inj {h : Y9x} (k : Yop h) {g g' : Y9w} (hg : g ∈ h.rooms) (hg' : g' ∈ h.rooms) (e : g.room = g'.room) : g = g' := by
 obtain ⟨i, hi, rfl⟩ := List.mem_iff_getElem.1 hg
 obtain ⟨j, hj, rfl⟩ := List.mem_iff_getElem.1 hg'
 rw [(k i hi).2, (k j hj).2] at e
 obtain rfl : i = j := by omega
 rfl
theorem Yp6 {h : Y9x} (k : Yop h) : (accA h.rooms).Nodup := by
 unfold accA
 rw [List.nodup_iff_pairwise_ne, List.pairwise_flatMap]
 constructor
 ·
  intro g hg
  unfold accG
  rw [List.pairwise_map]
  exact (Ynk (k.right g hg).fits _).imp fun {a b} h e => by have := (Prod.mk.inj e).2; omega
 ·
  rw [List.pairwise_iff_getElem]
  intro i j hi hj hij x hx y hy e
  have h1 := (Yp5.1 hx).1
  have h2 := (Yp5.1 hy).1
  rw [(k i hi).2] at h1
  rw [(k j hj).2] at h2
  rw [e] at h1
  omega
theorem Yp7 {h : Y9x} (k : Yop h) {g : Y9w} (hg : g ∈ h.rooms) {id : Int} : (g.room, id) ∈ accA h.rooms ↔ hasE g.events id = true ∧ okB g id = true := by
 unfold accA
 rw [List.mem_flatMap]
 constructor
 ·
  rintro ⟨g', h1, h2⟩
  obtain ⟨h3, h4⟩ := Yp5.1 h2
  obtain rfl := k.inj hg h1 h3
  exact h4
 ·
  exact fun h' => ⟨g, hg, Yp5.2 ⟨rfl, h'⟩⟩

theorem Yp8 {s : List Pr} {g : Y9w} (h : ∀ e ∈ g.events, okB g e.id = inS s g e) : Yoa s g = Yov g := by
 unfold Yoa Yov accT
 rw [List.filter_map, List.length_map]
 exact congrArg List.length (List.filter_congr fun e he => (h e he).symm)
theorem Yp9 {s : List Pr} : ∀ {l : List Y9w}, (∀ g ∈ l, ∀ e ∈ g.events, okB g e.id = inS s g e) → Yob s l = Yow l
 | [], _ => rfl
 | g :: l, h => by
  unfold Yob Yow
  rw [List.map_cons, List.map_cons, List.sum_cons, List.sum_cons, Yp8 (h g (by simp))]
  have := Yp9 (s := s) (l := l) fun g' hg' => h g' (by simp [hg'])
  unfold Yob Yow at this
  rw [this]

structure Ypa (h : Y9x) : Prop where
 three : h.rooms.length = 3
 slen : h.stream.length ≤ 120
 rooms : Yop h
 nodup : (prs h.stream).Nodup
 all : ∀ y, y ∈ prs h.stream ↔ y ∈ accA h.rooms

theorem OkI.hub {h : Y9x} (k : OkI h) : Ypa h := by
 obtain ⟨h3, hl, hro, hst, hle⟩ := k
 have hX : ∀ (i : Nat) (hi : i < h.stream.length), stX h i h.stream[i] = true := fun i hi => by
  have := hst i hi
  unfold stB at this
  rwa [dif_pos hi] at this
 have hnd : (prs h.stream).Nodup := Yo2.2 fun i hi => by
  have hi' : i < h.stream.length := by rw [Yos] at hi; exact hi
  have := hX i hi'
  unfold stX at this
  simp only [Bool.and_eq_true] at this
  rw [Yor hi']
  simpa using this.1.1.1.2
 have hsub : ∀ y ∈ prs h.stream, y ∈ accA h.rooms := fun y hy => by
  obtain ⟨i, hi, rfl⟩ := List.mem_iff_getElem.1 hy
  have hi' : i < h.stream.length := by rw [Yos] at hi; exact hi
  have := hX i hi'
  unfold stX at this
  simp only [Bool.and_eq_true, decide_eq_true_eq] at this
  obtain ⟨k, hk, k1, _, k3⟩ := Yoz h3 this.1.1.1.1
  rw [Yor hi']
  rw [k3] at this
  have hr : h.stream[i].room = h.rooms[k].room := by rw [(hro k hk).2]; exact k1
  rw [hr]
  exact (Yp7 hro (Wm hk)).2 ⟨this.1.1.2, this.1.2⟩
 refine ⟨h3, hl, hro, hnd, fun y => ⟨hsub y, Yo4 hnd hsub (by rw [Yp4, Yos]; omega) y⟩⟩

theorem Ypa.inS {h : Y9x} (k : Ypa h) {g : Y9w} (hg : g ∈ h.rooms) {e : Y9r} (he : e ∈ g.events) : okB g e.id = inS (prs h.stream) g e := by
 unfold Go.Proofs.YtmaefakalikkiaaGreat.inS
 rw [Bool.eq_iff_iff, decide_eq_true_eq, Ynx, k.all, Yp7 k.rooms hg]
 exact ⟨fun h' => ⟨Yhn.2 ⟨e, he, rfl⟩, h'⟩, fun h' => h'.2⟩

theorem Ypb {h : Y9x} : OkI h ↔ OkS h := by
 constructor
 ·
  intro k
  have hu := k.hub
  obtain ⟨h3, hl, hro, hst, hle⟩ := k
  refine ⟨h3, hl, hro, hu.nodup, fun g hg e he => ?_, by rw [Yp9 fun g hg e he => hu.inS hg he]; exact hle⟩
  unfold strE
  rw [hu.inS hg he]
  cases hin : inS (prs h.stream) g e with
  | false => rfl
  | true =>
   simp only [beq_self_eq_true, Bool.not_true, Bool.false_or, Bool.true_and, List.all_eq_true, decide_eq_true_eq]
   intro p hp
   have hin' : 0 < posP (prs h.stream) (g.room, e.id) := by simpa [inS] using hin
   have hy := Ynx.1 hin'
   obtain ⟨i, hi, hiy⟩ := List.mem_iff_getElem.1 hy
   have hi' : i < h.stream.length := by rw [Yos] at hi; exact hi
   have hpi : posP (prs h.stream) (g.room, e.id) = (i : Int) + 1 := by
    unfold posP; rw [if_pos hy, ← hiy, Yo1 hu.nodup hi]
   have hx := hst i hi'
   unfold stB at hx
   rw [dif_pos hi'] at hx
   unfold stX at hx
   simp only [Bool.and_eq_true, decide_eq_true_eq] at hx
   rw [Yor hi'] at hiy
   obtain ⟨e1, e2⟩ := Prod.mk.inj hiy
   obtain ⟨k, hk, k1, _, k3⟩ := Yoz h3 hx.1.1.1.1
   have hgk : h.rooms[k] = g := hro.inj (Wm hk) hg (by rw [(hro k hk).2, ← k1, e1])
   rw [k3, hgk, e1, e2] at hx
   have hev : evD g.events e.id = e := by unfold evD; rw [(hro.right g hg).fits.up.evAt_mem he]; rfl
   rw [hev] at hx
   have hpp := List.all_eq_true.1 hx.2 p hp
   simp only [Bool.or_eq_true, Bool.not_eq_true', decide_eq_true_eq] at hpp
   rcases hpp with hpp | hpp
   ·
    have : (g.room, p) ∉ prs h.stream := fun hm => by
     have := ((Yp7 hro hg).1 ((hu.all _).1 hm)).2
     rw [hpp] at this; cases this
    have h0 : posP (prs h.stream) (g.room, p) = 0 := by unfold posP; rw [if_neg this]
    omega
   ·
    have := ((Ynz (by omega)).1 hpp).2
    omega
 ·
  rintro ⟨h3, hl, hro, hnd, hst, hma⟩
  have hok : ∀ g ∈ h.rooms, ∀ e ∈ g.events, okB g e.id = inS (prs h.stream) g e := fun g hg e he => by
   have := hst g hg e he
   unfold strE at this
   rw [Bool.and_eq_true] at this
   simpa using this.1
  have hle : Yow h.rooms = h.stream.length := by rw [← Yp9 hok]; exact hma
  have hsub : ∀ y ∈ accA h.rooms, y ∈ prs h.stream := fun y hy => by
   unfold accA at hy
   obtain ⟨g, hg, hy⟩ := List.mem_flatMap.1 hy
   obtain ⟨h1, h2, h4⟩ := Yp5.1 hy
   obtain ⟨e, he, h5⟩ := Yhn.1 h2
   have := hok g hg e he
   rw [h5, h4] at this
   have h6 : 0 < posP (prs h.stream) (g.room, e.id) := by simpa [inS] using this.symm
   have := Ynx.1 h6
   rw [h5, ← h1] at this
   exact this
  have hall := Yo4 (Yp6 hro) hsub (by rw [Yp4, Yos]; omega)
  refine ⟨h3, hl, hro, fun i hi => ?_, hle⟩
  have hil : i < (prs h.stream).length := by rw [Yos]; exact hi
  have hmem : (h.stream[i].room, h.stream[i].id) ∈ prs h.stream := by rw [← Yor hi hil]; exact Wm _
  have hacc := hall _ hmem
  unfold accA at hacc
  obtain ⟨g, hg, hy⟩ := List.mem_flatMap.1 hacc
  obtain ⟨h1, h2, h4⟩ := Yp5.1 hy
  simp only at h1 h2 h4
  obtain ⟨k, hk, hkg⟩ := List.mem_iff_getElem.1 hg
  have hroom : g.room = (k : Int) + 1 := by rw [← hkg]; exact (hro k hk).2
  have hx : 1 ≤ h.stream[i].room ∧ h.stream[i].room ≤ 3 := by omega
  obtain ⟨k', hk', k1, _, k3⟩ := Yoz h3 hx
  obtain rfl : k' = k := by omega
  rw [hkg] at k3
  have hnt := Yo2.1 hnd i hil
  rw [Yor hi] at hnt
  unfold stB
  rw [dif_pos hi]
  unfold stX
  rw [k3, h2, h4, Wt hx, Wf hnt]
  simp only [Bool.not_false, Bool.true_and, List.all_eq_true, Bool.or_eq_true, Bool.not_eq_true', decide_eq_true_eq]
  intro p hp
  cases hop : okB g p with
  | false => exact .inl rfl
  | true =>
   right
   have hr := hro.right g hg
   obtain ⟨_, e2, e3⟩ := Ylr (Ym1.1 h2) hr.fits.up
   have hse := hst g hg _ e2
   unfold strE at hse
   rw [Bool.and_eq_true] at hse
   have hine : inS (prs h.stream) g (evD g.events h.stream[i].id) = true := by rw [← hok g hg _ e2, e3]; exact h4
   rw [hine] at hse
   simp only [Bool.not_true, Bool.false_or, List.all_eq_true, decide_eq_true_eq] at hse
   have hlt := hse.2 p hp
   rw [e3, ← h1] at hlt
   have hpi : posP (prs h.stream) (h.stream[i].room, h.stream[i].id) = (i : Int) + 1 := by
    unfold posP; rw [if_pos hmem]
    have := Yo1 hnd hil
    rw [Yor hi] at this
    rw [this]
   obtain ⟨ep, hep, hepi⟩ := Yhn.1 (hr.fits.whole _ e2 p hp)
   have hinp := hok g hg ep hep
   rw [hepi, hop] at hinp
   have h7 : 0 < posP (prs h.stream) (g.room, ep.id) := by simpa [inS] using hinp.symm
   rw [hepi, ← h1] at h7
   exact (Ynz (by omega)).2 ⟨h7, by omega⟩

theorem Ypc {h : Y9x} (hf : Yom h) : ∃ b : Bool, (b = true → Ypa h) ∧ Z7q h = some (cond b (wOf h, true) (zW, false)) ∧ Zgv h = some (cond b (sOf h, true) (zS, false)) := by
 obtain ⟨b, b1, b2⟩ := You hf
 obtain ⟨c, c1, c2⟩ := Yp3 hf
 have : b = c := by rw [Bool.eq_iff_iff, b1, c1]; exact Ypb.symm
 subst this
 exact ⟨b, fun x => (c1.1 x).hub, b2, c2⟩
end Go.Proofs.YtmaefakalikkiaaGreat
namespace Go.Proofs.YtmaefakalikkiaaGreat
open Go Go.Abs


def wtG {α : Type} (n : α → Nat) (l : List α) : Nat := (l.map n).sum
theorem Ypd {α : Type} (n : α → Nat) (x : α) (l : List α) : wtG n (x :: l) = n x + wtG n l := by unfold wtG; rw [List.map_cons, List.sum_cons]
theorem Ype {α : Type} (n : α → Nat) {l : List α} {i : Nat} (hi : i < l.length) : wtG n (l.take (i + 1)) = wtG n (l.take i) + n l[i] := by
 rw [List.take_add_one, We hi]
 show ((List.take i l ++ [l[i]]).map n).sum = ((List.take i l).map n).sum + n l[i]
 rw [List.map_append, List.sum_append]
 simp only [List.map_cons, List.map_nil, List.sum_cons, List.sum_nil, Nat.add_zero]
def nG (g : Y9s) : Nat := g.events.length + g.parked.length
structure HIn (h : THub) : Prop where
 rl : h.rooms.length ≤ maxLen
 rg : ∀ g ∈ h.rooms, GIn g
 sl : h.stream.length ≤ maxLen
structure Ypf (h : THub) : Prop where
 rl : h.rooms.length ≤ 1048576
 rg : ∀ g ∈ h.rooms, Ymx g.events ∧ Ymx g.parked
 wt : wtG nG h.rooms ≤ 1048576
 sl : h.stream.length ≤ 1048576

theorem Ypg (p : List Y9s) (n : Int) (hl : p.length ≤ maxLen) (hp : ∀ g ∈ p, GIn g) (h0 : 0 ≤ n) (hn : n ≤ 1048576) : ∃ r, Zd p n = some r ∧ ((0 ≤ r ∧ r + (p.length + wtG nG p : Nat) ≤ n ∧ ∀ g ∈ p, Ymx g.events ∧ Ymx g.parked) ∨ r = -1) := by
 simp only [maxLen] at hl
 unfold Zd
 rw [Y4v (by omega) (by omega)]
 by_cases h : n - (p.length : Int) < 0
 ·
  rw [Wt h]; exact ⟨_, rfl, .inr rfl⟩
 ·
  rw [Wf h, Wv]
  obtain ⟨o, h1, h2⟩ := Ygj (τ := Int × Int) (ω := Int ⊕ Int) (σ := Int) (step := fun z : Int × Int => Zc p z.1 z.2) (n := p.length) (fun s j => (s, j))
   (fun i s => 0 ≤ s ∧ s + (p.length + wtG nG (p.take i) : Nat) ≤ n ∧ ∀ (j : Nat) (hj : j < p.length), j < i → Ymx p[j].events ∧ Ymx p[j].parked) (fun o => o = .inl (-1) ∨ ∃ r, o = .inr r ∧ 0 ≤ r ∧ r + (p.length + wtG nG p : Nat) ≤ n ∧ ∀ g ∈ p, Ymx g.events ∧ Ymx g.parked) (by omega) (by
   rintro i s hi ⟨hs0, hsn, hI⟩
   obtain ⟨r, e1, e2⟩ := Ymz p[i] s (hp _ (Wm hi)) hs0 (by omega)
   simp only [Zc]
   rw [dlt hi, Wu, Ygk hi, Wb, e1, Wb, Ygl hi (by omega)]
   rcases e2 with ⟨e2, e3, e4⟩ | rfl
   ·
    rw [Wf (by omega), Wv]
    refine .inl ⟨r, rfl, e2, by have hng : nG p[i] = p[i].events.length + p[i].parked.length := rfl; rw [Ype nG hi]; omega, fun j hj hji => ?_⟩
    rcases Nat.lt_or_ge j i with h | h
    ·
     exact hI j hj h
    ·
     obtain rfl : j = i := by omega
     exact e4
   ·
    exact .inr ⟨_, rfl, .inl rfl⟩) (by
   rintro s ⟨hs0, hsn, hI⟩
   simp only [Zc]
   rw [dnlt, Wv]
   rw [List.take_length] at hsn
   refine ⟨_, rfl, .inr ⟨s, rfl, hs0, hsn, fun e he => ?_⟩⟩
   obtain ⟨j, hj, rfl⟩ := List.mem_iff_getElem.1 he
   exact hI j hj hj) (s := n - (p.length : Int)) ⟨by omega, by simp [wtG], fun j hj h => by omega⟩
  rw [h1, Wb]
  rcases h2 with rfl | ⟨r, rfl, h3⟩
  ·
   exact ⟨_, rfl, .inr rfl⟩
  ·
   exact ⟨_, rfl, .inl h3⟩

def toH (h : THub) : Y9x := ⟨h.rooms.map toG, h.stream⟩
theorem Yph (p : List Y9s) (hl : p.length ≤ 1048576) (hp : ∀ g ∈ p, Ymx g.events ∧ Ymx g.parked) : Z1a p = some (p.map toG) := by
 unfold Z1a
 rw [Y4w (Wt ⟨by omega, by omega⟩), Wb, Int.toNat_natCast]
 rw [Yn0 (xs := p) toG (by omega) (fun i s hi hs => by
  have := hp _ (Wm hi)
  simp only [Z19]
  rw [dlt hi, Wu, Ygk hi, Wb, Yn4 _ this.1 this.2, Wb, Ygk (by omega : i < s.length), Wb, Ygl hi (by omega), Int.toNat_natCast]) (fun s => by simp only [Z19]; rw [dnlt, Wv])]
 rfl
theorem Ypi (p : List Y9t) (hl : p.length ≤ 1048576) : Z1h p = some p := by
 unfold Z1h
 rw [Y4w (Wt ⟨by omega, by omega⟩), Wb, Int.toNat_natCast]
 rw [Yn0 (xs := p) (fun x => x) (by omega) (fun i s hi hs => by
  simp only [Z1g]
  rw [dlt hi, Wu, Ygk hi, Wb]
  unfold Z1d
  rw [Wb, Ygk (by omega : i < s.length), Wb, Ygl hi (by omega), Int.toNat_natCast]) (fun s => by simp only [Z1g]; rw [dnlt, Wv])]
 simp [Z1f]
theorem Ypj (h : THub) (hs : Ypf h) : Z1j h = some (toH h) := by
 unfold Z1j
 rw [Yph _ hs.rl hs.rg, Wb, Ypi _ hs.sl]; rfl


theorem Ypk (p : List Y9w) (hl : p.length ≤ 1048576) (hp : ∀ g ∈ p, Ymx g.events ∧ Ymx g.parked) : Zir p p = some true := by
 unfold Zir
 rw [bned, Wt rfl]
 simp only [Bool.not_true, Wv]
 rw [Yh0 (l := p) (fun _ => true) (.inl false) (.inr ()) (by omega) (fun i hi => by
  have := hp _ (Wm hi)
  simp only [Ziq]
  rw [dlt hi, Wu, Ygk hi, Wb, Wb, Yn9 _ this.1 this.2, Wb, Ygl hi (by omega)]; rfl) (by simp only [Ziq]; rw [dnlt, Wv])]
 rw [show (p.all fun _ => true) = true by simp]; rfl
theorem Ypl (p : List Y9t) (hl : p.length ≤ 1048576) : Zix p p = some true := by
 unfold Zix
 rw [bned, Wt rfl]
 simp only [Bool.not_true, Wv]
 rw [Yh0 (l := p) (fun _ => true) (.inl false) (.inr ()) (by omega) (fun i hi => by
  simp only [Ziw]
  rw [dlt hi, Wu, Ygk hi, Wb, Wb, show Zit p[i] p[i] = some true by simp [Zit], Wb, Ygl hi (by omega)]; rfl) (by simp only [Ziw]; rw [dnlt, Wv])]
 rw [show (p.all fun _ => true) = true by simp]; rfl
theorem Ypm {h : THub} (hs : Ypf h) : ∀ g ∈ (toH h).rooms, Ymx g.events ∧ Ymx g.parked := fun g hg => by
 obtain ⟨g0, h1, rfl⟩ := List.mem_map.1 hg
 exact hs.rg g0 h1
theorem w1 (x : Int) (h0 : 0 ≤ x) (h1 : x ≤ 1000000000000000) : IntKind.i64.wrap (x + 1) = x + 1 := Y4v (by omega) (by omega)

end Go.Proofs.YtmaefakalikkiaaGreat
namespace Go.Proofs.YtmaefakalikkiaaGreat
open Go Go.Abs

def txtM (n : Int) : ByteArray := (Zjh n).getD ByteArray.empty
theorem Ypn (n : Int) (h0 : 0 ≤ n) (hn : n ≤ 1000000000000000) : Zjh n = some (txtM n) := by
 obtain ⟨t, ht⟩ := Yng n h0 hn
 unfold txtM
 rw [ht]; rfl
end Go.Proofs.YtmaefakalikkiaaGreat
namespace Go.Proofs.YtmaefakalikkiaaGreat
open Go Go.Abs

section
variable {α : Type} (mk : Int → α → α) (w : α → Nat)
def mkS : Int → List α → List α
 | _, [] => []
 | n, x :: l => mk n x :: mkS (n + w x) l
theorem Ypo : ∀ (l : List α) (n : Int), (mkS mk w n l).length = l.length
 | [], _ => rfl
 | x :: l, n => by simp [mkS, Ypo l]
theorem Ypp : ∀ (l : List α) (n : Int) (x : α), mkS mk w n (l ++ [x]) = mkS mk w n l ++ [mk (n + wtG w l) x]
 | [], n, x => by simp [mkS, wtG]
 | a :: l, n, x => by
  simp only [List.cons_append, mkS]
  rw [Ypp l, Ypd, show n + (w a : Int) + (wtG w l : Int) = n + ((w a + wtG w l : Nat) : Int) by omega]
theorem Ypq : ∀ (l : List α) (n : Int) (i : Nat) (h1 : i < (mkS mk w n l).length) (h2 : i < l.length), (mkS mk w n l)[i] = mk (n + wtG w (l.take i)) l[i]
 | [], _, i, _, h2 => by simp at h2
 | x :: l, n, 0, _, _ => by simp [mkS, wtG]
 | x :: l, n, i + 1, h1, h2 => by
  simp only [mkS, List.getElem_cons_succ, List.take_succ_cons]
  rw [Ypq l (n + w x) i _ (by simpa using h2), Ypd, show n + (w x : Int) + (wtG w (l.take i) : Int) = n + ((w x + wtG w (l.take i) : Nat) : Int) by omega]
theorem Ypr {l : List α} (i : Nat) : wtG w (l.take i) ≤ wtG w l := by
 have : wtG w l = wtG w (l.take i) + wtG w (l.drop i) := by
  conv => lhs; rw [← List.take_append_drop i l]
  unfold wtG; rw [List.map_append, List.sum_append]
 omega
theorem Yps {l : List α} {i : Nat} (hi : i < l.length) : wtG w (l.take i) + w l[i] ≤ wtG w l := by
 have h1 := Ype w hi
 have h2 := Ypr w (l := l) (i + 1)
 omega
theorem Ypt {v : α → Nat} {c : Nat} : ∀ {l : List α}, (∀ x ∈ l, w x ≤ c * v x) → wtG w l ≤ c * wtG v l
 | [], _ => by simp [wtG]
 | x :: l, h => by
  have h1 := Ypt (v := v) (c := c) (l := l) fun y hy => h y (by simp [hy])
  have h2 := h x (by simp)
  rw [Ypd, Ypd, Nat.mul_add]
  omega
variable {mk w}
theorem Ypu {p : List α} {n : Int} {step : List α × Int × Int → Option ((List α × Int × Int) ⊕ (Int × List α))} (hl : p.length < 9223372036854775807)
  (hs : ∀ (i : Nat) (hi : i < p.length) (l : List α) (k : Int), i < l.length → l.length = p.length → l[i]? = some p[i] → k = n + wtG w (p.take i) → step (l, k, i) = some (.inl (l.set i (mk k p[i]), k + w p[i], ((i + 1 : Nat) : Int))))
  (he : ∀ (l : List α) (k : Int), l.length = p.length → step (l, k, p.length) = some (.inr (k, l))) : iter step big (p, n, 0) = some (n + wtG w p, mkS mk w n p) := by
 obtain ⟨o, e1, rfl⟩ := Ygi (τ := List α × Int × Int) (ω := Int × List α) (σ := List α × Int) (step := step) (n := p.length) (fun s j => (s.1, s.2, j)) (fun i s => s = (mkS mk w n (p.take i) ++ p.drop i, n + wtG w (p.take i))) (fun o => o = (n + wtG w p, mkS mk w n p)) hl (by
  rintro i s hi rfl
  have hlen : (mkS mk w n (p.take i)).length = i := by rw [Ypo, List.length_take]; omega
  have hll : (mkS mk w n (p.take i) ++ p.drop i).length = p.length := by rw [List.length_append, hlen, List.length_drop]; omega
  refine ⟨(_, _), hs i hi _ _ (by simp only; omega) hll (by simp only; rw [List.getElem?_append_right (by omega), hlen, Nat.sub_self, List.getElem?_drop]; simp) rfl, ?_⟩
  have etk : p.take (i + 1) = p.take i ++ [p[i]] := by rw [List.take_add_one, We hi]; rfl
  refine Prod.ext ?_ ?_
  ·
   show List.set _ _ _ = _
   rw [etk, Ypp, List.set_append_right _ _ (by omega), hlen, Nat.sub_self, List.drop_eq_getElem_cons hi, List.append_assoc]
   rfl
  ·
   show n + (wtG w (p.take i) : Int) + (w p[i] : Int) = _
   rw [Ype w hi]
   omega) (by
  rintro s rfl
  refine ⟨_, he _ _ (by rw [List.take_length, List.drop_length, List.append_nil, Ypo]), ?_⟩
  rw [List.take_length, List.drop_length, List.append_nil]) (s := (p, n)) (by simp [mkS, wtG])
 exact e1
theorem Ypv {p : List α} {n : Int} {step : Int × Int → Option ((Int × Int) ⊕ (Int ⊕ Int))} (hl : p.length < 9223372036854775807)
  (hs : ∀ (i : Nat) (hi : i < p.length) (k : Int), k = n + wtG w (p.take i) → step (k, i) = some (.inl (k + w p[i], ((i + 1 : Nat) : Int))))
  (he : ∀ k : Int, step (k, p.length) = some (.inr (.inr k))) : iter step big (n, 0) = some (.inr (n + wtG w p)) := by
 obtain ⟨o, e1, rfl⟩ := Ygi (τ := Int × Int) (ω := Int ⊕ Int) (σ := Int) (step := step) (n := p.length) (fun s j => (s, j)) (fun i s => s = n + wtG w (p.take i)) (fun o => o = .inr (n + wtG w p)) hl (by
  rintro i s hi rfl
  exact ⟨_, hs i hi _ rfl, by rw [Ype w hi]; omega⟩) (by
  rintro s rfl
  exact ⟨_, he _, by rw [List.take_length]⟩) (s := n) (by simp [wtG])
 exact e1
end


def wEv (e : Y9r) : Nat := 8 + e.prev.length
def mkEv (n : Int) (e : Y9r) : Y9r := ⟨n, n + 1, n + 2, n + 3, n + 4, n + 5, txtM (n + 6), Yna (n + 7) e.prev.length, n + 7 + e.prev.length⟩

theorem Ypw (p : List Y9r) (n : Int) (hp : Ymx p) (h0 : 0 ≤ n) (hn : n + wtG wEv p ≤ 900000000000000) : Zjp p n = some (n + wtG wEv p, mkS mkEv wEv n p) := by
 have hpl := hp.1
 unfold Zjp
 rw [Ypu (mk := mkEv) (w := wEv) (p := p) (n := n) (step := fun z : List Y9r × Int × Int => Zjo z.1 z.2.1 z.2.2) (by omega) (by
  rintro i hi l k hil hll hli rfl
  have hw := Yps wEv hi
  have hpr := (hp.2 _ (Wm hi)).1
  have hg : getI l (i : Int) = some p[i] := Y4x hli
  generalize hk : n + (wtG wEv (p.take i) : Int) = k
  generalize p[i] = u at hg hw hpr
  have hwe : wEv u = 8 + u.prev.length := rfl
  have ht := Ypn (k + 1 + 1 + 1 + 1 + 1 + 1) (by omega) (by omega)
  have hmk := Yne u.prev (k + 1 + 1 + 1 + 1 + 1 + 1 + 1) (by omega) (by omega) (by omega)
  simp only [Zjo]
  rw [Wt (by omega : (i : Int) < (l.length : Int)), Wu, Ygl hi (by omega)]
  rw [w1 k (by omega) (by omega), w1 (k + 1) (by omega) (by omega), w1 (k + 1 + 1) (by omega) (by omega), w1 (k + 1 + 1 + 1) (by omega) (by omega), w1 (k + 1 + 1 + 1 + 1) (by omega) (by omega), w1 (k + 1 + 1 + 1 + 1 + 1) (by omega) (by omega), w1 (k + 1 + 1 + 1 + 1 + 1 + 1) (by omega) (by omega)]
  simp only [Int.toNat_natCast, hg, Ynh, List.length_set, hil, List.set_set, Wb, ht, hmk]
  rw [w1 (k + 1 + 1 + 1 + 1 + 1 + 1 + 1 + (u.prev.length : Int)) (by omega) (by omega)]
  unfold mkEv wEv
  rw [show k + 1 + 1 = k + 2 by omega, show k + 2 + 1 = k + 3 by omega, show k + 3 + 1 = k + 4 by omega, show k + 4 + 1 = k + 5 by omega, show k + 5 + 1 = k + 6 by omega, show k + 6 + 1 = k + 7 by omega, show k + 7 + (u.prev.length : Int) + 1 = k + ((8 + u.prev.length : Nat) : Int) by omega]) (fun l k hll => by
  simp only [Zjo]
  rw [hll, dnlt, Wv])]
 rfl

theorem Ypx (p : List Y9r) (n : Int) (hp : Ymx p) (h0 : 0 ≤ n) (hn : n + wtG wEv p ≤ 900000000000000) : Zkk (mkS mkEv wEv n p) n = some (n + wtG wEv p) := by
 have hpl := hp.1
 unfold Zkk
 rw [Ypv (w := wEv) (p := p) (n := n) (step := fun z : Int × Int => Zkj (mkS mkEv wEv n p) z.1 z.2) (by omega) (by
  rintro i hi k hk
  have hw := Yps wEv hi
  have hpr := (hp.2 _ (Wm hi)).1
  have hi' : i < (mkS mkEv wEv n p).length := by rw [Ypo]; exact hi
  have hgt := Ypq mkEv wEv p n i hi' hi
  rw [← hk] at hgt
  simp only [Zkj]
  rw [Ypo, dlt hi, Wu, Ygk hi', Wb, hgt, Ygl hi (by omega)]
  generalize p[i] = u at hw hpr
  have hwe : wEv u = 8 + u.prev.length := rfl
  have ht := Ypn (k + 6) (by omega) (by omega)
  have hh := Ynf u.prev.length (k + 7) (by omega) (by omega) (by omega)
  rw [w1 k (by omega) (by omega), w1 (k + 1) (by omega) (by omega), w1 (k + 1 + 1) (by omega) (by omega), w1 (k + 1 + 1 + 1) (by omega) (by omega), w1 (k + 1 + 1 + 1 + 1) (by omega) (by omega), w1 (k + 1 + 1 + 1 + 1 + 1) (by omega) (by omega), w1 (k + 1 + 1 + 1 + 1 + 1 + 1) (by omega) (by omega)]
  rw [show k + 1 + 1 = k + 2 by omega, show k + 2 + 1 = k + 3 by omega, show k + 3 + 1 = k + 4 by omega, show k + 4 + 1 = k + 5 by omega, show k + 5 + 1 = k + 6 by omega, show k + 6 + 1 = k + 7 by omega, ht, Wb]
  unfold mkEv
  simp only
  rw [hh, Wb, w1 (k + 7 + (u.prev.length : Int)) (by omega) (by omega), Wf (by omega : ¬ k + 7 + (u.prev.length : Int) < 0)]
  simp only [bne_self_eq_false, Wv, beq_self_eq_true, Wu]
  unfold wEv
  rw [show k + 7 + (u.prev.length : Int) + 1 = k + ((8 + u.prev.length : Nat) : Int) by omega]) (fun k => by
  simp only [Zkj]
  rw [Ypo, dnlt, Wv])]
 rfl


def wGr (g : Y9w) : Nat := 1 + wtG wEv g.events + wtG wEv g.parked
def mkGr (n : Int) (g : Y9w) : Y9w := ⟨n, mkS mkEv wEv (n + 1) g.events, mkS mkEv wEv (n + 1 + wtG wEv g.events) g.parked⟩
def Ypy (p : List Y9w) : Prop := p.length ≤ 1048576 ∧ ∀ g ∈ p, Ymx g.events ∧ Ymx g.parked

theorem Ypz (p : List Y9w) (n : Int) (hp : Ypy p) (h0 : 0 ≤ n) (hn : n + wtG wGr p ≤ 900000000000000) : Zju p n = some (n + wtG wGr p, mkS mkGr wGr n p) := by
 have hpl := hp.1
 unfold Zju
 rw [Ypu (mk := mkGr) (w := wGr) (p := p) (n := n) (step := fun z : List Y9w × Int × Int => Zjt z.1 z.2.1 z.2.2) (by omega) (by
  rintro i hi l k hil hll hli rfl
  have hw := Yps wGr hi
  have hsm := hp.2 _ (Wm hi)
  have hg : getI l (i : Int) = some p[i] := Y4x hli
  generalize hk : n + (wtG wGr (p.take i) : Int) = k
  generalize p[i] = u at hg hw hsm
  have hwe : wGr u = 1 + wtG wEv u.events + wtG wEv u.parked := rfl
  have h1 := Ypw u.events (k + 1) hsm.1 (by omega) (by omega)
  have h2 := Ypw u.parked (k + 1 + wtG wEv u.events) hsm.2 (by omega) (by omega)
  simp only [Zjt]
  rw [Wt (by omega : (i : Int) < (l.length : Int)), Wu, Ygl hi (by omega), w1 k (by omega) (by omega)]
  simp only [Int.toNat_natCast, hg, Ynh, List.length_set, hil, List.set_set, Wb, h1, h2]
  unfold mkGr
  rw [hwe, show k + 1 + (wtG wEv u.events : Int) + (wtG wEv u.parked : Int) = k + ((1 + wtG wEv u.events + wtG wEv u.parked : Nat) : Int) by omega]) (fun l k hll => by
  simp only [Zjt]
  rw [hll, dnlt, Wv])]
 rfl
theorem Yq0 (p : List Y9w) (n : Int) (hp : Ypy p) (h0 : 0 ≤ n) (hn : n + wtG wGr p ≤ 900000000000000) : Zko (mkS mkGr wGr n p) n = some (n + wtG wGr p) := by
 have hpl := hp.1
 unfold Zko
 rw [Ypv (w := wGr) (p := p) (n := n) (step := fun z : Int × Int => Zkn (mkS mkGr wGr n p) z.1 z.2) (by omega) (by
  rintro i hi k hk
  have hw := Yps wGr hi
  have hsm := hp.2 _ (Wm hi)
  have hi' : i < (mkS mkGr wGr n p).length := by rw [Ypo]; exact hi
  have hgt := Ypq mkGr wGr p n i hi' hi
  rw [← hk] at hgt
  simp only [Zkn]
  rw [Ypo, dlt hi, Wu, Ygk hi', Wb, hgt, Ygl hi (by omega)]
  generalize p[i] = u at hw hsm
  have hwe : wGr u = 1 + wtG wEv u.events + wtG wEv u.parked := rfl
  have h1 := Ypx u.events (k + 1) hsm.1 (by omega) (by omega)
  have h2 := Ypx u.parked (k + 1 + wtG wEv u.events) hsm.2 (by omega) (by omega)
  rw [w1 k (by omega) (by omega)]
  unfold mkGr
  simp only
  rw [h1, Wb, Wf (by omega : ¬ k + 1 + (wtG wEv u.events : Int) < 0), h2, Wv, Wb, Wf (by omega : ¬ k + 1 + (wtG wEv u.events : Int) + (wtG wEv u.parked : Int) < 0)]
  simp only [bne_self_eq_false, Wv]
  rw [hwe, show k + 1 + (wtG wEv u.events : Int) + (wtG wEv u.parked : Int) = k + ((1 + wtG wEv u.events + wtG wEv u.parked : Nat) : Int) by omega]) (fun k => by
  simp only [Zkn]
  rw [Ypo, dnlt, Wv])]
 rfl


def wSp (_ : Y9t) : Nat := 2
def mkSp (n : Int) (_ : Y9t) : Y9t := ⟨n, n + 1⟩
theorem Yq1 (p : List Y9t) (n : Int) (hp : p.length ≤ 1048576) (h0 : 0 ≤ n) (hn : n + wtG wSp p ≤ 900000000000000) : Zjz p n = some (n + wtG wSp p, mkS mkSp wSp n p) := by
 unfold Zjz
 rw [Ypu (mk := mkSp) (w := wSp) (p := p) (n := n) (step := fun z : List Y9t × Int × Int => Zjy z.1 z.2.1 z.2.2) (by omega) (by
  rintro i hi l k hil hll hli rfl
  have hw := Yps wSp hi
  have hg : getI l (i : Int) = some p[i] := Y4x hli
  generalize hk : n + (wtG wSp (p.take i) : Int) = k
  generalize p[i] = u at hg hw
  have hwe : wSp u = 2 := rfl
  simp only [Zjy]
  rw [Wt (by omega : (i : Int) < (l.length : Int)), Wu, Ygl hi (by omega), w1 k (by omega) (by omega), w1 (k + 1) (by omega) (by omega)]
  simp only [Int.toNat_natCast, hg, Ynh, List.length_set, hil, List.set_set, Wb]
  unfold mkSp wSp
  rw [show k + 1 + 1 = k + ((2 : Nat) : Int) by omega]) (fun l k hll => by
  simp only [Zjy]
  rw [hll, dnlt, Wv])]
 rfl
theorem Yq2 (p : List Y9t) (n : Int) (hp : p.length ≤ 1048576) (h0 : 0 ≤ n) (hn : n + wtG wSp p ≤ 900000000000000) : Zks (mkS mkSp wSp n p) n = some (n + wtG wSp p) := by
 unfold Zks
 rw [Ypv (w := wSp) (p := p) (n := n) (step := fun z : Int × Int => Zkr (mkS mkSp wSp n p) z.1 z.2) (by omega) (by
  rintro i hi k hk
  have hw := Yps wSp hi
  have hi' : i < (mkS mkSp wSp n p).length := by rw [Ypo]; exact hi
  have hgt := Ypq mkSp wSp p n i hi' hi
  rw [← hk] at hgt
  have hwe : wSp p[i] = 2 := rfl
  simp only [Zkr]
  rw [Ypo, dlt hi, Wu, Ygk hi', Wb, hgt, Ygl hi (by omega), w1 k (by omega) (by omega), w1 (k + 1) (by omega) (by omega)]
  unfold mkSp wSp
  simp only [bne_self_eq_false, Wv]
  rw [show k + 1 + 1 = k + ((2 : Nat) : Int) by omega]) (fun k => by
  simp only [Zkr]
  rw [Ypo, dnlt, Wv])]
 rfl


structure SmH (h : Y9x) : Prop where
 rg : Ypy h.rooms
 sl : h.stream.length ≤ 1048576
def Yq3 (p : List Y9x) : Prop := p.length ≤ 1048576 ∧ ∀ h ∈ p, SmH h
def wHu (h : Y9x) : Nat := wtG wGr h.rooms + wtG wSp h.stream
def mkHu (n : Int) (h : Y9x) : Y9x := ⟨mkS mkGr wGr n h.rooms, mkS mkSp wSp (n + wtG wGr h.rooms) h.stream⟩
theorem Yq4 (p : List Y9x) (n : Int) (hp : Yq3 p) (h0 : 0 ≤ n) (hn : n + wtG wHu p ≤ 900000000000000) : Zk3 p n = some (n + wtG wHu p, mkS mkHu wHu n p) := by
 have hpl := hp.1
 unfold Zk3
 rw [Ypu (mk := mkHu) (w := wHu) (p := p) (n := n) (step := fun z : List Y9x × Int × Int => Zk2 z.1 z.2.1 z.2.2) (by omega) (by
  rintro i hi l k hil hll hli rfl
  have hw := Yps wHu hi
  have hsm := hp.2 _ (Wm hi)
  have hg : getI l (i : Int) = some p[i] := Y4x hli
  generalize hk : n + (wtG wHu (p.take i) : Int) = k
  generalize p[i] = u at hg hw hsm
  have hwe : wHu u = wtG wGr u.rooms + wtG wSp u.stream := rfl
  have h1 := Ypz u.rooms k hsm.rg (by omega) (by omega)
  have h2 := Yq1 u.stream (k + wtG wGr u.rooms) hsm.sl (by omega) (by omega)
  simp only [Zk2]
  rw [Wt (by omega : (i : Int) < (l.length : Int)), Wu, Ygl hi (by omega)]
  simp only [Int.toNat_natCast, hg, Ynh, hil, List.set_set, Wb, h1, h2]
  unfold mkHu
  rw [hwe, show k + (wtG wGr u.rooms : Int) + (wtG wSp u.stream : Int) = k + ((wtG wGr u.rooms + wtG wSp u.stream : Nat) : Int) by omega]) (fun l k hll => by
  simp only [Zk2]
  rw [hll, dnlt, Wv])]
 rfl
theorem Yq5 (p : List Y9x) (n : Int) (hp : Yq3 p) (h0 : 0 ≤ n) (hn : n + wtG wHu p ≤ 900000000000000) : Zkw (mkS mkHu wHu n p) n = some (n + wtG wHu p) := by
 have hpl := hp.1
 unfold Zkw
 rw [Ypv (w := wHu) (p := p) (n := n) (step := fun z : Int × Int => Zkv (mkS mkHu wHu n p) z.1 z.2) (by omega) (by
  rintro i hi k hk
  have hw := Yps wHu hi
  have hsm := hp.2 _ (Wm hi)
  have hi' : i < (mkS mkHu wHu n p).length := by rw [Ypo]; exact hi
  have hgt := Ypq mkHu wHu p n i hi' hi
  rw [← hk] at hgt
  simp only [Zkv]
  rw [Ypo, dlt hi, Wu, Ygk hi', Wb, hgt, Ygl hi (by omega)]
  generalize p[i] = u at hw hsm
  have hwe : wHu u = wtG wGr u.rooms + wtG wSp u.stream := rfl
  have h1 := Yq0 u.rooms k hsm.rg (by omega) (by omega)
  have h2 := Yq2 u.stream (k + wtG wGr u.rooms) hsm.sl (by omega) (by omega)
  unfold mkHu
  simp only
  rw [h1, Wb, Wf (by omega : ¬ k + (wtG wGr u.rooms : Int) < 0), h2, Wv, Wb, Wf (by omega : ¬ k + (wtG wGr u.rooms : Int) + (wtG wSp u.stream : Int) < 0), Wv]
  rw [hwe, show k + (wtG wGr u.rooms : Int) + (wtG wSp u.stream : Int) = k + ((wtG wGr u.rooms + wtG wSp u.stream : Nat) : Int) by omega]) (fun k => by
  simp only [Zkv]
  rw [Ypo, dnlt, Wv])]
 rfl


def wLe (_ : Y9u) : Nat := 5
def mkLe (n : Int) (_ : Y9u) : Y9u := ⟨n, n + 1, n + 2, n + 3, txtM (n + 4)⟩
theorem Yq6 (p : List Y9u) (n : Int) (hp : p.length ≤ 1048577) (h0 : 0 ≤ n) (hn : n + wtG wLe p ≤ 900000000000000) : Zk8 p n = some (n + wtG wLe p, mkS mkLe wLe n p) := by
 unfold Zk8
 rw [Ypu (mk := mkLe) (w := wLe) (p := p) (n := n) (step := fun z : List Y9u × Int × Int => Zk7 z.1 z.2.1 z.2.2) (by omega) (by
  rintro i hi l k hil hll hli rfl
  have hw := Yps wLe hi
  have hg : getI l (i : Int) = some p[i] := Y4x hli
  generalize hk : n + (wtG wLe (p.take i) : Int) = k
  generalize p[i] = u at hg hw
  have hwe : wLe u = 5 := rfl
  have ht := Ypn (k + 1 + 1 + 1 + 1) (by omega) (by omega)
  simp only [Zk7]
  rw [Wt (by omega : (i : Int) < (l.length : Int)), Wu, Ygl hi (by omega), w1 k (by omega) (by omega), w1 (k + 1) (by omega) (by omega), w1 (k + 1 + 1) (by omega) (by omega), w1 (k + 1 + 1 + 1) (by omega) (by omega), w1 (k + 1 + 1 + 1 + 1) (by omega) (by omega)]
  simp only [Int.toNat_natCast, hg, Ynh, List.length_set, hil, List.set_set, Wb, ht]
  unfold mkLe wLe
  rw [show k + 1 + 1 = k + 2 by omega, show k + 2 + 1 = k + 3 by omega, show k + 3 + 1 = k + 4 by omega, show k + 4 + 1 = k + ((5 : Nat) : Int) by omega]) (fun l k hll => by
  simp only [Zk7]
  rw [hll, dnlt, Wv])]
 rfl
theorem Yq7 (p : List Y9u) (n : Int) (hp : p.length ≤ 1048577) (h0 : 0 ≤ n) (hn : n + wtG wLe p ≤ 900000000000000) : Zl0 (mkS mkLe wLe n p) n = some (n + wtG wLe p) := by
 unfold Zl0
 rw [Ypv (w := wLe) (p := p) (n := n) (step := fun z : Int × Int => Zkz (mkS mkLe wLe n p) z.1 z.2) (by omega) (by
  rintro i hi k hk
  have hw := Yps wLe hi
  have hi' : i < (mkS mkLe wLe n p).length := by rw [Ypo]; exact hi
  have hgt := Ypq mkLe wLe p n i hi' hi
  rw [← hk] at hgt
  have hwe : wLe p[i] = 5 := rfl
  have ht := Ypn (k + 4) (by omega) (by omega)
  simp only [Zkz]
  rw [Ypo, dlt hi, Wu, Ygk hi', Wb, hgt, Ygl hi (by omega), w1 k (by omega) (by omega), w1 (k + 1) (by omega) (by omega), w1 (k + 1 + 1) (by omega) (by omega), w1 (k + 1 + 1 + 1) (by omega) (by omega), w1 (k + 1 + 1 + 1 + 1) (by omega) (by omega)]
  rw [show k + 1 + 1 = k + 2 by omega, show k + 2 + 1 = k + 3 by omega, show k + 3 + 1 = k + 4 by omega, ht, Wb]
  unfold mkLe wLe
  simp only [bne_self_eq_false, Wv, beq_self_eq_true, Wu]
  rw [show k + 4 + 1 = k + ((5 : Nat) : Int) by omega]) (fun k => by
  simp only [Zkz]
  rw [Ypo, dnlt, Wv])]
 rfl

theorem Yq8 {α : Type} {w : α → Nat} {c : Nat} (h : ∀ x, w x = c) : ∀ l : List α, wtG w l = c * l.length
 | [] => by simp [wtG]
 | x :: l => by rw [Ypd, Yq8 h l, h, List.length_cons, Nat.mul_add]; omega


theorem Yq9 (p : Y9y) (n : Int) (hp : Yq3 p.hubs) (hl : p.letters.length ≤ 1048577) (h0 : 0 ≤ n) (hn : n + wtG wHu p.hubs ≤ 800000000000000) :
  Zka p n = some (n + wtG wHu p.hubs + wtG wLe p.letters, mkS mkHu wHu n p.hubs, mkS mkLe wLe (n + wtG wHu p.hubs) p.letters) := by
 have h5 := Yq8 (w := wLe) (c := 5) (fun _ => rfl) p.letters
 unfold Zka
 rw [Yq4 _ _ hp h0 (by omega), Wb, Yq6 _ _ hl (by simp only; omega) (by simp only; omega)]; rfl
theorem Yqa (p : Y9y) (n : Int) (hp : Yq3 p.hubs) (hl : p.letters.length ≤ 1048577) (h0 : 0 ≤ n) (hn : n + wtG wHu p.hubs ≤ 800000000000000) :
  Zl2 ⟨mkS mkHu wHu n p.hubs, mkS mkLe wLe (n + wtG wHu p.hubs) p.letters⟩ n = some (n + wtG wHu p.hubs + wtG wLe p.letters) := by
 have h5 := Yq8 (w := wLe) (c := 5) (fun _ => rfl) p.letters
 unfold Zl2
 rw [Yq5 _ _ hp h0 (by omega), Wb, Wf (by omega), Wv, Yq7 _ _ hl (by omega) (by omega), Wb, Wf (by omega), Wv]
end Go.Proofs.YtmaefakalikkiaaGreat
namespace Go.Proofs.YtmaefakalikkiaaGreat
open Go Go.Abs

def nH (h : THub) : Nat := h.rooms.length + wtG nG h.rooms + h.stream.length
structure PIn (p : Y9v) : Prop where
 hl : p.hubs.length ≤ maxLen
 hh : ∀ h ∈ p.hubs, HIn h
 ll : p.letters.length ≤ maxLen
 lt : ∀ x ∈ p.letters, x.text.size ≤ maxLen
structure Yqb (p : Y9v) : Prop where
 hl : p.hubs.length ≤ 1048576
 hs : ∀ h ∈ p.hubs, Ypf h
 wt : wtG nH p.hubs ≤ 1048576
 ll : p.letters.length ≤ 1048576

theorem Yqc (h : THub) (n : Int) (hh : HIn h) (h0 : 0 ≤ n) (hn : n ≤ 1048576) : ∃ r, Zh h n = some r ∧ ((0 ≤ r ∧ r + (nH h : Nat) ≤ n ∧ Ypf h) ∨ r = -1) := by
 have hsl := hh.sl
 simp only [maxLen] at hsl
 unfold Zh
 obtain ⟨r, h1, h2⟩ := Ypg h.rooms n hh.rl hh.rg h0 hn
 rw [h1, Wb]
 rcases h2 with ⟨h2, h3, h4⟩ | rfl
 ·
  rw [Wf (by omega), Wv]
  unfold Zf
  rw [Y4v (by omega) (by omega)]
  by_cases h5 : r - (h.stream.length : Int) < 0
  ·
   rw [Wt h5]; exact ⟨_, rfl, .inr rfl⟩
  ·
   rw [Wf h5, Wv, Wb, Wf h5]
   exact ⟨_, rfl, .inl ⟨by omega, by unfold nH; omega, by omega, h4, by omega, by omega⟩⟩
 ·
  exact ⟨_, rfl, .inr rfl⟩

theorem Yqd (p : List THub) (n : Int) (hl : p.length ≤ maxLen) (hp : ∀ h ∈ p, HIn h) (h0 : 0 ≤ n) (hn : n ≤ 1048576) : ∃ r, Zl p n = some r ∧ ((0 ≤ r ∧ r + (p.length + wtG nH p : Nat) ≤ n ∧ ∀ h ∈ p, Ypf h) ∨ r = -1) := by
 simp only [maxLen] at hl
 unfold Zl
 rw [Y4v (by omega) (by omega)]
 by_cases h : n - (p.length : Int) < 0
 ·
  rw [Wt h]; exact ⟨_, rfl, .inr rfl⟩
 ·
  rw [Wf h, Wv]
  obtain ⟨o, h1, h2⟩ := Ygj (τ := Int × Int) (ω := Int ⊕ Int) (σ := Int) (step := fun z : Int × Int => Zk p z.1 z.2) (n := p.length) (fun s j => (s, j))
   (fun i s => 0 ≤ s ∧ s + (p.length + wtG nH (p.take i) : Nat) ≤ n ∧ ∀ (j : Nat) (hj : j < p.length), j < i → Ypf p[j]) (fun o => o = .inl (-1) ∨ ∃ r, o = .inr r ∧ 0 ≤ r ∧ r + (p.length + wtG nH p : Nat) ≤ n ∧ ∀ h ∈ p, Ypf h) (by omega) (by
   rintro i s hi ⟨hs0, hsn, hI⟩
   obtain ⟨r, e1, e2⟩ := Yqc p[i] s (hp _ (Wm hi)) hs0 (by omega)
   simp only [Zk]
   rw [dlt hi, Wu, Ygk hi, Wb, e1, Wb, Ygl hi (by omega)]
   rcases e2 with ⟨e2, e3, e4⟩ | rfl
   ·
    rw [Wf (by omega), Wv]
    refine .inl ⟨r, rfl, e2, by rw [Ype nH hi]; omega, fun j hj hji => ?_⟩
    rcases Nat.lt_or_ge j i with h | h
    ·
     exact hI j hj h
    ·
     obtain rfl : j = i := by omega
     exact e4
   ·
    exact .inr ⟨_, rfl, .inl rfl⟩) (by
   rintro s ⟨hs0, hsn, hI⟩
   simp only [Zk]
   rw [dnlt, Wv]
   rw [List.take_length] at hsn
   refine ⟨_, rfl, .inr ⟨s, rfl, hs0, hsn, fun e he => ?_⟩⟩
   obtain ⟨j, hj, rfl⟩ := List.mem_iff_getElem.1 he
   exact hI j hj hj) (s := n - (p.length : Int)) ⟨by omega, by simp [wtG], fun j hj h => by omega⟩
  rw [h1, Wb]
  rcases h2 with rfl | ⟨r, rfl, h3⟩
  ·
   exact ⟨_, rfl, .inr rfl⟩
  ·
   exact ⟨_, rfl, .inl h3⟩

theorem Yqe (p : List Y9u) (n : Int) (hl : p.length ≤ maxLen) (hp : ∀ x ∈ p, x.text.size ≤ maxLen) (h0 : 0 ≤ n) (hn : n ≤ 1048576) : ∃ r, Zr p n = some r ∧ ((0 ≤ r ∧ r + p.length ≤ n) ∨ r = -1) := by
 simp only [maxLen] at hl hp
 unfold Zr
 rw [Y4v (by omega) (by omega)]
 by_cases h : n - (p.length : Int) < 0
 ·
  rw [Wt h]; exact ⟨_, rfl, .inr rfl⟩
 ·
  rw [Wf h, Wv]
  obtain ⟨o, h1, h2⟩ := Ygj (τ := Int × Int) (ω := Int ⊕ Int) (σ := Int) (step := fun z : Int × Int => Zq p z.1 z.2) (n := p.length) (fun s j => (s, j))
   (fun i s => 0 ≤ s ∧ s + p.length ≤ n) (fun o => o = .inl (-1) ∨ ∃ r, o = .inr r ∧ 0 ≤ r ∧ r + p.length ≤ n) (by omega) (by
   rintro i s hi ⟨hs0, hsn⟩
   have hx := hp _ (Wm hi)
   simp only [Zq]
   rw [dlt hi, Wu, Ygk hi, Wb, Ygl hi (by omega)]
   unfold Zn
   rw [Y4v (by omega) (by omega)]
   by_cases h5 : s - (p[i].text.size : Int) < 0
   ·
    rw [Wt h5]; exact .inr ⟨_, rfl, .inl rfl⟩
   ·
    rw [Wf h5, Wv, Wb, Wf h5]
    exact .inl ⟨_, rfl, by omega, by omega⟩) (by
   rintro s ⟨hs0, hsn⟩
   simp only [Zq]
   rw [dnlt, Wv]
   exact ⟨_, rfl, .inr ⟨s, rfl, hs0, hsn⟩⟩) (s := n - (p.length : Int)) ⟨by omega, by omega⟩
  rw [h1, Wb]
  rcases h2 with rfl | ⟨r, rfl, h3⟩
  ·
   exact ⟨_, rfl, .inr rfl⟩
  ·
   exact ⟨_, rfl, .inl h3⟩

theorem Yqf (p : Y9v) (n : Int) (hp : PIn p) (h0 : 0 ≤ n) (hn : n ≤ 1048576) : ∃ r, Zt p n = some r ∧ ((0 ≤ r ∧ r ≤ n ∧ Yqb p) ∨ r = -1) := by
 unfold Zt
 obtain ⟨r, h1, h2⟩ := Yqd p.hubs n hp.hl hp.hh h0 hn
 rw [h1, Wb]
 rcases h2 with ⟨h2, h3, h4⟩ | rfl
 ·
  obtain ⟨q, q1, q2⟩ := Yqe p.letters r hp.ll hp.lt h2 (by omega)
  rw [Wf (by omega), Wv, q1, Wb]
  rcases q2 with ⟨q2, q3⟩ | rfl
  ·
   rw [Wf (by omega), Wv]
   exact ⟨_, rfl, .inl ⟨q2, by omega, by omega, h4, by omega, by omega⟩⟩
  ·
   exact ⟨_, rfl, .inr rfl⟩
 ·
  exact ⟨_, rfl, .inr rfl⟩


def toP (p : Y9v) : Y9y := ⟨p.hubs.map toH, p.letters⟩
theorem Yqg (p : List THub) (hl : p.length ≤ 1048576) (hp : ∀ h ∈ p, Ypf h) : Z1n p = some (p.map toH) := by
 unfold Z1n
 rw [Y4w (Wt ⟨by omega, by omega⟩), Wb, Int.toNat_natCast]
 rw [Yn0 (xs := p) toH (by omega) (fun i s hi hs => by
  have := hp _ (Wm hi)
  simp only [Z1m]
  rw [dlt hi, Wu, Ygk hi, Wb, Ypj _ this, Wb, Ygk (by omega : i < s.length), Wb, Ygl hi (by omega), Int.toNat_natCast]) (fun s => by simp only [Z1m]; rw [dnlt, Wv])]
 rfl
theorem Yqh (p : List Y9u) (hl : p.length ≤ 1048576) : Z1u p = some p := by
 unfold Z1u
 rw [Y4w (Wt ⟨by omega, by omega⟩), Wb, Int.toNat_natCast]
 rw [Yn0 (xs := p) (fun x => x) (by omega) (fun i s hi hs => by
  simp only [Z1t]
  rw [dlt hi, Wu, Ygk hi, Wb]
  unfold Z1q
  rw [Wb, Ygk (by omega : i < s.length), Wb, Ygl hi (by omega), Int.toNat_natCast]) (fun s => by simp only [Z1t]; rw [dnlt, Wv])]
 simp [Z1s]
theorem Yqi (p : Y9v) (hs : Yqb p) : Z1w p = some (toP p) := by
 unfold Z1w
 rw [Yqg _ hs.hl hs.hs, Wb, Yqh _ hs.ll]; rfl

theorem Yqj {h : THub} (s : Ypf h) : SmH (toH h) := ⟨⟨by show (h.rooms.map toG).length ≤ _; rw [List.length_map]; exact s.rl, Ypm s⟩, s.sl⟩
theorem Yqk {p : Y9v} (s : Yqb p) : Yq3 (toP p).hubs := ⟨by show (p.hubs.map toH).length ≤ _; rw [List.length_map]; exact s.hl, fun h hh => by
 obtain ⟨h0, h1, rfl⟩ := List.mem_map.1 hh
 exact Yqj (s.hs h0 h1)⟩
theorem Yql {α β : Type} (w : β → Nat) (f : α → β) (l : List α) : wtG w (l.map f) = wtG (fun x => w (f x)) l := by unfold wtG; rw [List.map_map]; rfl
theorem Yqm {α : Type} {v : α → Nat} : ∀ l : List α, wtG (fun x => 1 + v x) l = l.length + wtG v l
 | [] => by simp [wtG]
 | x :: l => by rw [Ypd, Ypd, Yqm l, List.length_cons]; omega
theorem Yqn {l : List Y9r} (h : Ymx l) : wtG wEv l ≤ 1048584 * l.length := by
 have := Ypt wEv (v := fun _ => 1) (c := 1048584) (l := l) fun x hx => by have := (h.2 x hx).1; unfold wEv; omega
 rwa [Yq8 (c := 1) (fun _ => rfl), Nat.one_mul] at this
theorem Yqo {h : THub} (s : Ypf h) : wHu (toH h) ≤ 2000000 * nH h := by
 have h1 : wtG wGr (toH h).rooms ≤ 1048584 * wtG (fun g => 1 + nG g) h.rooms := by
  show wtG wGr (h.rooms.map toG) ≤ _
  rw [Yql]
  refine Ypt _ fun g hg => ?_
  have h1 := Yqn (s.rg g hg).1
  have h2 := Yqn (s.rg g hg).2
  show 1 + wtG wEv g.events + wtG wEv g.parked ≤ 1048584 * (1 + (g.events.length + g.parked.length))
  omega
 rw [Yqm] at h1
 have h2 := Yq8 (w := wSp) (c := 2) (fun _ => rfl) h.stream
 show wtG wGr (toH h).rooms + wtG wSp h.stream ≤ _
 unfold nH
 omega
theorem Yqp {p : Y9v} (s : Yqb p) : wtG wHu (toP p).hubs ≤ 2097152000000 := by
 have h1 : wtG wHu (toP p).hubs ≤ 2000000 * wtG nH p.hubs := by
  show wtG wHu (p.hubs.map toH) ≤ _
  rw [Yql]
  exact Ypt _ fun h hh => Yqo (s.hs h hh)
 have := s.wt
 omega


theorem Yqq {h : Y9x} (s : SmH h) : Ziz h h = some true := by
 unfold Ziz
 rw [Ypk _ s.rg.1 s.rg.2, Wb, Wu, Ypl _ s.sl]; rfl
theorem Yqr (p : List Y9x) (hp : Yq3 p) : Zj3 p p = some true := by
 have hl := hp.1
 unfold Zj3
 rw [bned, Wt rfl]
 simp only [Bool.not_true, Wv]
 rw [Yh0 (l := p) (fun _ => true) (.inl false) (.inr ()) (by omega) (fun i hi => by
  simp only [Zj2]
  rw [dlt hi, Wu, Ygk hi, Wb, Wb, Yqq (hp.2 _ (Wm hi)), Wb, Ygl hi (by omega)]; rfl) (by simp only [Zj2]; rw [dnlt, Wv])]
 rw [show (p.all fun _ => true) = true by simp]; rfl
theorem Yqs (p : List Y9u) (hl : p.length ≤ 1048577) : Zj9 p p = some true := by
 unfold Zj9
 rw [bned, Wt rfl]
 simp only [Bool.not_true, Wv]
 rw [Yh0 (l := p) (fun _ => true) (.inl false) (.inr ()) (by omega) (fun i hi => by
  simp only [Zj8]
  rw [dlt hi, Wu, Ygk hi, Wb, Wb, show Zj5 p[i] p[i] = some true by simp [Zj5], Wb, Ygl hi (by omega)]; rfl) (by simp only [Zj8]; rw [dnlt, Wv])]
 rw [show (p.all fun _ => true) = true by simp]; rfl
theorem Yqt (p : Y9y) (hp : Yq3 p.hubs) (hl : p.letters.length ≤ 1048577) : Zjb p p = some true := by
 unfold Zjb
 rw [Yqr _ hp, Wb, Wu, Yqs _ hl]; rfl
theorem Yqu (o : Ya2) (hp : Yq3 o.peers.hubs) (hl : o.peers.letters.length ≤ 1048577) : Zjd o o = some true := by
 unfold Zjd
 rw [Yqt _ hp hl]; simp
theorem Yqv (o : Ya2) (hp : Yq3 o.peers.hubs) (hl : o.peers.letters.length ≤ 1048577) (hn : wtG wHu o.peers.hubs ≤ 2097152000000) :
  Zkc o 1 = some ((1 : Int) + wtG wHu o.peers.hubs + wtG wLe o.peers.letters, mkS mkHu wHu 1 o.peers.hubs, mkS mkLe wLe (1 + wtG wHu o.peers.hubs) o.peers.letters) := by
 unfold Zkc
 rw [Yq9 _ _ hp hl (by omega) (by omega)]; rfl
theorem Yqw (o : Ya2) (hp : Yq3 o.peers.hubs) (hl : o.peers.letters.length ≤ 1048577) (hn : wtG wHu o.peers.hubs ≤ 2097152000000) :
  Zl4 ⟨⟨mkS mkHu wHu 1 o.peers.hubs, mkS mkLe wLe (1 + wtG wHu o.peers.hubs) o.peers.letters⟩, o.id, o.code⟩ 1 = some ((1 : Int) + wtG wHu o.peers.hubs + wtG wLe o.peers.letters) := by
 unfold Zl4
 simp only
 rw [Yqa _ _ hp hl (by omega) (by omega), Wb, Wf (by omega), Wv]
end Go.Proofs.YtmaefakalikkiaaGreat
namespace Go.Proofs.YtmaefakalikkiaaGreat
open Go Go.Abs


theorem Yqx {α β : Type} (f : α → β) : ∀ (l : List α) (s : List β), l.foldl (fun q x => q ++ [f x]) s = s ++ l.map f
 | [], s => by simp
 | x :: l, s => by rw [List.foldl_cons, Yqx f l]; simp
theorem Yqy {α β τ ω : Type} {l : List α} {step : τ → Option (τ ⊕ ω)} (f : α → β) (emb : List β → Int → τ) (fin : List β → ω) (hl : l.length < 9223372036854775807)
  (h1 : ∀ (i : Nat) (s : List β) (hi : i < l.length), s.length = i → step (emb s i) = some (.inl (emb (s ++ [f l[i]]) ((i + 1 : Nat) : Int)))) (h2 : ∀ s : List β, step (emb s l.length) = some (.inr (fin s))) :
  iter step big (emb [] 0) = some (fin (l.map f)) := by
 have := (Yh1 (l := l) (step := step) emb fin (fun q x => q ++ [f x]) (fun i q => q.length = i) hl (fun i s hi hs => ⟨h1 i s hi hs, by rw [List.length_append, hs]; rfl⟩) (fun s _ => h2 s) (s := []) rfl).1
 rwa [Yqx, List.nil_append] at this

theorem l02c (e : Y9r) (h : e.prev.length ≤ 1048576) : Z5x e = some e := by
 unfold Z5x
 rw [Y4w (Wt (by simp only [List.length_nil]; omega))]; rfl
theorem evc (e : Y9r) (h : e.prev.length ≤ 1048576) : Zhq e = some e := by
 unfold Zhq Zfn
 rw [Y4w (Wt (by omega))]; rfl
theorem evsc (l : List Y9r) (hl : l.length ≤ 1048576) (h : ∀ e ∈ l, e.prev.length ≤ 1048576) : Zhu l = some l := by
 unfold Zhu
 rw [Yqy (l := l) (step := fun z : List Y9r × Int => Zht l z.1 z.2) (fun x => x) (fun q j => (q, j)) (fun q => q) (by omega) (fun i s hi hs => by
  simp only [Zht]
  rw [dlt hi, Wu, Ygk hi, Wb, evc _ (h _ (Wm hi)), Wb, Y4w (Wt (by simp only [List.length_cons, List.length_nil]; omega)), Wb, Ygl hi (by omega)]) (fun s => by simp only [Zht]; rw [dnlt, Wv])]
 simp [Zhs]
theorem grc (g : Y9w) (h : Fine g) : Zhx g = some g := by
 unfold Zhx
 rw [evsc _ h.elen h.ep, Wb, evsc _ h.plen h.pp]; rfl
theorem l03c (g : Y9w) (h : Fine g) : Z8e g = some g := by
 have h1 := h.elen
 have h2 := h.plen
 unfold Z8e
 rw [Yqy (l := g.events) (step := fun z : List Y9r × List Y9r × Int => Z8d g z.1 z.2.1 z.2.2) (fun x => x) (fun q j => ([], q, j)) (fun q => ([], q)) (by omega) (fun i s hi hs => by
  simp only [Z8d]
  rw [dlt hi, Wu, Ygk hi, Wb, l02c _ (h.ep _ (Wm hi)), Wb, Y4w (Wt (by simp only [List.length_cons, List.length_nil]; omega)), Wb, Ygl hi (by omega)]) (fun s => by simp only [Z8d]; rw [dnlt, Wv])]
 rw [Wb]
 simp only [Z8c]
 rw [Yqy (l := g.parked) (step := fun z : List Y9r × Int => Z8b g z.1 z.2) (fun x => x) (fun q j => (q, j)) (fun q => q) (by omega) (fun i s hi hs => by
  simp only [Z8b]
  rw [dlt hi, Wu, Ygk hi, Wb, l02c _ (h.pp _ (Wm hi)), Wb, Y4w (Wt (by simp only [List.length_cons, List.length_nil]; omega)), Wb, Ygl hi (by omega)]) (fun s => by simp only [Z8b]; rw [dnlt, Wv])]
 simp [Z8a]
theorem huc (h : Y9x) (hf : Yom h) : Zi1 h = some h := by
 have h1 := hf.rl
 have h2 := hf.sl
 unfold Zi1 Zhn
 rw [Y4w (Wt (by omega)), Wb, Wb]
 rw [Yqy (l := h.rooms) (step := fun z : List Y9w × List Y9w × Int => Zi0 h z.1 z.2.1 z.2.2) (fun x => x) (fun q j => ([], q, j)) (fun q => ([], q)) (by omega) (fun i s hi hs => by
  simp only [Zi0]
  rw [dlt hi, Wu, Ygk hi, Wb, grc _ (hf.fine _ (Wm hi)), Wb, Y4w (Wt (by simp only [List.length_cons, List.length_nil]; omega)), Wb, Ygl hi (by omega)]) (fun s => by simp only [Zi0]; rw [dnlt, Wv])]
 simp [Zhz]
theorem l07c (h : Y9x) (hf : Yom h) : Z8i h = some h := by
 have h1 := hf.rl
 have h2 := hf.sl
 unfold Z8i
 rw [Y4w (Wt (by simp only [List.length_nil]; omega)), Wb]
 rw [Yqy (l := h.rooms) (step := fun z : List Y9w × List Y9w × Int => Z8h h z.1 z.2.1 z.2.2) (fun x => x) (fun q j => ([], q, j)) (fun q => ([], q)) (by omega) (fun i s hi hs => by
  simp only [Z8h]
  rw [dlt hi, Wu, Ygk hi, Wb, l03c _ (hf.fine _ (Wm hi)), Wb, Y4w (Wt (by simp only [List.length_cons, List.length_nil]; omega)), Wb, Ygl hi (by omega)]) (fun s => by simp only [Z8h]; rw [dnlt, Wv])]
 simp [Z8g]

structure Yqz (p : Y9y) : Prop where
 hl : p.hubs.length ≤ 1048576
 hf : ∀ h ∈ p.hubs, Yom h
 ll : p.letters.length ≤ 1048576

theorem l17c (p : Y9y) (hp : Yqz p) : Z8m p = some p := by
 have h1 := hp.hl
 have h2 := hp.ll
 unfold Z8m
 rw [Y4w (Wt (by simp only [List.length_nil]; omega)), Wb]
 rw [Yqy (l := p.hubs) (step := fun z : List Y9x × List Y9x × Int => Z8l p z.1 z.2.1 z.2.2) (fun x => x) (fun q j => ([], q, j)) (fun q => ([], q)) (by omega) (fun i s hi hs => by
  simp only [Z8l]
  rw [dlt hi, Wu, Ygk hi, Wb, l07c _ (hp.hf _ (Wm hi)), Wb, Y4w (Wt (by simp only [List.length_cons, List.length_nil]; omega)), Wb, Ygl hi (by omega)]) (fun s => by simp only [Z8l]; rw [dnlt, Wv])]
 simp [Z8k]
theorem Yr0 {hs : List Y9x} (L : List Y9u) (hl : hs.length ≤ 1048576) (hf : ∀ h ∈ hs, Yom h) : Zi8 ⟨hs.map sOf, L⟩ = some ⟨⟨hs, L⟩, 0, 0⟩ := by
 unfold Zi8
 have hll : (hs.map sOf).length = hs.length := List.length_map ..
 rw [Yqy (l := hs.map sOf) (step := fun z : List Y9x × List Y9x × Int => Zi7 ⟨hs.map sOf, L⟩ z.1 z.2.1 z.2.2) (fun x => x.hub) (fun q j => ([], q, j)) (fun q => ([], q)) (by omega) (fun i s hi hsl => by
  have hi' : i < hs.length := by omega
  simp only [Zi7]
  rw [dlt hi, Wu, Ygk hi, Wb, List.getElem_map]
  show (Zi1 hs[i]).bind _ = _
  rw [huc _ (hf _ (Wm hi')), Wb, Y4w (Wt (by simp only [List.length_cons, List.length_nil]; omega)), Wb, Ygl hi (by omega)]; rfl) (fun s => by simp only [Zi7]; rw [dnlt, Wv])]
 rw [List.map_map, Wb]
 simp only [Zi6]
 rw [show (hs.map ((fun x => x.hub) ∘ sOf)) = hs by rw [show ((fun x : Ya4 => x.hub) ∘ sOf) = id from rfl, List.map_id]]


def okHb (h : Y9x) : Bool := ((Z7q h).map (·.2)).getD false
theorem Yr1 {h : Y9x} (hf : Yom h) : Z7s h = some (okHb h) ∧ Zgv h = some (cond (okHb h) (sOf h, true) (zS, false)) := by
 obtain ⟨b, _, b1, b2⟩ := Ypc hf
 unfold okHb Z7s
 rw [b1]
 cases b <;> exact ⟨rfl, b2⟩
def okLe (n : Int) (x : Y9u) : Bool := decide (1 ≤ x.kind ∧ x.kind ≤ 2) && decide (0 ≤ x.from_ ∧ x.from_ ≤ n - 1) && decide (0 ≤ x.to_ ∧ x.to_ ≤ n - 1) && !(x.from_ == x.to_) && decide (1 ≤ x.room ∧ x.room ≤ 3) && !decide ((x.text.size : Int) > 8000)
def Yr2 (p : Y9y) : Bool := decide (1 ≤ (p.hubs.length : Int) ∧ (p.hubs.length : Int) ≤ 4) && decide ((p.letters.length : Int) ≤ 60) && p.hubs.all okHb && p.letters.all (okLe p.hubs.length)

theorem Yr3 (p : Y9y) (hp : Yqz p) (i : Int) : Z7u p i = some (decide (0 ≤ i ∧ i ≤ (p.hubs.length : Int) - 1)) := by
 have h1 := hp.hl
 unfold Z7u
 rw [Y4v (by omega) (by omega), Ygo]; rfl
theorem Yr4 (p : Y9y) (hp : Yqz p) : Z84 p = some (Yr2 p) := by
 have h1 := hp.hl
 have h2 := hp.ll
 have k1 := Yh0 (l := p.letters) (step := Z80 p) (okLe p.hubs.length) (.inl false) (.inr ()) (by omega) (fun i hi => by
  simp only [Z80, Z7z]
  rw [dlt hi, Wu, Ygk hi, Wb, Ygo, Wb, Yr3 _ hp, Yr3 _ hp, Ygl hi (by omega)]
  unfold Z7w
  rw [Ygo]
  unfold okLe
  generalize decide (1 ≤ p.letters[i].kind ∧ p.letters[i].kind ≤ 2) = b1
  generalize decide (0 ≤ p.letters[i].from_ ∧ p.letters[i].from_ ≤ (p.hubs.length : Int) - 1) = b2
  generalize decide (0 ≤ p.letters[i].to_ ∧ p.letters[i].to_ ≤ (p.hubs.length : Int) - 1) = b3
  generalize (p.letters[i].from_ == p.letters[i].to_) = b4
  generalize decide (1 ≤ p.letters[i].room ∧ p.letters[i].room ≤ 3) = b5
  generalize decide ((p.letters[i].text.size : Int) > 8000) = b6
  cases b1 <;> cases b2 <;> cases b3 <;> cases b4 <;> cases b5 <;> cases b6 <;> rfl) (by simp only [Z80]; rw [dnlt, Wv])
 have k2 := Yh0 (l := p.hubs) (step := Z82 p) okHb (.inl false) (.inr ()) (by omega) (fun i hi => by
  simp only [Z82]
  rw [dlt hi, Wu, Ygk hi, Wb, (Yr1 (hp.hf _ (Wm hi))).1, Wb, Ygl hi (by omega)]
  cases okHb p.hubs[i] <;> rfl) (by simp only [Z82]; rw [dnlt, Wv])
 unfold Z84 Yr2
 simp only [Z83, Z81]
 rw [k1, k2]
 generalize p.hubs.all okHb = b1
 generalize p.letters.all (okLe p.hubs.length) = b2
 by_cases h3 : (p.hubs.length : Int) < 1
 ·
  rw [Wt h3, Wf (by omega : ¬ (1 ≤ (p.hubs.length : Int) ∧ (p.hubs.length : Int) ≤ 4))]; rfl
 by_cases h4 : (p.hubs.length : Int) > 4
 ·
  rw [Wf h3, Wt h4, Wf (by omega : ¬ (1 ≤ (p.hubs.length : Int) ∧ (p.hubs.length : Int) ≤ 4))]; rfl
 rw [Wf h3, Wf h4, Wt (by omega : 1 ≤ (p.hubs.length : Int) ∧ (p.hubs.length : Int) ≤ 4)]
 by_cases h5 : (p.letters.length : Int) > 60
 ·
  rw [Wt h5, Wf (by omega : ¬ (p.letters.length : Int) ≤ 60)]; rfl
 ·
  rw [Wf h5, Wt (by omega : (p.letters.length : Int) ≤ 60)]
  cases b1 <;> cases b2 <;> rfl

theorem Yr5 {q : TNet} (hq : q.servers.length ≤ 1048576) (a b : Int) : Zh0 q a b = some (decide (0 ≤ a ∧ a ≤ (q.servers.length : Int) - 1) && decide (0 ≤ b ∧ b ≤ (q.servers.length : Int) - 1) && !(a == b)) := by
 unfold Zh0 Zgx
 rw [Y4v (by omega) (by omega), c_in, c_in]
 simp only [Wb, Zgz]
 generalize decide (0 ≤ a ∧ a ≤ (q.servers.length : Int) - 1) = b1
 generalize decide (0 ≤ b ∧ b ≤ (q.servers.length : Int) - 1) = b2
 cases b1 <;> cases b2 <;> rfl
theorem Yr6 {q : TNet} (hq : q.servers.length ≤ 1048576) (x : Y9u) : Zh3 x q = some (!okLe q.servers.length x) := by
 unfold Zh3
 rw [Yr5 hq, Ygs]
 simp only [Zh2]
 unfold okLe
 have e : decide (1 ≤ x.kind ∧ x.kind ≤ 2) = (x.kind == 1 || x.kind == 2) := by rw [Bool.eq_iff_iff]; simp; omega
 rw [e, show (x.kind != 1) = !(x.kind == 1) from rfl, show (x.kind != 2) = !(x.kind == 2) from rfl]
 generalize (x.kind == 1) = b0
 generalize (x.kind == 2) = b1
 generalize decide (0 ≤ x.from_ ∧ x.from_ ≤ (q.servers.length : Int) - 1) = b2
 generalize decide (0 ≤ x.to_ ∧ x.to_ ≤ (q.servers.length : Int) - 1) = b3
 generalize (x.from_ == x.to_) = b4
 generalize decide (1 ≤ x.room ∧ x.room ≤ 3) = b5
 generalize decide ((x.text.size : Int) > 8000) = b6
 cases b0 <;> cases b1 <;> cases b2 <;> cases b3 <;> cases b4 <;> cases b5 <;> cases b6 <;> rfl
theorem Yr7 {q : TNet} (hq : q.servers.length ≤ 1048576) (l : List Y9u) (hl : l.length ≤ 1048576) : Zh9 l q = some (!l.all (okLe q.servers.length)) := by
 unfold Zh9 Zh7
 rw [Ygy (l := l) (fun x => !okLe q.servers.length x) (by omega) (fun i hi => by
  simp only [Zh6]
  rw [dlt hi, Wu, Ygk hi, Wb, Yr6 hq, Wb, Ygl hi (by omega)]
  cases okLe q.servers.length l[i] <;> rfl) (by simp only [Zh6]; rw [dnlt, Wv])]
 cases h : l.findIdx? fun x => !okLe q.servers.length x with
 | none =>
  have : l.all (okLe q.servers.length) = true := by
   rw [List.all_eq_true]; intro x hx
   have := List.findIdx?_eq_none_iff.1 h x hx
   simpa using this
  rw [this]; rfl
 | some k =>
  have : l.all (okLe q.servers.length) = false := by
   obtain ⟨h1, h2, _⟩ := List.findIdx?_eq_some_iff_getElem.1 h
   rw [List.all_eq_false]
   exact ⟨_, Wm h1, by simpa using h2⟩
  rw [this]
  show some (decide ((k : Int) ≥ 0)) = _
  rw [Wt (by omega)]; rfl

def zN : TNet := ⟨[], []⟩
theorem Yr8 (p : Y9y) (hp : Yqz p) : Zhe p = some (cond (Yr2 p) (⟨p.hubs.map sOf, p.letters⟩, true) (zN, false)) := by
 have h1 := hp.hl
 have h2 := hp.ll
 unfold Zhe Z8s
 rw [Y4w (Wt (by omega)), Wb, Wb]
 rcases Ynv (l := p.hubs) (step := fun z : List Ya4 × Int => Zhd p z.1 z.2) (fun q j => (q, j)) (fun q => (Sum.inr q : (TNet × Bool) ⊕ List Ya4)) (.inl (zN, false)) (fun i => if h : i < p.hubs.length then okHb p.hubs[i] else true) (fun q x => q ++ [sOf x]) (fun i q => q.length = i) (by omega) (fun i s hi hs _ => by
   simp only [Zhd]
   rw [dlt hi, Wu, Ygk hi, Wb, (Yr1 (hp.hf _ (Wm hi))).2, Wb, Ygl hi (by omega), dif_pos hi]
   refine ⟨?_, fun _ => by rw [List.length_append, hs]; rfl⟩
   cases okHb p.hubs[i] with
   | false => rfl
   | true =>
    simp only [Wu]
    rw [Y4w (Wt (by simp only [List.length_cons, List.length_nil]; omega))]; rfl)
  (fun s _ => by simp only [Zhd]; rw [dnlt, Wv]) (s := []) rfl with ⟨ha, hb, _⟩ | ⟨⟨i, hi, hb⟩, ha⟩
 ·
  have hall : p.hubs.all okHb = true := Ygz.1 ha
  rw [hb, Yqx, List.nil_append, Wb]
  simp only [Zhc, Zhb]
  have hll : (p.hubs.map sOf).length = p.hubs.length := List.length_map ..
  rw [Yr7 (q := ⟨p.hubs.map sOf, p.letters⟩) (by simp only; omega) _ h2, c_in]
  unfold Yr2
  simp only [Wb, hll, hall]
  generalize decide (1 ≤ (p.hubs.length : Int) ∧ (p.hubs.length : Int) ≤ 4) = b1
  generalize decide ((p.letters.length : Int) ≤ 60) = b2
  generalize p.letters.all (okLe p.hubs.length) = b3
  cases b1 <;> cases b2 <;> cases b3 <;> rfl
 ·
  have hall : p.hubs.all okHb = false := by
   rw [List.all_eq_false]
   rw [dif_pos hi] at hb
   exact ⟨_, Wm hi, by rw [hb]; simp⟩
  rw [ha]
  unfold Yr2
  rw [hall]
  simp


def Yr9 (p : Y9y) (i : Int) : Int := cond (Yr2 p) (cond (decide (0 ≤ i ∧ i ≤ (p.letters.length : Int) - 1)) 0 6) 1
theorem Yra (p : Y9y) (hp : Yqz p) (i : Int) : Z86 p i = some (Yr9 p i) := by
 have h2 := hp.ll
 unfold Z86 Yr9
 rw [Yr4 p hp, Wb, Y4v (by omega) (by omega), Ygo]
 cases Yr2 p with
 | false => rfl
 | true => cases decide (0 ≤ i ∧ i ≤ (p.letters.length : Int) - 1) <;> rfl
theorem Yrb (p : Y9y) (hp : Yqz p) (i : Int) : Zhi p i = some (cond (Yr9 p i == 0) ⟨p.hubs.map sOf, p.letters⟩ zN, Yr9 p i) := by
 have h2 := hp.ll
 unfold Zhi Yr9
 rw [Yr8 p hp, Wb]
 cases Yr2 p with
 | false => rfl
 | true =>
  simp only [Wu, Zhg]
  rw [Y4v (by omega) (by omega), c_in]
  cases decide (0 ≤ i ∧ i ≤ (p.letters.length : Int) - 1) <;> rfl
theorem Yrc {p : Y9y} {i : Int} (h : Yr9 p i = 0) : 0 ≤ i ∧ i < (p.letters.length : Int) := by
 unfold Yr9 at h
 cases h1 : Yr2 p with
 | false => rw [h1] at h; simp at h
 | true =>
  by_cases h2 : 0 ≤ i ∧ i ≤ (p.letters.length : Int) - 1
  ·
   omega
  ·
   rw [h1, Wf h2] at h; simp at h

theorem Yrd (p : Y9y) (hp : Yqz p) (i : Int) : ∃ o, Z8q p i = some o ∧ Zib p i = some o ∧ (o.peers.hubs = [] ∨ o.peers.hubs = p.hubs) ∧ o.peers.letters.length ≤ 1048577 := by
 have h2 := hp.ll
 unfold Z8q Zib
 rw [Yra p hp, Yrb p hp, Wb, Wb]
 by_cases h : Yr9 p i = 0
 ·
  obtain ⟨h3, h4⟩ := Yrc h
  obtain ⟨k, rfl⟩ : ∃ k : Nat, i = k := ⟨i.toNat, by omega⟩
  have hk : k < p.letters.length := by omega
  rw [h]
  simp only [bne_self_eq_false, Wv, beq_self_eq_true, Wu]
  rw [l17c p hp, Wb]
  unfold Z8o Zi4 Zhk delI
  simp only
  rw [Ygk hk, Wb, Wb, Y4v (by omega) (by omega)]
  have e1 : Y2d p.letters 0 (k : Int) = some (p.letters.take k) := by
   unfold Y2d
   rw [if_pos (by omega)]; simp
  have e2 : Y2d p.letters ((k : Int) + 1) (p.letters.length : Int) = some (p.letters.drop (k + 1)) := by
   unfold Y2d
   rw [if_pos (by omega)]
   rw [show ((k : Int) + 1).toNat = k + 1 by omega, Int.toNat_natCast, List.take_of_length_le (by rw [List.length_drop]; omega)]
  rw [e1, Wb, Y4w (Wt (by simp only [List.length_nil, List.length_take]; omega)), Wb, e2, Wb, Y4w (Wt (by simp only [List.nil_append, List.length_take, List.length_drop]; omega)), Wb, Wb]
  rw [if_pos (by omega), Wb, Wb]
  simp only
  rw [Yr0 _ hp.hl hp.hf, show ((k : Int) + 1).toNat = k + 1 by omega, Int.toNat_natCast, Wb]
  refine ⟨_, rfl, by rw [List.nil_append], .inr rfl, ?_⟩
  simp only [List.nil_append, List.length_append, List.length_take, List.length_drop]
  omega
 ·
  have e : (Yr9 p i != 0) = true := by simpa using h
  rw [e]
  refine ⟨_, rfl, rfl, .inl rfl, by simp⟩

end Go.Proofs.YtmaefakalikkiaaGreat
