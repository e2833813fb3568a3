/- Plain laws for the graphs: who is ahead of whom; depths rise. -/
import Derived.Test.YtnndihmamfomcaaGreatCGO
set_option autoImplicit false
set_option linter.unusedVariables false
set_option linter.unusedSimpArgs false
namespace Go.Proofs.YtnndihmamfomcaaGreat
open Go Go.Abs

inductive Bf (l : List TEvent) (a : Int) : List Int → List Int → Bool → Prop
 | nil (seen : List Int) : Bf l a seen [] false
 | hit (seen r : List Int) : Bf l a seen (a :: r) true
 | skip (seen r : List Int) (id : Int) (b : Bool) : id ≠ a → id ∈ seen → Bf l a seen r b → Bf l a seen (id :: r) b
 | more (seen r : List Int) (id : Int) (b : Bool) : id ≠ a → id ∉ seen → Bf l a (id :: seen) (r ++ (evD l id).prev) b → Bf l a seen (id :: r) b

theorem Bf.det {l : List TEvent} {a : Int} {seen todo : List Int} {b1 b2 : Bool} (h1 : Bf l a seen todo b1) (h2 : Bf l a seen todo b2) : b1 = b2 := by
 induction h1 with
 | nil => cases h2; rfl
 | hit => cases h2 <;> first | rfl | contradiction
 | skip _ _ _ _ n1 m1 _ ih =>
  cases h2 with
  | hit => exact absurd rfl n1
  | skip _ _ _ _ _ _ h => exact ih h
  | more _ _ _ _ _ m2 _ => exact absurd m1 m2
 | more _ _ _ _ n1 m1 _ ih =>
  cases h2 with
  | hit => exact absurd rfl n1
  | skip _ _ _ _ _ m2 _ => exact absurd m2 m1
  | more _ _ _ _ _ _ h => exact ih h

def unseen (l : List TEvent) (seen : List Int) : Nat := l.countP fun e => !decide (e.id ∈ seen)
theorem unseen_lt {l : List TEvent} {seen : List Int} {id : Int} (hi : id ∈ l.map (·.id)) (hn : id ∉ seen) : unseen l (id :: seen) < unseen l seen := by
 have key : ∀ l : List TEvent, unseen l (id :: seen) ≤ unseen l seen ∧ (id ∈ l.map (·.id) → unseen l (id :: seen) < unseen l seen) := by
  intro l
  unfold unseen
  induction l with
  | nil => simp
  | cons e l ih =>
   obtain ⟨i1, i2⟩ := ih
   by_cases he : e.id = id
   ·
    rw [List.countP_cons_of_neg (by simp [he]), List.countP_cons_of_pos (by simp [he, hn])]
    exact ⟨by omega, fun _ => by omega⟩
   ·
    by_cases hs : e.id ∈ seen
    ·
     rw [List.countP_cons_of_neg (by simp [hs]), List.countP_cons_of_neg (by simp [hs])]
     refine ⟨i1, fun h => i2 ?_⟩
     simp only [List.map_cons, List.mem_cons] at h
     exact h.resolve_left fun h => he h.symm
    ·
     rw [List.countP_cons_of_pos (by simp [hs, he]), List.countP_cons_of_pos (by simp [hs])]
     refine ⟨by omega, fun h => ?_⟩
     simp only [List.map_cons, List.mem_cons] at h
     have := i2 (h.resolve_left fun h => he h.symm)
     omega
 exact (key l).2 hi
theorem unseen_le (l : List TEvent) (seen : List Int) : unseen l seen ≤ l.length := List.countP_le_length

structure Walk (g : TGraph') : Prop where
 fits : Fits g.events
 ev : ∀ e ∈ g.events, EvOk e

theorem Walk.prev {g : TGraph'} (h : Walk g) {id : Int} (hi : id ∈ g.events.map (·.id)) : (evD g.events id).prev.length ≤ 4 ∧ ∀ p ∈ (evD g.events id).prev, p ∈ g.events.map (·.id) := by
 obtain ⟨_, h2, _⟩ := evD_is hi h.fits.up
 refine ⟨(h.ev _ h2).prev.1, fun p hp => ?_⟩
 obtain ⟨e, he, hid⟩ := has_iff.1 (h.fits.whole _ h2 p hp)
 exact List.mem_map.2 ⟨e, he, hid⟩

theorem has_map {l : List TEvent} {id : Int} : hasE l id = true ↔ id ∈ l.map (·.id) := by rw [has_iff, List.mem_map]

theorem Zcg {g : TGraph'} (h : Walk g) (a : Int) {e : TEvent} (he : e ∈ g.events) : ∃ b, Z1d g a e = some b ∧ Bf g.events a [] e.prev b := by
 have hfl := h.fits.len
 have hev : evD g.events e.id = e := by unfold evD; rw [h.fits.up.evAt_mem he]; rfl
 have hpe := h.prev (List.mem_map.2 ⟨e, he, rfl⟩)
 rw [hev] at hpe
 unfold Z1d
 have hcl : Z3q e.prev = some e.prev := by unfold Z3q; rw [chk8 (by omega)]; rfl
 rw [hcl, Option.bind_some]
 obtain ⟨o, h1, h2⟩ := iter_total (step := fun z : List (Int × Bool) × List Int × Int => Z32 g a z.1 z.2.1 z.2.2) (p := fun o : Bool ⊕ Unit => ∃ b, Bf g.events a [] e.prev b ∧ ((o = .inl true ∧ b = true) ∨ (o = .inr () ∧ b = false)))
  (fun k (z : List (Int × Bool) × List Int × Int) => ∃ (seen : List Int) (at_ : Nat), z.2.2 = (at_ : Int) ∧ at_ ≤ z.2.1.length ∧ (∀ id, Option.getD (mget z.1 id) false = true ↔ id ∈ seen) ∧ (∀ id ∈ z.2.1, id ∈ g.events.map (·.id)) ∧ z.2.1.length + 5 * unseen g.events seen ≤ 400 ∧ (∀ b, Bf g.events a seen (z.2.1.drop at_) b → Bf g.events a [] e.prev b) ∧ k = (z.2.1.length - at_) + 5 * unseen g.events seen) (by
  rintro k ⟨m, q, x⟩ ⟨seen, at_, hx, hat, hm, hq, hb, hB, hk⟩
  simp only at hx hat hm hq hb hB hk
  subst hx
  simp only [Z32]
  by_cases hlt : at_ < q.length
  ·
   rw [dlt hlt, cond_true, get_of_lt hlt, Option.bind_some, beqd]
   rw [List.drop_eq_getElem_cons hlt] at hB
   have hqi := hq _ (List.getElem_mem hlt)
   generalize q[at_] = id at hB hqi
   by_cases ha : id = a
   ·
    left
    rw [decide_eq_true ha, cond_true]
    subst ha
    exact ⟨_, rfl, true, hB _ (.hit _ _), .inl ⟨rfl, rfl⟩⟩
   ·
    right
    rw [decide_eq_false ha, cond_false]
    simp only [Z4v, wrap1 hlt (by omega : q.length < 9223372036854775807)]
    by_cases hs : Option.getD (mget m id) false = true
    ·
     rw [hs, cond_true]
     exact ⟨_, k - 1, rfl, by omega, seen, at_ + 1, rfl, by simp only; omega, hm, hq, hb, fun b h => hB b (.skip _ _ _ _ ha ((hm id).1 hs) h), by simp only; omega⟩
    ·
     rw [Bool.eq_false_iff.2 hs, cond_false, c_at _ _ h.fits.up (by omega), Option.bind_some]
     have hns : id ∉ seen := fun h => hs ((hm id).2 h)
     have hp := h.prev hqi
     have hu := unseen_lt hqi hns
     have e1 : (evAt g.events id).getD zEv = evD g.events id := rfl
     rw [e1, chk8 (by show q.length + (evD g.events id).prev.length < 1000000000; omega), Option.bind_some]
     refine ⟨_, (q.length + (evD g.events id).prev.length - (at_ + 1)) + 5 * unseen g.events (id :: seen), rfl, by omega, id :: seen, at_ + 1, rfl, by simp; omega, fun id' => ?_, fun id' hid => ?_, by simp; omega, fun b h => hB b ?_, by simp⟩
     ·
      rw [mget_mset]
      by_cases h3 : id' = id
      ·
       rw [if_pos h3]; simp [h3]
      ·
       rw [if_neg h3, hm]; simp [h3]
     ·
      rcases List.mem_append.1 hid with hid | hid
      ·
       exact hq _ hid
      ·
       exact hp.2 _ hid
     ·
      refine .more _ _ _ _ ha hns ?_
      simp only at h
      rwa [List.drop_append_of_le_length (by omega)] at h
  ·
   left
   obtain rfl : at_ = q.length := by omega
   rw [dnlt, cond_false]
   rw [List.drop_length] at hB
   exact ⟨_, rfl, false, hB _ (.nil _), .inr ⟨rfl, rfl⟩⟩) big (e.prev.length + 5 * unseen g.events []) ([], e.prev, 0) ⟨[], 0, rfl, by simp, by simp [mget], hpe.2, by have := unseen_le g.events []; simp only; omega, by simp, by simp⟩ (big_gt (by have := unseen_le g.events []; omega))
 obtain ⟨b, hb, h2⟩ := h2
 rw [h1, Option.bind_some]
 rcases h2 with ⟨rfl, rfl⟩ | ⟨rfl, rfl⟩
 ·
  exact ⟨true, rfl, hb⟩
 ·
  exact ⟨false, rfl, hb⟩

theorem c_l02Copy (e : TEvent) (h : e.prev.length < 1000000) : Z68 e = some e := by
 unfold Z68
 rw [chk8 (by simp; omega), Option.bind_some]
 rfl

theorem c_l03Event {g : TGraph'} (hl : g.events.length < 1000000) {e : TEvent} {id : Int} (he : evAt g.events id = some e) (hp : e.prev.length < 1000000) : Z8v g id = some e := by
 unfold Z8v
 obtain ⟨h1, h2⟩ := get_plc he
 rw [c_l03At _ _ (by omega), Option.bind_some, decide_eq_false (by omega), cond_false, h1, Option.bind_some, c_l02Copy _ hp]; rfl

theorem Zep {g : TGraph'} (h : Walk g) (a : Int) (ha : a ∈ g.events.map (·.id)) {e : TEvent} (he : e ∈ g.events) : ∃ b, Z2c g a e.id = some b ∧ Bf g.events a [] e.prev b := by
 have hfl := h.fits.len
 have hee := h.fits.up.evAt_mem he
 have hev : evD g.events e.id = e := by unfold evD; rw [hee]; rfl
 have hpe := h.prev (List.mem_map.2 ⟨e, he, rfl⟩)
 rw [hev] at hpe
 unfold Z2c
 rw [c_l03At _ _ (by omega), Option.bind_some, plc_neg, has_map.2 ha, c_l03At _ _ (by omega), Option.bind_some, plc_neg, has_of_mem he]
 simp only [Bool.not_true, cond_false, Z6a]
 rw [chk_t (decide_eq_true ⟨by omega, by omega⟩), Option.bind_some, c_l03Event (by omega) hee (by omega), Option.bind_some, chk8 (by simp; omega), Option.bind_some, Int.toNat_natCast, List.nil_append]
 obtain ⟨o, h1, h2⟩ := iter_total (step := fun z : List Bool × List Int => Z4a g a z.1 z.2) (p := fun o : Bool ⊕ Unit => ∃ b, Bf g.events a [] e.prev b ∧ ((o = .inl true ∧ b = true) ∨ (o = .inr () ∧ b = false)))
  (fun k (z : List Bool × List Int) => ∃ (seen : List Int), z.1.length = g.events.length ∧ (∀ id ∈ g.events.map (·.id), getI z.1 (plc g.events id) = some (decide (id ∈ seen))) ∧ (∀ id ∈ z.2, id ∈ g.events.map (·.id)) ∧ z.2.length + 5 * unseen g.events seen ≤ 400 ∧ (∀ b, Bf g.events a seen z.2 b → Bf g.events a [] e.prev b) ∧ k = z.2.length + 5 * unseen g.events seen) (by
  rintro k ⟨m, q⟩ ⟨seen, hml, hm, hq, hb, hB, hk⟩
  simp only at hml hm hq hb hB hk
  simp only [Z4a]
  cases q with
  | nil =>
   left
   exact ⟨_, rfl, false, hB _ (.nil _), .inr ⟨rfl, rfl⟩⟩
  | cons id r =>
   have hqi := hq id (by simp)
   obtain ⟨i1, i2, i3⟩ := evD_is hqi h.fits.up
   rw [decide_eq_true (by simp <;> omega), cond_true, show (0 : Int) = ((0 : Nat) : Int) from rfl, get_of_lt (by simp), Option.bind_some, chk_t (decide_eq_true (by simp <;> omega)), Option.bind_some, c_l03At _ _ (by omega), Option.bind_some]
   simp only [List.getElem_cons_zero, List.length_cons] at hk hb ⊢
   rw [beqd]
   by_cases ha : id = a
   ·
    left
    rw [decide_eq_true ha, cond_true]
    subst ha
    exact ⟨_, rfl, true, hB _ (.hit _ _), .inl ⟨rfl, rfl⟩⟩
   ·
    right
    rw [decide_eq_false ha, cond_false, hm id hqi, Option.bind_some]
    by_cases hs : id ∈ seen
    ·
     rw [decide_eq_true hs, cond_true]
     exact ⟨_, k - 1, rfl, by omega, seen, hml, hm, fun id' h => hq id' (by simp at h; simp [h]), by simp; omega, fun b h => hB b (.skip _ _ _ _ ha hs (by simpa using h)), by simp; omega⟩
    ·
     have hp := h.prev hqi
     have hu := unseen_lt hqi hs
     rw [decide_eq_false hs, cond_false, (get_plc i1).1, Option.bind_some, chk8 (by simp; omega), Option.bind_some]
     refine ⟨_, r.length + (evD g.events id).prev.length + 5 * unseen g.events (id :: seen), rfl, by omega, id :: seen, by simp [hml], fun id' hid => ?_, fun id' hid => ?_, by simp; omega, fun b h => hB b (.more _ _ _ _ ha hs (by simpa using h)), by simp⟩
     ·
      obtain ⟨p, hpl, p1, p2, p3⟩ := plc_has (has_map.2 hid)
      obtain ⟨p', hpl', p1', p2', p3'⟩ := plc_has (has_map.2 hqi)
      rw [p1, p1', Int.toNat_natCast]
      have hm' := hm id' hid
      rw [p1] at hm'
      by_cases h3 : id' = id
      ·
       subst h3
       obtain rfl : p = p' := by omega
       rw [get_of_lt (by simp; omega)]
       simp
      ·
       have hne : p' ≠ p := fun h => by subst h; exact h3 (p2.symm.trans p2')
       rw [get_of_lt (by omega)] at hm'
       rw [get_of_lt (by simp; omega), List.getElem_set_ne hne]
       rw [hm']
       simp [h3]
     ·
      simp at hid
      rcases hid with hid | hid
      ·
       exact hq _ (by simp [hid])
      ·
       exact hp.2 _ hid) big (e.prev.length + 5 * unseen g.events []) (List.replicate g.events.length false, e.prev) ⟨[], by simp, fun id hid => by
   obtain ⟨p, hpl, p1, _, _⟩ := plc_has (has_map.2 hid)
   rw [p1, get_of_lt (by simpa using hpl)]; simp, hpe.2, by have := unseen_le g.events []; simp only; omega, by simp, by simp⟩ (big_gt (by have := unseen_le g.events []; omega))
 obtain ⟨b, hb, h2⟩ := h2
 rw [h1, Option.bind_some]
 rcases h2 with ⟨rfl, rfl⟩ | ⟨rfl, rfl⟩
 ·
  exact ⟨true, rfl, hb⟩
 ·
  exact ⟨false, rfl, hb⟩

theorem Bf.none {g : TGraph'} (h : Walk g) {a : Int} (ha : a ∉ g.events.map (·.id)) {seen todo : List Int} {b : Bool} (hb : Bf g.events a seen todo b) (ht : ∀ id ∈ todo, id ∈ g.events.map (·.id)) : b = false := by
 induction hb with
 | nil => rfl
 | hit => exact absurd (ht a (by simp)) ha
 | skip _ _ _ _ _ _ _ ih => exact ih fun id hid => ht id (by simp [hid])
 | more _ r id _ _ _ _ ih =>
  refine ih fun id' hid => ?_
  rcases List.mem_append.1 hid with hid | hid
  ·
   exact ht id' (by simp [hid])
  ·
   exact (h.prev (ht id (by simp))).2 _ hid

theorem ahead_same {g : TGraph'} (h : Walk g) (a : Int) {e : TEvent} (he : e ∈ g.events) : ∃ b, Z2c g a e.id = some b ∧ Z1d g a e = some b := by
 obtain ⟨b, h1, h2⟩ := Zcg h a he
 by_cases ha : a ∈ g.events.map (·.id)
 ·
  obtain ⟨b', h3, h4⟩ := Zep h a ha he
  have := h2.det h4
  subst this
  exact ⟨b, h3, h1⟩
 ·
  have hpe := h.prev (List.mem_map.2 ⟨e, he, rfl⟩)
  have hev : evD g.events e.id = e := by unfold evD; rw [h.fits.up.evAt_mem he]; rfl
  rw [hev] at hpe
  have := h2.none h ha hpe.2
  subst this
  refine ⟨false, ?_, h1⟩
  have hfl := h.fits.len
  unfold Z2c
  rw [c_l03At _ _ (by omega), Option.bind_some, plc_neg, Bool.eq_false_iff.2 (fun hh => ha (has_map.1 hh))]
  rfl


def Cons (l : List TEvent) (d : List Int) : Prop := ∀ (i : Nat) (hi : i < l.length), d.getD i 0 > 0 → own l d l[i] = d.getD i 0

theorem own_pos {l : List TEvent} {d : List Int} {e : TEvent} (h : own l d e > 0) : e.prev.all (fun p => decide (dOf l d p > 0)) = true := by
 unfold own at h
 split at h
 ·
  assumption
 ·
  omega

theorem foldl_congr {f g : Int → Int → Int} : ∀ {l : List Int} {m : Int}, (∀ m, ∀ p ∈ l, f m p = g m p) → l.foldl f m = l.foldl g m
 | [], _, _ => rfl
 | p :: l, m, h => by rw [List.foldl_cons, List.foldl_cons, h m p (by simp)]; exact foldl_congr fun m q hq => h m q (by simp [hq])

theorem own_set {l : List TEvent} {d : List Int} (hd : d.length = l.length) (hw : Whole l) {i : Nat} {v : Int} (h0 : d.getD i 0 = 0) {e : TEvent} (he : e ∈ l) (h : own l d e > 0) : own l (d.set i v) e = own l d e := by
 have hp := own_pos h
 have hsame : ∀ p ∈ e.prev, dOf l (d.set i v) p = dOf l d p := fun p hp' => by
  have h1 := of_decide_eq_true (List.all_eq_true.1 hp p hp')
  obtain ⟨k, hk, k1, _, _⟩ := plc_has (hw e he p hp')
  unfold dOf at h1 ⊢
  rw [k1] at h1 ⊢
  have hkd : k < d.length := by omega
  rw [get_of_lt hkd] at h1
  rw [get_of_lt (by simpa using hkd), get_of_lt hkd]
  by_cases hik : i = k
  ·
   subst hik
   simp only [List.getD_eq_getElem?_getD, List.getElem?_eq_getElem hkd, Option.getD_some] at h0
   simp only [Option.getD_some] at h1
   omega
  ·
   rw [List.getElem_set_ne hik]
 unfold own
 have e1 : e.prev.all (fun p => decide (dOf l (d.set i v) p > 0)) = e.prev.all (fun p => decide (dOf l d p > 0)) := by
  rw [Bool.eq_iff_iff, List.all_eq_true, List.all_eq_true]
  constructor
  ·
   intro h2 p hp'; have := h2 p hp'; rwa [hsame p hp'] at this
  ·
   intro h2 p hp'; rw [hsame p hp']; exact h2 p hp'
 rw [e1, foldl_congr fun m p hp' => by rw [hsame p hp']]

theorem Cons.upd {l : List TEvent} {d : List Int} {c i : Nat} (hw : Whole l) (hb : Bd l c d) (hi : i < l.length) (h : Cons l d) : Cons l (updD l d i) := by
 rcases updD_cases hb hi with h1 | ⟨h1, h2, h3, _⟩
 ·
  rw [h1]; exact h
 ·
  rw [h3]
  have e2 : l.getD i zEv = l[i] := by simp [hi]
  rw [e2] at h2 ⊢
  intro j hj hpos
  have hjd : j < d.length := by rw [hb.len]; exact hj
  have hid : i < d.length := by rw [hb.len]; exact hi
  by_cases hij : i = j
  ·
   subst hij
   rw [own_set hb.len hw h1 (List.getElem_mem hi) h2]
   simp [hid]
  ·
   have e3 : (d.set i (own l d l[i])).getD j 0 = d.getD j 0 := by
    simp only [List.getD_eq_getElem?_getD, List.getElem?_set_ne hij]
   rw [e3] at hpos ⊢
   have h4 := h j hj hpos
   rw [own_set hb.len hw h1 (List.getElem_mem hj) (by omega)]
   exact h4

theorem Cons.sweep {l : List TEvent} {d : List Int} {c : Nat} (hw : Whole l) (hb : Bd l c d) (h : Cons l d) : Cons l (sweep l d) := by
 unfold Go.Proofs.YtnndihmamfomcaaGreat.sweep
 suffices key : ∀ (r : List Nat) (c : Nat) (d : List Int), (∀ i ∈ r, i < l.length) → Bd l c d → Cons l d → Cons l (r.foldl (updD l) d) from key _ c d (fun i hi => by simpa using hi) hb h
 intro r
 induction r with
 | nil => intro c d _ _ h; exact h
 | cons i r ih =>
  intro c d hr hb h
  rw [List.foldl_cons]
  exact ih (c + 1) _ (fun j hj => hr j (by simp [hj])) (updD_bd hw hb (hr i (by simp))) (h.upd hw hb (hr i (by simp)))

theorem depths_cons {l : List TEvent} (hf : Fits l) : Cons l (depthsOf l) := by
 unfold depthsOf
 have hz : Bd l 0 (List.replicate l.length 0) := ⟨by simp, fun x hx => by rw [List.eq_of_mem_replicate hx]; simp⟩
 have key : ∀ k, k ≤ l.length → Cons l (sweeps l k (List.replicate l.length 0)) := by
  intro k
  induction k with
  | zero =>
   intro _ i hi h
   simp [sweeps, hi] at h
  | succ k ih =>
   intro hk
   exact (ih (by omega)).sweep hf.whole (sweeps_bd hf hz k (by omega))
 exact key _ (Nat.le_refl _)

theorem mx2_ge (a b : Int) : a ≤ mx2 a b ∧ b ≤ mx2 a b := by unfold mx2; split <;> omega
theorem depth_lt {l : List TEvent} (hf : Fits l) (hd : Deep l) {e : TEvent} (he : e ∈ l) {p : Int} (hp : p ∈ e.prev) : dOf l (depthsOf l) p < dOf l (depthsOf l) e.id := by
 obtain ⟨i, hi, rfl⟩ := List.mem_iff_getElem.1 he
 have hb := (c_l03Depths hf).2
 have hid : i < (depthsOf l).length := by rw [hb.len]; exact hi
 have e1 : dOf l (depthsOf l) l[i].id = (depthsOf l)[i] := by
  unfold dOf
  rw [(hf.up.plc hi).1, get_of_lt hid]; rfl
 have e2 : (depthsOf l).getD i 0 = (depthsOf l)[i] := by simp [hid]
 have hpos := hd _ (List.getElem_mem hid)
 have hc := depths_cons hf i hi (by rw [e2]; exact hpos)
 rw [e2] at hc
 rw [e1]
 have ha := own_pos (l := l) (d := depthsOf l) (e := l[i]) (by omega)
 unfold own at hc
 rw [if_pos ha] at hc
 have hmx : ∀ (ps : List Int) (m : Int), p ∈ ps → dOf l (depthsOf l) p ≤ ps.foldl (fun m p => mx2 m (dOf l (depthsOf l) p)) m := by
  intro ps
  have hmono : ∀ (ps : List Int) (m : Int), m ≤ ps.foldl (fun m p => mx2 m (dOf l (depthsOf l) p)) m := by
   intro ps
   induction ps with
   | nil => intro m; exact Int.le_refl _
   | cons q ps ih => intro m; rw [List.foldl_cons]; have := ih (mx2 m (dOf l (depthsOf l) q)); have := (mx2_ge m (dOf l (depthsOf l) q)).1; omega
  induction ps with
  | nil => intro m h; cases h
  | cons q ps ih =>
   intro m h
   rw [List.foldl_cons]
   rcases List.mem_cons.1 h with rfl | h
   ·
    have := hmono ps (mx2 m (dOf l (depthsOf l) p)); have := (mx2_ge m (dOf l (depthsOf l) p)).2; omega
   ·
    exact ih _ h
 have := hmx _ 0 hp
 omega
end Go.Proofs.YtnndihmamfomcaaGreat
