/- Plain laws for the graphs: states are merged alike (end). -/
import Derived.Test.YtnndihmamfomcaaGreatCGN
set_option autoImplicit false
set_option linter.unusedVariables false
set_option linter.unusedSimpArgs false
namespace Go.Proofs.YtnndihmamfomcaaGreat
open Go Go.Abs

theorem Zch {h : THistory} {ls : List (List TEntry)} (hm : Mrg h.graph ls) {es : List TEvent} (hes : ∀ e ∈ es, e ∈ h.graph.events) (hel : es.length ≤ 1000) {s : List TEntry} (hs : StOk h.graph.events s) :
  iter (fun z : List TEntry × Int => Zn h es z.1 z.2) big (s, 0) = some (es.foldl (layE h.graph) s) := by
 have := loop_fold (l := es) (step := fun z : List TEntry × Int => Zn h es z.1 z.2) (fun q j => (q, j)) (fun q => q) (layE h.graph) (fun _ q => StOk h.graph.events q) (by omega) (fun i q hi hq => by
  have he := hes _ (List.getElem_mem hi)
  refine ⟨?_, layE_ok (es := [es[i]]) hm.fits.up hq (by simpa using he)⟩
  have hql := hm.slen hq
  simp only [Zn]
  rw [dlt hi, cond_true, get_of_lt hi, Option.bind_some, (c_allowed (hm.sts hq) (hm.ev _ he).ask).2, Option.bind_some, beqd]
  simp only [Z5g, wrap1 hi (by omega : es.length < 9223372036854775807)]
  have h1 := (hm.ev _ he).id.1
  unfold layE putE
  by_cases ha : alw h.graph q es[i] = 0
  ·
   rw [decide_eq_true ha, cond_true, if_pos ha, c_put hq.up _ (by simp only; omega) (by omega)]; rfl
  ·
   rw [decide_eq_false ha, cond_false, if_neg ha])
  (fun q _ => by simp only [Zn]; rw [dnlt, cond_false]) (s := s) hs
 exact this.1

theorem all_any {α : Type} (p : α → Bool) (l : List α) : l.any (fun x => !p x) = !l.all p := by simp [List.all_eq_not_any_not]

theorem c_resolve_1 {ls : List (List TEntry)} (x : TEntry) (hl : ls.length ≤ 1000) (hs : ∀ s ∈ ls, s.length < 1000000) : Z8e ls x = some (!ls.all fun t => memS t x) := by
 unfold Z8e Zae
 rw [bind_idx (loop_idx (l := ls) (step := Z1x ls x) (fun t => !memS t x) (by omega) (fun i hi => by
  simp only [Z1x, Z9u]
  rw [dlt hi, cond_true, get_of_lt hi, Option.bind_some, c_Contains_Entry _ _ (hs _ (List.getElem_mem hi)), Option.bind_some, Option.bind_some, wrap1 hi (by omega)]
  cases memS ls[i] x <;> rfl) (by simp only [Z1x]; rw [dnlt, cond_false])) (fun _ => rfl) rfl]
 rw [Option.bind_some, idxP_nn, all_any]

theorem fold_filter {α : Type} (p : α → Bool) : ∀ (l q : List α), l.foldl (fun q x => if p x = true then q ++ [x] else q) q = q ++ l.filter p
 | [], q => by simp
 | x :: l, q => by
  rw [List.foldl_cons, fold_filter p l]
  cases h : p x with
  | true => rw [if_pos rfl, List.filter_cons_of_pos h]; simp
  | false => rw [if_neg (by simp), List.filter_cons_of_neg (by simp [h])]

theorem Zcj {h : THistory} {ls : List (List TEntry)} (hm : Mrg h.graph ls) : ∃ r : List TEvent, Z1n h ls = some (r.foldl (layE h.graph) (partsR ls).1) ∧ r.Perm (othersI h.graph.events ls) ∧ r.Pairwise (Lt3 (dmI h)) := by
 have hR := (c_partsR hm).2
 have hlen := hm.len
 have hsl : ∀ s ∈ ls, s.length ≤ 60 := fun s hs => hm.slen (hm.ok s hs)
 obtain ⟨o1, o2, o3⟩ := othersI_is hm
 obtain ⟨r, r1, r2, r3⟩ := Zen h o1 (by omega)
 refine ⟨r, ?_, r2, r3⟩
 have hcom : Z1n h ls = Z3d h ls (comI ls) := by
  unfold Z1n
  cases ls with
  | nil => rfl
  | cons s ls =>
   have hs := hsl s (by simp)
   rw [decide_eq_true (by simp), cond_true, show (0 : Int) = ((0 : Nat) : Int) from rfl, get_of_lt (by simp), Option.bind_some]
   simp only [List.getElem_cons_zero]
   have := loop_fold (l := s) (step := fun z : List TEntry × Int => Z1p (s :: ls) s z.1 z.2) (fun q j => (q, j)) (fun q => q) (fun q x => if ((s :: ls).all fun t => memS t x) = true then q ++ [x] else q) (fun i q => q.length ≤ i) (by omega) (fun i q hi hq => by
    refine ⟨?_, by split <;> first | omega | (rw [List.length_append, List.length_singleton]; omega)⟩
    simp only [Z1p]
    rw [dlt hi, cond_true, get_of_lt hi, Option.bind_some, c_resolve_1 _ hlen (fun s hs => by have := hsl s hs; omega), Option.bind_some, chk24 (by simp; omega), Option.bind_some]
    simp only [Z5f, wrap1 hi (by omega : s.length < 9223372036854775807)]
    cases (s :: ls).all fun t => memS t s[i] <;> rfl)
    (fun q _ => by simp only [Z1p]; rw [dnlt, cond_false]) (s := []) (by simp)
   rw [fold_filter (fun x => (s :: ls).all fun t => memS t x), List.nil_append] at this
   rw [show ((0 : Nat) : Int) = 0 from rfl, this.1]
   rfl
 rw [hcom]
 have hc60 : (comI ls).length ≤ 60 := by rw [comI_is hm]; exact (hR.len hm.fits.len).1
 unfold Z3d
 have h2 := loop_fold (l := comI ls) (step := fun z : List (Int × Bool) × Int => Z1o (comI ls) z.1 z.2) (fun q j => (q, j)) (fun q => q) (fun m x => mset m x.id true) (fun _ _ => True) (by omega) (fun i q hi _ => by
  refine ⟨?_, trivial⟩
  simp only [Z1o]
  rw [dlt hi, cond_true, get_of_lt hi, Option.bind_some, wrap1 hi (by omega)])
  (fun q _ => by simp only [Z1o]; rw [dnlt, cond_false]) (s := []) trivial
 rw [h2.1, Option.bind_some]
 unfold Z7k
 have h3 := loop_fold (l := ls) (step := fun z : List TEvent × List (Int × Bool) × Int => Z1r h ls z.1 z.2.1 z.2.2) (fun (q : List TEvent × List (Int × Bool)) j => (q.1, q.2, j)) (fun q => q.1) (fun q s => s.foldl (stepO h.graph.events) q) (fun _ q => OInv h.graph.events q) (by omega) (fun i q hi hq => by
  have hs := hm.ok _ (List.getElem_mem hi)
  have hs6 := hm.slen hs
  have hev : ∀ x ∈ ls[i], ∃ e, evAt h.graph.events x.id = some e := fun x hx => by obtain ⟨e, he, _⟩ := hs.ev x hx; exact ⟨e, he⟩
  refine ⟨?_, (OInv.fold hq hev).1⟩
  simp only [Z1r]
  have inner := loop_fold (l := ls[i]) (step := fun z : List TEvent × List (Int × Bool) × Int => Z1q h ls[i] z.1 z.2.1 z.2.2) (fun (q : List TEvent × List (Int × Bool)) j => (q.1, q.2, j)) (fun q => q) (stepO h.graph.events) (fun _ q => OInv h.graph.events q) (by omega) (fun j q hj hq => by
   obtain ⟨e, he⟩ := hev _ (List.getElem_mem hj)
   refine ⟨?_, (hq.step he).1⟩
   have hql := hq.len
   have := hm.fits.len
   simp only [Z1q]
   rw [dlt hj, cond_true, get_of_lt hj, Option.bind_some]
   simp only [Z5h, Z7n, wrap1 hj (by omega : ls[i].length < 9223372036854775807)]
   unfold stepO
   cases Option.getD (mget q.2 ls[i][j].id) false with
   | true => rfl
   | false =>
    rw [cond_false, c_at _ _ hm.fits.up (by omega), Option.bind_some, chk96 (by simp; omega), Option.bind_some]; rfl)
   (fun q _ => by simp only [Z1q]; rw [dnlt, cond_false]) (s := q) hq
  rw [dlt hi, cond_true, get_of_lt hi, Option.bind_some, inner.1, Option.bind_some]
  simp only [Z7m, wrap1 hi (by omega : ls.length < 9223372036854775807)])
  (fun q _ => by simp only [Z1r]; rw [dnlt, cond_false]) (s := ([], metI (comI ls))) ⟨.nil, fun e he => by cases he⟩
 have h3' := h3.1
 simp only at h3'
 rw [show (comI ls).foldl (fun m x => mset m x.id true) [] = metI (comI ls) from rfl, h3', Option.bind_some]
 have e4 : (ls.foldl (fun q s => s.foldl (stepO h.graph.events) q) ([], metI (comI ls))).1 = othersI h.graph.events ls := by unfold othersI; rw [foldl_flat]
 rw [e4]
 unfold Z7l
 rw [r1, Option.bind_some, comI_is hm]
 have hrl : r.length ≤ 60 := by rw [r2.length_eq]; exact o2
 rw [Zch hm (fun e he => ((o3 e).1 (r2.mem_iff.1 he)).1) (by omega) hR.ok]
 rfl


def dmR (l : List TEvent) (e : TEvent) : Int := dOf l (depthsOf l) e.id
def evD (l : List TEvent) (id : Int) : TEvent := (evAt l id).getD zEv

theorem evD_is {l : List TEvent} {id : Int} (h : id ∈ l.map (·.id)) (hu : Up2 l) : evAt l id = some (evD l id) ∧ evD l id ∈ l ∧ (evD l id).id = id := by
 obtain ⟨e, he, rfl⟩ := List.mem_map.1 h
 have := hu.evAt_mem he
 unfold evD
 rw [this]
 exact ⟨rfl, he, rfl⟩

theorem less_core {dm : TEvent → Int} {x y : Int} {ea eb : TEvent} (hx : dm ea = x) (hy : dm eb = y) :
  cond (hv ea == hv eb) (cond (x != y) (some (decide (x < y))) (cond (ea.time != eb.time) (some (decide (ea.time < eb.time))) (some (decide (ea.id < eb.id))))) ((some (hv ea)).bind fun r => some r) = some (decide (Lt3 dm ea eb)) := by
 have hnn : ∀ e, (hv e = true ∧ hn e = 0) ∨ (hv e = false ∧ hn e = 1) := fun e => by unfold hn; cases hv e <;> simp
 have hc : hn ea = hn eb → cond (x != y) (some (decide (x < y))) (cond (ea.time != eb.time) (some (decide (ea.time < eb.time))) (some (decide (ea.id < eb.id)))) = some (decide (Lt3 dm ea eb)) := fun he => by
  rw [bned, bned]
  by_cases h1 : x = y
  ·
   rw [decide_eq_true h1]
   by_cases h2 : ea.time = eb.time
   ·
    rw [decide_eq_true h2]
    exact congrArg some (decide_eq_decide.2 (by unfold Lt3; omega))
   ·
    rw [decide_eq_false h2]
    exact congrArg some (decide_eq_decide.2 (by unfold Lt3; omega))
  ·
   rw [decide_eq_false h1]
   exact congrArg some (decide_eq_decide.2 (by unfold Lt3; omega))
 rcases hnn ea with ⟨p1, p2⟩ | ⟨p1, p2⟩ <;> rcases hnn eb with ⟨q1, q2⟩ | ⟨q1, q2⟩ <;> rw [p1, q1]
 ·
  exact hc (by omega)
 ·
  exact congrArg some (decide_eq_true (by unfold Lt3; omega)).symm
 ·
  exact congrArg some (decide_eq_false (by unfold Lt3; omega)).symm
 ·
  exact hc (by omega)

theorem c_l06Less {g : TGraph'} {ls : List (List TEntry)} (hm : Mrg g ls) {a b : Int} (ha : a ∈ g.events.map (·.id)) (hb : b ∈ g.events.map (·.id)) : Z9c g (depthsOf g.events) a b = some (decide (Lt3 (dmR g.events) (evD g.events a) (evD g.events b))) := by
 have hfl := hm.fits.len
 obtain ⟨a1, a2, a3⟩ := evD_is ha hm.fits.up
 obtain ⟨b1, b2, b3⟩ := evD_is hb hm.fits.up
 have hd := (c_l03Depths hm.fits).2.len
 have da := (dOf_get hd (has_of_mem a2)).1
 have db := (dOf_get hd (has_of_mem b2)).1
 rw [a3] at da; rw [b3] at db
 unfold Z9c
 rw [c_l03At _ _ (by omega), Option.bind_some, c_l03At _ _ (by omega), Option.bind_some, (get_plc a1).1, Option.bind_some, (get_plc b1).1, Option.bind_some]
 unfold Z9d
 rw [show ∀ e : TEvent, TEvent.mk e.id e.room e.author e.kind e.key e.n e.text e.prev e.time = e from fun _ => rfl, show ∀ e : TEvent, TEvent.mk e.id e.room e.author e.kind e.key e.n e.text e.prev e.time = e from fun _ => rfl]
 rw [c_l06Heavy, Option.bind_some, c_l06Heavy, Option.bind_some, da, Option.bind_some, db, Option.bind_some]
 exact less_core (by unfold dmR; rw [a3]) (by unfold dmR; rw [b3])

theorem c_insert {g : TGraph'} {ls : List (List TEntry)} (hm : Mrg g ls) {ids : List Int} (hids : ∀ n ∈ ids, n ∈ g.events.map (·.id)) (hup : UpI ids) (hl : ids.length ≤ 1000) :
  ∃ od : List Int, iter (fun z : List Int × Int => Z1a g (depthsOf g.events) ids z.1 z.2) big ([], 0) = some od ∧ od.Perm ids ∧ od.Pairwise fun a b => Lt3 (dmR g.events) (evD g.events a) (evD g.events b) := by
 obtain ⟨o, h1, h2⟩ := loop_state (τ := List Int × Int) (ω := List Int) (σ := List Int) (step := fun z : List Int × Int => Z1a g (depthsOf g.events) ids z.1 z.2) (n := ids.length) (fun s j => (s, j))
  (fun i s => s.Perm (ids.take i) ∧ s.Pairwise fun a b => Lt3 (dmR g.events) (evD g.events a) (evD g.events b)) (fun od => od.Perm ids ∧ od.Pairwise fun a b => Lt3 (dmR g.events) (evD g.events a) (evD g.events b)) (by omega) (by
  rintro i s hi ⟨hp, hs⟩
  have hsl : s.length = i := by rw [hp.length_eq]; simp; omega
  have hx := hids _ (List.getElem_mem hi)
  have hsm : ∀ n ∈ s, n ∈ g.events.map (·.id) := fun n hn => hids n (List.mem_of_mem_take (hp.mem_iff.1 hn))
  have hne : ∀ n ∈ s, n < ids[i] := fun n hn => by
   obtain ⟨j, hj, hji, rfl⟩ := mem_take (hp.mem_iff.1 hn)
   exact List.pairwise_iff_getElem.1 hup j i hj hi hji
  obtain ⟨k, k1, k2, k3, k4⟩ := iter_total (step := Z4p g (depthsOf g.events) ids s (i : Int)) (p := fun o => ∃ k : Nat, o = (k : Int) ∧ k ≤ s.length ∧ (∀ y ∈ s.take k, Lt3 (dmR g.events) (evD g.events y) (evD g.events ids[i])) ∧ ∀ y ∈ s.drop k, Lt3 (dmR g.events) (evD g.events ids[i]) (evD g.events y))
   (fun m (z : Int) => ∃ k : Nat, z = (k : Int) ∧ k ≤ s.length ∧ (∀ y ∈ s.drop k, Lt3 (dmR g.events) (evD g.events ids[i]) (evD g.events y)) ∧ m = k) (by
   rintro k z ⟨k', rfl, hk, hd, rfl⟩
   simp only [Z4p, Z73]
   cases k with
   | zero =>
    left
    exact ⟨_, rfl, 0, rfl, by omega, by simp, hd⟩
   | succ k =>
    have hks : k < s.length := by omega
    rw [decide_eq_true (by omega), cond_true, get_of_lt hi, Option.bind_some, wrapm1 (by omega) (by omega), Nat.add_sub_cancel, get_of_lt hks, Option.bind_some, c_l06Less hm hx (hsm _ (List.getElem_mem hks)), Option.bind_some]
    by_cases hlt : Lt3 (dmR g.events) (evD g.events ids[i]) (evD g.events s[k])
    ·
     right
     rw [decide_eq_true hlt, cond_true]
     refine ⟨_, k, rfl, by omega, k, rfl, by omega, fun y hy => ?_, rfl⟩
     rw [List.drop_eq_getElem_cons hks] at hy
     rcases List.mem_cons.1 hy with rfl | hy
     ·
      exact hlt
     ·
      exact hd y hy
    ·
     left
     rw [decide_eq_false hlt, cond_false]
     refine ⟨_, rfl, k + 1, rfl, hk, fun y hy => ?_, hd⟩
     have hkx : Lt3 (dmR g.events) (evD g.events s[k]) (evD g.events ids[i]) := by
      have h4 := hne _ (List.getElem_mem hks)
      have e1 := (evD_is hx hm.fits.up).2.2
      have e2 := (evD_is (hsm _ (List.getElem_mem hks)) hm.fits.up).2.2
      unfold Lt3 at hlt ⊢
      omega
     obtain ⟨j, hj, hjk, rfl⟩ := mem_take hy
     by_cases hjk2 : j = k
     ·
      subst hjk2; exact hkx
     ·
      have h5 := List.pairwise_iff_getElem.1 hs j k hj hks (by omega)
      unfold Lt3 at h5 hkx ⊢; omega) big s.length (s.length : Int) ⟨s.length, rfl, Nat.le_refl _, by simp, rfl⟩ (big_gt (by omega))
  obtain ⟨k, rfl, k5, k6⟩ : ∃ k', k = ((k' : Nat) : Int) ∧ k' = k2 ∧ True := ⟨k2, k3, rfl, trivial⟩
  subst k5
  obtain ⟨hk, hb, ha⟩ := k4
  refine ⟨s.take k ++ ids[i] :: s.drop k, ?_, ?_, ?_⟩
  ·
   simp only [Z1a]
   rw [dlt hi, cond_true, k1, Option.bind_some]
   simp only [Z9j, Int.toNat_natCast]
   rw [chk_t (decide_eq_true (by omega)), Option.bind_some, chk_t (decide_eq_true (by omega)), Option.bind_some, chk8 (by simp; omega), Option.bind_some, get_of_lt hi, Option.bind_some, chk8 (by simp; omega), Option.bind_some, Option.bind_some, Option.bind_some, chk8 (by simp; omega), Option.bind_some, wrap1 hi (by omega)]
   simp
  ·
   refine List.perm_middle.trans ?_
   rw [List.take_append_drop, List.take_add_one, List.getElem?_eq_getElem hi]
   refine (hp.cons _).trans ?_
   exact (List.perm_append_comm (l₁ := [ids[i]]) (l₂ := ids.take i))
  ·
   have hs' := hs
   rw [← List.take_append_drop k s] at hs'
   obtain ⟨s1, s2, s3⟩ := pw_app.1 hs'
   refine pw_app.2 ⟨s1, List.pairwise_cons.2 ⟨ha, s2⟩, fun y hy z hz => ?_⟩
   rcases List.mem_cons.1 hz with rfl | hz
   ·
    exact hb y hy
   ·
    exact s3 y hy z hz) (by
  rintro s ⟨hp, hs⟩
  simp only [Z1a]
  rw [dnlt, cond_false]
  rw [List.take_length] at hp
  exact ⟨s, rfl, hp, hs⟩) (s := []) ⟨by simp, .nil⟩
 exact ⟨o, h1, h2.1, h2.2⟩

def resOf (g : TGraph') (ls : List (List TEntry)) : List TEntry := (Z18 g (depthsOf g.events) ls).getD []

def KnowsD (h : THistory) : Prop := ∀ e ∈ h.graph.events, mget h.depth e.id = some (dmR h.graph.events e)

theorem Zer {g : TGraph'} {ls : List (List TEntry)} (hm : Mrg g ls) : ∃ od : List Int, Z18 g (depthsOf g.events) ls = some ((od.map (evD g.events)).foldl (layE g) (partsR ls).1) ∧ od.Perm (partsR ls).2 ∧ od.Pairwise fun a b => Lt3 (dmR g.events) (evD g.events a) (evD g.events b) := by
 obtain ⟨e1, hR⟩ := c_partsR hm
 have hl := hR.len hm.fits.len
 have hfl := hm.fits.len
 obtain ⟨od, o1, o2, o3⟩ := c_insert hm hR.ids hR.up (by omega)
 refine ⟨od, ?_, o2, o3⟩
 unfold Z18
 rw [e1, Option.bind_some]
 simp only [Z9f]
 rw [o1, Option.bind_some]
 simp only [Z9i]
 have hodl : od.length ≤ 60 := by rw [o2.length_eq]; exact hl.2
 have := loop_fold (l := od) (step := fun z : List TEntry × Int => Z2t g od z.1 z.2) (fun q j => (q, j)) (fun q => q) (fun q n => layE g q (evD g.events n)) (fun _ q => StOk g.events q) (by omega) (fun i q hi hq => by
  have hn := hR.ids _ (o2.mem_iff.1 (List.getElem_mem hi))
  obtain ⟨a1, a2, a3⟩ := evD_is hn hm.fits.up
  refine ⟨?_, layE_ok (es := [evD g.events od[i]]) hm.fits.up hq (by simpa using a2)⟩
  have hql := hm.slen hq
  simp only [Z2t]
  rw [dlt hi, cond_true, get_of_lt hi, Option.bind_some, c_l03At _ _ (by omega), Option.bind_some, (get_plc a1).1, Option.bind_some]
  simp only [Z9h]
  rw [show ∀ e : TEvent, TEvent.mk e.id e.room e.author e.kind e.key e.n e.text e.prev e.time = e from fun _ => rfl, (c_allowed (hm.sts hq) (hm.ev _ a2).ask).1, Option.bind_some, beqd]
  simp only [Z72, wrap1 hi (by omega : od.length < 9223372036854775807)]
  unfold layE putE
  by_cases ha : alw g q (evD g.events od[i]) = 0
  ·
   rw [decide_eq_true ha, cond_true, if_pos ha, c_l04Put hq.up _ (by omega)]; rfl
  ·
   rw [decide_eq_false ha, cond_false, if_neg ha])
  (fun q _ => by simp only [Z2t]; rw [dnlt, cond_false]) (s := (partsR ls).1) hR.ok
 rw [this.1, Option.bind_some]
 simp only [Z9e]
 rw [List.foldl_map]

theorem c_resolve {h : THistory} {ls : List (List TEntry)} (hm : Mrg h.graph ls) (hk : KnowsD h) : Z18 h.graph (depthsOf h.graph.events) ls = some (resOf h.graph ls) ∧ Z1n h ls = some (resOf h.graph ls) ∧ StOk h.graph.events (resOf h.graph ls) := by
 obtain ⟨od, a1, a2, a3⟩ := Zer hm
 obtain ⟨r, b1, b2, b3⟩ := Zcj hm
 have hR := (c_partsR hm).2
 obtain ⟨o1, o2, o3⟩ := othersI_is hm
 have hrm : ∀ e ∈ r, e ∈ h.graph.events := fun e he => ((o3 e).1 (b2.mem_iff.1 he)).1
 have hod : ∀ n ∈ od, n ∈ h.graph.events.map (·.id) := fun n hn => hR.ids n (a2.mem_iff.1 hn)
 have hsame : od.map (evD h.graph.events) = r := by
  refine List.Perm.eq_of_pairwise (le := Lt3 (dmR h.graph.events)) (fun a b _ _ h1 h2 => by unfold Lt3 at h1 h2; omega) (List.pairwise_map.2 a3) ?_ ?_
  ·
   refine List.Pairwise.imp_of_mem (fun {a b} ha hb hab => ?_) b3
   have e1 : ∀ e ∈ r, dmI h e = dmR h.graph.events e := fun e he => by unfold dmI; rw [hk e (hrm e he)]; rfl
   unfold Lt3 at hab ⊢
   rw [e1 a ha, e1 b hb] at hab
   exact hab
  ·
   have n1 : (od.map (evD h.graph.events)).Nodup := by
    rw [List.nodup_iff_pairwise_ne, List.pairwise_map]
    refine a3.imp fun {a b} hab he => ?_
    rw [he] at hab
    unfold Lt3 at hab; omega
   have n2 : r.Nodup := by
    rw [List.nodup_iff_pairwise_ne]
    refine b3.imp fun {a b} hab he => ?_
    rw [he] at hab
    unfold Lt3 at hab; omega
   rw [List.perm_ext_iff_of_nodup n1 n2]
   intro e
   rw [b2.mem_iff, o3, List.mem_map]
   constructor
   ·
    rintro ⟨n, hn, rfl⟩
    obtain ⟨_, c2, c3⟩ := evD_is (hod n hn) hm.fits.up
    exact ⟨c2, by rw [c3]; exact a2.mem_iff.1 hn⟩
   ·
    rintro ⟨h1, h2⟩
    refine ⟨e.id, a2.mem_iff.2 h2, ?_⟩
    unfold evD
    rw [hm.fits.up.evAt_mem h1]; rfl
 have e : resOf h.graph ls = r.foldl (layE h.graph) (partsR ls).1 := by unfold resOf; rw [a1, hsame]; rfl
 rw [e]
 exact ⟨by rw [a1, hsame], b1, layE_ok hm.fits.up hR.ok hrm⟩
end Go.Proofs.YtnndihmamfomcaaGreat
