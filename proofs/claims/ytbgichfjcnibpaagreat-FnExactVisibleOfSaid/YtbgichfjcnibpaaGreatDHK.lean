/- Plain laws for the graphs: states are merged alike (end). -/
import Derived.Test.YtbgichfjcnibpaaGreatDGN
set_option autoImplicit false
set_option linter.unusedVariables false
set_option linter.unusedSimpArgs false
namespace Go.Proofs.YtbgichfjcnibpaaGreat
open Go Go.Abs

theorem Zjb {h : Y94} {ls : List (List Y91)} (hm : Mrg h.graph ls) {es : List Y8w} (hes : ∀ e ∈ es, e ∈ h.graph.events) (hel : es.length ≤ 1000) {s : List Y91} (hs : StOk h.graph.events s) :
  iter (fun z : List Y91 × Int => Zdx h es z.1 z.2) big (s, 0) = some (es.foldl (layE h.graph) s) := by
 have := Ye3 (l := es) (step := fun z : List Y91 × Int => Zdx h es z.1 z.2) (fun q j => (q, j)) (fun q => q) (layE h.graph) (fun _ q => StOk h.graph.events q) (by omega) (fun i q hi hq => by
  have he := hes _ (List.getElem_mem hi)
  refine ⟨?_, Yip (es := [es[i]]) hm.fits.up hq (by simpa using he)⟩
  have hql := hm.slen hq
  simp only [Zdx]
  rw [dlt hi, cond_true, Ydm hi, Option.bind_some, (Yhu (hm.sts hq) (hm.ev _ he).ask).2, Option.bind_some, beqd]
  simp only [Zdw, Ydn hi (by omega : es.length < 9223372036854775807)]
  have h1 := (hm.ev _ he).id.1
  unfold layE putE
  by_cases ha : alw h.graph q es[i] = 0
  ·
   rw [decide_eq_true ha, cond_true, if_pos ha, Yhe hq.up _ (by simp only; omega) (by omega)]; rfl
  ·
   rw [decide_eq_false ha, cond_false, if_neg ha])
  (fun q _ => by simp only [Zdx]; rw [dnlt, cond_false]) (s := s) hs
 exact this.1

theorem Yiq {α : Type} (p : α → Bool) (l : List α) : l.any (fun x => !p x) = !l.all p := by simp [List.all_eq_not_any_not]

theorem Yir {ls : List (List Y91)} (x : Y91) (hl : ls.length ≤ 1000) (hs : ∀ s ∈ ls, s.length < 1000000) : Zdr ls x = some (!ls.all fun t => memS t x) := by
 unfold Zdr Zdp
 rw [Ye5 (Ye0 (l := ls) (step := Zdo ls x) (fun t => !memS t x) (by omega) (fun i hi => by
  simp only [Zdo, Zdl]
  rw [dlt hi, cond_true, Ydm hi, Option.bind_some, Yi5 _ _ (hs _ (List.getElem_mem hi)), Option.bind_some, Option.bind_some, Ydn hi (by omega)]
  cases memS ls[i] x <;> rfl) (by simp only [Zdo]; rw [dnlt, cond_false])) (fun _ => rfl) rfl]
 rw [Option.bind_some, Ye4, Yiq]

theorem Yis {α : Type} (p : α → Bool) : ∀ (l q : List α), l.foldl (fun q x => if p x = true then q ++ [x] else q) q = q ++ l.filter p
 | [], q => by simp
 | x :: l, q => by
  rw [List.foldl_cons, Yis p l]
  cases h : p x with
  | true => rw [if_pos rfl, List.filter_cons_of_pos h]; simp
  | false => rw [if_neg (by simp), List.filter_cons_of_neg (by simp [h])]

theorem Zjc {h : Y94} {ls : List (List Y91)} (hm : Mrg h.graph ls) : ∃ r : List Y8w, Ze9 h ls = some (r.foldl (layE h.graph) (Yi9 ls).1) ∧ r.Perm (Yin h.graph.events ls) ∧ r.Pairwise (Lt3 (dmI h)) := by
 have hR := (Yic hm).2
 have hlen := hm.len
 have hsl : ∀ s ∈ ls, s.length ≤ 60 := fun s hs => hm.slen (hm.ok s hs)
 obtain ⟨o1, o2, o3⟩ := Yio hm
 obtain ⟨r, r1, r2, r3⟩ := Zja h o1 (by omega)
 refine ⟨r, ?_, r2, r3⟩
 have hcom : Ze9 h ls = Ze6 h ls (comI ls) := by
  unfold Ze9
  cases ls with
  | nil => rfl
  | cons s ls =>
   have hs := hsl s (by simp)
   rw [decide_eq_true (by simp), cond_true, show (0 : Int) = ((0 : Nat) : Int) from rfl, Ydm (by simp), Option.bind_some]
   simp only [List.getElem_cons_zero]
   have := Ye3 (l := s) (step := fun z : List Y91 × Int => Ze8 (s :: ls) s z.1 z.2) (fun q j => (q, j)) (fun q => q) (fun q x => if ((s :: ls).all fun t => memS t x) = true then q ++ [x] else q) (fun i q => q.length ≤ i) (by omega) (fun i q hi hq => by
    refine ⟨?_, by split <;> first | omega | (rw [List.length_append, List.length_singleton]; omega)⟩
    simp only [Ze8]
    rw [dlt hi, cond_true, Ydm hi, Option.bind_some, Yir _ hlen (fun s hs => by have := hsl s hs; omega), Option.bind_some, Yh0 (by simp; omega), Option.bind_some]
    simp only [Ze7, Ydn hi (by omega : s.length < 9223372036854775807)]
    cases (s :: ls).all fun t => memS t s[i] <;> rfl)
    (fun q _ => by simp only [Ze8]; rw [dnlt, cond_false]) (s := []) (by simp)
   rw [Yis (fun x => (s :: ls).all fun t => memS t x), List.nil_append] at this
   rw [show ((0 : Nat) : Int) = 0 from rfl, this.1]
   rfl
 rw [hcom]
 have hc60 : (comI ls).length ≤ 60 := by rw [Yie hm]; exact (hR.len hm.fits.len).1
 unfold Ze6
 have h2 := Ye3 (l := comI ls) (step := fun z : List (Int × Bool) × Int => Ze5 (comI ls) z.1 z.2) (fun q j => (q, j)) (fun q => q) (fun m x => mset m x.id true) (fun _ _ => True) (by omega) (fun i q hi _ => by
  refine ⟨?_, trivial⟩
  simp only [Ze5]
  rw [dlt hi, cond_true, Ydm hi, Option.bind_some, Ydn hi (by omega)])
  (fun q _ => by simp only [Ze5]; rw [dnlt, cond_false]) (s := []) trivial
 rw [h2.1, Option.bind_some]
 unfold Ze4
 have h3 := Ye3 (l := ls) (step := fun z : List Y8w × List (Int × Bool) × Int => Ze3 h ls z.1 z.2.1 z.2.2) (fun (q : List Y8w × List (Int × Bool)) j => (q.1, q.2, j)) (fun q => q.1) (fun q s => s.foldl (Yil h.graph.events) q) (fun _ q => OInv h.graph.events q) (by omega) (fun i q hi hq => by
  have hs := hm.ok _ (List.getElem_mem hi)
  have hs6 := hm.slen hs
  have hev : ∀ x ∈ ls[i], ∃ e, evAt h.graph.events x.id = some e := fun x hx => by obtain ⟨e, he, _⟩ := hs.ev x hx; exact ⟨e, he⟩
  refine ⟨?_, (OInv.fold hq hev).1⟩
  simp only [Ze3]
  have inner := Ye3 (l := ls[i]) (step := fun z : List Y8w × List (Int × Bool) × Int => Ze2 h ls[i] z.1 z.2.1 z.2.2) (fun (q : List Y8w × List (Int × Bool)) j => (q.1, q.2, j)) (fun q => q) (Yil h.graph.events) (fun _ q => OInv h.graph.events q) (by omega) (fun j q hj hq => by
   obtain ⟨e, he⟩ := hev _ (List.getElem_mem hj)
   refine ⟨?_, (hq.step he).1⟩
   have hql := hq.len
   have := hm.fits.len
   simp only [Ze2]
   rw [dlt hj, cond_true, Ydm hj, Option.bind_some]
   simp only [Ze0, Ze1, Ydn hj (by omega : ls[i].length < 9223372036854775807)]
   unfold Yil
   cases Option.getD (mget q.2 ls[i][j].id) false with
   | true => rfl
   | false =>
    rw [cond_false, c_at _ _ hm.fits.up (by omega), Option.bind_some, Yif (by simp; omega), Option.bind_some]; rfl)
   (fun q _ => by simp only [Ze2]; rw [dnlt, cond_false]) (s := q) hq
  rw [dlt hi, cond_true, Ydm hi, Option.bind_some, inner.1, Option.bind_some]
  simp only [Zdz, Ydn hi (by omega : ls.length < 9223372036854775807)])
  (fun q _ => by simp only [Ze3]; rw [dnlt, cond_false]) (s := ([], metI (comI ls))) ⟨.nil, fun e he => by cases he⟩
 have h3' := h3.1
 simp only at h3'
 rw [show (comI ls).foldl (fun m x => mset m x.id true) [] = metI (comI ls) from rfl, h3', Option.bind_some]
 have e4 : (ls.foldl (fun q s => s.foldl (Yil h.graph.events) q) ([], metI (comI ls))).1 = Yin h.graph.events ls := by unfold Yin; rw [Yia]
 rw [e4]
 unfold Zdy
 rw [r1, Option.bind_some, Yie hm]
 have hrl : r.length ≤ 60 := by rw [r2.length_eq]; exact o2
 rw [Zjb hm (fun e he => ((o3 e).1 (r2.mem_iff.1 he)).1) (by omega) hR.ok]
 rfl


def dmR (l : List Y8w) (e : Y8w) : Int := dOf l (Yf4 l) e.id
def evD (l : List Y8w) (id : Int) : Y8w := (evAt l id).getD zEv

theorem Yit {l : List Y8w} {id : Int} (h : id ∈ l.map (·.id)) (hu : Up2 l) : evAt l id = some (evD l id) ∧ evD l id ∈ l ∧ (evD l id).id = id := by
 obtain ⟨e, he, rfl⟩ := List.mem_map.1 h
 have := hu.evAt_mem he
 unfold evD
 rw [this]
 exact ⟨rfl, he, rfl⟩

theorem Yiu {dm : Y8w → Int} {x y : Int} {ea eb : Y8w} (hx : dm ea = x) (hy : dm eb = y) :
  cond (hv ea == hv eb) (cond (x != y) (some (decide (x < y))) (cond (ea.time != eb.time) (some (decide (ea.time < eb.time))) (some (decide (ea.id < eb.id))))) ((some (hv ea)).bind fun r => some r) = some (decide (Lt3 dm ea eb)) := by
 have hnn : ∀ e, (hv e = true ∧ hn e = 0) ∨ (hv e = false ∧ hn e = 1) := fun e => by unfold hn; cases hv e <;> simp
 have hc : hn ea = hn eb → cond (x != y) (some (decide (x < y))) (cond (ea.time != eb.time) (some (decide (ea.time < eb.time))) (some (decide (ea.id < eb.id)))) = some (decide (Lt3 dm ea eb)) := fun he => by
  rw [bned, bned]
  by_cases h1 : x = y
  ·
   rw [decide_eq_true h1]
   by_cases h2 : ea.time = eb.time
   ·
    rw [decide_eq_true h2]
    exact congrArg some (decide_eq_decide.2 (by unfold Lt3; omega))
   ·
    rw [decide_eq_false h2]
    exact congrArg some (decide_eq_decide.2 (by unfold Lt3; omega))
  ·
   rw [decide_eq_false h1]
   exact congrArg some (decide_eq_decide.2 (by unfold Lt3; omega))
 rcases hnn ea with ⟨p1, p2⟩ | ⟨p1, p2⟩ <;> rcases hnn eb with ⟨q1, q2⟩ | ⟨q1, q2⟩ <;> rw [p1, q1]
 ·
  exact hc (by omega)
 ·
  exact congrArg some (decide_eq_true (by unfold Lt3; omega)).symm
 ·
  exact congrArg some (decide_eq_false (by unfold Lt3; omega)).symm
 ·
  exact hc (by omega)

theorem Yiv {g : Y8z} {ls : List (List Y91)} (hm : Mrg g ls) {a b : Int} (ha : a ∈ g.events.map (·.id)) (hb : b ∈ g.events.map (·.id)) : Z40 g (Yf4 g.events) a b = some (decide (Lt3 (dmR g.events) (evD g.events a) (evD g.events b))) := by
 have hfl := hm.fits.len
 obtain ⟨a1, a2, a3⟩ := Yit ha hm.fits.up
 obtain ⟨b1, b2, b3⟩ := Yit hb hm.fits.up
 have hd := (Yfa hm.fits).2.len
 have da := (Yf5 hd (Yeo a2)).1
 have db := (Yf5 hd (Yeo b2)).1
 rw [a3] at da; rw [b3] at db
 unfold Z40
 rw [Yej _ _ (by omega), Option.bind_some, Yej _ _ (by omega), Option.bind_some, (Yhj a1).1, Option.bind_some, (Yhj b1).1, Option.bind_some]
 unfold Z3z
 rw [show ∀ e : Y8w, Y8w.mk e.id e.room e.author e.kind e.key e.n e.text e.prev e.time = e from fun _ => rfl, show ∀ e : Y8w, Y8w.mk e.id e.room e.author e.kind e.key e.n e.text e.prev e.time = e from fun _ => rfl]
 rw [Yih, Option.bind_some, Yih, Option.bind_some, da, Option.bind_some, db, Option.bind_some]
 exact Yiu (by unfold dmR; rw [a3]) (by unfold dmR; rw [b3])

theorem Yiw {g : Y8z} {ls : List (List Y91)} (hm : Mrg g ls) {ids : List Int} (hids : ∀ n ∈ ids, n ∈ g.events.map (·.id)) (hup : UpI ids) (hl : ids.length ≤ 1000) :
  ∃ od : List Int, iter (fun z : List Int × Int => Z4y g (Yf4 g.events) ids z.1 z.2) big ([], 0) = some od ∧ od.Perm ids ∧ od.Pairwise fun a b => Lt3 (dmR g.events) (evD g.events a) (evD g.events b) := by
 obtain ⟨o, h1, h2⟩ := Ydk (τ := List Int × Int) (ω := List Int) (σ := List Int) (step := fun z : List Int × Int => Z4y g (Yf4 g.events) ids z.1 z.2) (n := ids.length) (fun s j => (s, j))
  (fun i s => s.Perm (ids.take i) ∧ s.Pairwise fun a b => Lt3 (dmR g.events) (evD g.events a) (evD g.events b)) (fun od => od.Perm ids ∧ od.Pairwise fun a b => Lt3 (dmR g.events) (evD g.events a) (evD g.events b)) (by omega) (by
  rintro i s hi ⟨hp, hs⟩
  have hsl : s.length = i := by rw [hp.length_eq]; simp; omega
  have hx := hids _ (List.getElem_mem hi)
  have hsm : ∀ n ∈ s, n ∈ g.events.map (·.id) := fun n hn => hids n (List.mem_of_mem_take (hp.mem_iff.1 hn))
  have hne : ∀ n ∈ s, n < ids[i] := fun n hn => by
   obtain ⟨j, hj, hji, rfl⟩ := Yfs (hp.mem_iff.1 hn)
   exact List.pairwise_iff_getElem.1 hup j i hj hi hji
  obtain ⟨k, k1, k2, k3, k4⟩ := Y4l (step := Z4x g (Yf4 g.events) ids s (i : Int)) (p := fun o => ∃ k : Nat, o = (k : Int) ∧ k ≤ s.length ∧ (∀ y ∈ s.take k, Lt3 (dmR g.events) (evD g.events y) (evD g.events ids[i])) ∧ ∀ y ∈ s.drop k, Lt3 (dmR g.events) (evD g.events ids[i]) (evD g.events y))
   (fun m (z : Int) => ∃ k : Nat, z = (k : Int) ∧ k ≤ s.length ∧ (∀ y ∈ s.drop k, Lt3 (dmR g.events) (evD g.events ids[i]) (evD g.events y)) ∧ m = k) (by
   rintro k z ⟨k', rfl, hk, hd, rfl⟩
   simp only [Z4x, Z4w]
   cases k with
   | zero =>
    left
    exact ⟨_, rfl, 0, rfl, by omega, by simp, hd⟩
   | succ k =>
    have hks : k < s.length := by omega
    rw [decide_eq_true (by omega), cond_true, Ydm hi, Option.bind_some, Ydo (by omega) (by omega), Nat.add_sub_cancel, Ydm hks, Option.bind_some, Yiv hm hx (hsm _ (List.getElem_mem hks)), Option.bind_some]
    by_cases hlt : Lt3 (dmR g.events) (evD g.events ids[i]) (evD g.events s[k])
    ·
     right
     rw [decide_eq_true hlt, cond_true]
     refine ⟨_, k, rfl, by omega, k, rfl, by omega, fun y hy => ?_, rfl⟩
     rw [List.drop_eq_getElem_cons hks] at hy
     rcases List.mem_cons.1 hy with rfl | hy
     ·
      exact hlt
     ·
      exact hd y hy
    ·
     left
     rw [decide_eq_false hlt, cond_false]
     refine ⟨_, rfl, k + 1, rfl, hk, fun y hy => ?_, hd⟩
     have hkx : Lt3 (dmR g.events) (evD g.events s[k]) (evD g.events ids[i]) := by
      have h4 := hne _ (List.getElem_mem hks)
      have e1 := (Yit hx hm.fits.up).2.2
      have e2 := (Yit (hsm _ (List.getElem_mem hks)) hm.fits.up).2.2
      unfold Lt3 at hlt ⊢
      omega
     obtain ⟨j, hj, hjk, rfl⟩ := Yfs hy
     by_cases hjk2 : j = k
     ·
      subst hjk2; exact hkx
     ·
      have h5 := List.pairwise_iff_getElem.1 hs j k hj hks (by omega)
      unfold Lt3 at h5 hkx ⊢; omega) big s.length (s.length : Int) ⟨s.length, rfl, Nat.le_refl _, by simp, rfl⟩ (Ydh (by omega))
  obtain ⟨k, rfl, k5, k6⟩ : ∃ k', k = ((k' : Nat) : Int) ∧ k' = k2 ∧ True := ⟨k2, k3, rfl, trivial⟩
  subst k5
  obtain ⟨hk, hb, ha⟩ := k4
  refine ⟨s.take k ++ ids[i] :: s.drop k, ?_, ?_, ?_⟩
  ·
   simp only [Z4y]
   rw [dlt hi, cond_true, k1, Option.bind_some]
   simp only [Z4v, Int.toNat_natCast]
   rw [Y4j (decide_eq_true (by omega)), Option.bind_some, Y4j (decide_eq_true (by omega)), Option.bind_some, chk8 (by simp; omega), Option.bind_some, Ydm hi, Option.bind_some, chk8 (by simp; omega), Option.bind_some, Option.bind_some, Option.bind_some, chk8 (by simp; omega), Option.bind_some, Ydn hi (by omega)]
   simp
  ·
   refine List.perm_middle.trans ?_
   rw [List.take_append_drop, List.take_add_one, List.getElem?_eq_getElem hi]
   refine (hp.cons _).trans ?_
   exact (List.perm_append_comm (l₁ := [ids[i]]) (l₂ := ids.take i))
  ·
   have hs' := hs
   rw [← List.take_append_drop k s] at hs'
   obtain ⟨s1, s2, s3⟩ := Yfl.1 hs'
   refine Yfl.2 ⟨s1, List.pairwise_cons.2 ⟨ha, s2⟩, fun y hy z hz => ?_⟩
   rcases List.mem_cons.1 hz with rfl | hz
   ·
    exact hb y hy
   ·
    exact s3 y hy z hz) (by
  rintro s ⟨hp, hs⟩
  simp only [Z4y]
  rw [dnlt, cond_false]
  rw [List.take_length] at hp
  exact ⟨s, rfl, hp, hs⟩) (s := []) ⟨by simp, .nil⟩
 exact ⟨o, h1, h2.1, h2.2⟩

def Yix (g : Y8z) (ls : List (List Y91)) : List Y91 := (Z54 g (Yf4 g.events) ls).getD []

def Yiy (h : Y94) : Prop := ∀ e ∈ h.graph.events, mget h.depth e.id = some (dmR h.graph.events e)

theorem Zjd {g : Y8z} {ls : List (List Y91)} (hm : Mrg g ls) : ∃ od : List Int, Z54 g (Yf4 g.events) ls = some ((od.map (evD g.events)).foldl (layE g) (Yi9 ls).1) ∧ od.Perm (Yi9 ls).2 ∧ od.Pairwise fun a b => Lt3 (dmR g.events) (evD g.events a) (evD g.events b) := by
 obtain ⟨e1, hR⟩ := Yic hm
 have hl := hR.len hm.fits.len
 have hfl := hm.fits.len
 obtain ⟨od, o1, o2, o3⟩ := Yiw hm hR.ids hR.up (by omega)
 refine ⟨od, ?_, o2, o3⟩
 unfold Z54
 rw [e1, Option.bind_some]
 simp only [Z4z]
 rw [o1, Option.bind_some]
 simp only [Z4u]
 have hodl : od.length ≤ 60 := by rw [o2.length_eq]; exact hl.2
 have := Ye3 (l := od) (step := fun z : List Y91 × Int => Z4t g od z.1 z.2) (fun q j => (q, j)) (fun q => q) (fun q n => layE g q (evD g.events n)) (fun _ q => StOk g.events q) (by omega) (fun i q hi hq => by
  have hn := hR.ids _ (o2.mem_iff.1 (List.getElem_mem hi))
  obtain ⟨a1, a2, a3⟩ := Yit hn hm.fits.up
  refine ⟨?_, Yip (es := [evD g.events od[i]]) hm.fits.up hq (by simpa using a2)⟩
  have hql := hm.slen hq
  simp only [Z4t]
  rw [dlt hi, cond_true, Ydm hi, Option.bind_some, Yej _ _ (by omega), Option.bind_some, (Yhj a1).1, Option.bind_some]
  simp only [Z4s]
  rw [show ∀ e : Y8w, Y8w.mk e.id e.room e.author e.kind e.key e.n e.text e.prev e.time = e from fun _ => rfl, (Yhu (hm.sts hq) (hm.ev _ a2).ask).1, Option.bind_some, beqd]
  simp only [Z4r, Ydn hi (by omega : od.length < 9223372036854775807)]
  unfold layE putE
  by_cases ha : alw g q (evD g.events od[i]) = 0
  ·
   rw [decide_eq_true ha, cond_true, if_pos ha, Yh3 hq.up _ (by omega)]; rfl
  ·
   rw [decide_eq_false ha, cond_false, if_neg ha])
  (fun q _ => by simp only [Z4t]; rw [dnlt, cond_false]) (s := (Yi9 ls).1) hR.ok
 rw [this.1, Option.bind_some]
 simp only [Z4q]
 rw [List.foldl_map]

theorem Yiz {h : Y94} {ls : List (List Y91)} (hm : Mrg h.graph ls) (hk : Yiy h) : Z54 h.graph (Yf4 h.graph.events) ls = some (Yix h.graph ls) ∧ Ze9 h ls = some (Yix h.graph ls) ∧ StOk h.graph.events (Yix h.graph ls) := by
 obtain ⟨od, a1, a2, a3⟩ := Zjd hm
 obtain ⟨r, b1, b2, b3⟩ := Zjc hm
 have hR := (Yic hm).2
 obtain ⟨o1, o2, o3⟩ := Yio hm
 have hrm : ∀ e ∈ r, e ∈ h.graph.events := fun e he => ((o3 e).1 (b2.mem_iff.1 he)).1
 have hod : ∀ n ∈ od, n ∈ h.graph.events.map (·.id) := fun n hn => hR.ids n (a2.mem_iff.1 hn)
 have hsame : od.map (evD h.graph.events) = r := by
  refine List.Perm.eq_of_pairwise (le := Lt3 (dmR h.graph.events)) (fun a b _ _ h1 h2 => by unfold Lt3 at h1 h2; omega) (List.pairwise_map.2 a3) ?_ ?_
  ·
   refine List.Pairwise.imp_of_mem (fun {a b} ha hb hab => ?_) b3
   have e1 : ∀ e ∈ r, dmI h e = dmR h.graph.events e := fun e he => by unfold dmI; rw [hk e (hrm e he)]; rfl
   unfold Lt3 at hab ⊢
   rw [e1 a ha, e1 b hb] at hab
   exact hab
  ·
   have n1 : (od.map (evD h.graph.events)).Nodup := by
    rw [List.nodup_iff_pairwise_ne, List.pairwise_map]
    refine a3.imp fun {a b} hab he => ?_
    rw [he] at hab
    unfold Lt3 at hab; omega
   have n2 : r.Nodup := by
    rw [List.nodup_iff_pairwise_ne]
    refine b3.imp fun {a b} hab he => ?_
    rw [he] at hab
    unfold Lt3 at hab; omega
   rw [List.perm_ext_iff_of_nodup n1 n2]
   intro e
   rw [b2.mem_iff, o3, List.mem_map]
   constructor
   ·
    rintro ⟨n, hn, rfl⟩
    obtain ⟨_, c2, c3⟩ := Yit (hod n hn) hm.fits.up
    exact ⟨c2, by rw [c3]; exact a2.mem_iff.1 hn⟩
   ·
    rintro ⟨h1, h2⟩
    refine ⟨e.id, a2.mem_iff.2 h2, ?_⟩
    unfold evD
    rw [hm.fits.up.evAt_mem h1]; rfl
 have e : Yix h.graph ls = r.foldl (layE h.graph) (Yi9 ls).1 := by unfold Yix; rw [a1, hsame]; rfl
 rw [e]
 exact ⟨by rw [a1, hsame], b1, Yip hm.fits.up hR.ok hrm⟩
end Go.Proofs.YtbgichfjcnibpaaGreat
namespace Go.Proofs.YtbgichfjcnibpaaGreat
open Go Go.Abs

inductive Bf (l : List Y8w) (a : Int) : List Int → List Int → Bool → Prop
 | nil (seen : List Int) : Bf l a seen [] false
 | hit (seen r : List Int) : Bf l a seen (a :: r) true
 | skip (seen r : List Int) (id : Int) (b : Bool) : id ≠ a → id ∈ seen → Bf l a seen r b → Bf l a seen (id :: r) b
 | more (seen r : List Int) (id : Int) (b : Bool) : id ≠ a → id ∉ seen → Bf l a (id :: seen) (r ++ (evD l id).prev) b → Bf l a seen (id :: r) b

theorem Bf.det {l : List Y8w} {a : Int} {seen todo : List Int} {b1 b2 : Bool} (h1 : Bf l a seen todo b1) (h2 : Bf l a seen todo b2) : b1 = b2 := by
 induction h1 with
 | nil => cases h2; rfl
 | hit => cases h2 <;> first | rfl | contradiction
 | skip _ _ _ _ n1 m1 _ ih =>
  cases h2 with
  | hit => exact absurd rfl n1
  | skip _ _ _ _ _ _ h => exact ih h
  | more _ _ _ _ _ m2 _ => exact absurd m1 m2
 | more _ _ _ _ n1 m1 _ ih =>
  cases h2 with
  | hit => exact absurd rfl n1
  | skip _ _ _ _ _ m2 _ => exact absurd m2 m1
  | more _ _ _ _ _ _ h => exact ih h

def Yj0 (l : List Y8w) (seen : List Int) : Nat := l.countP fun e => !decide (e.id ∈ seen)
theorem Yj1 {l : List Y8w} {seen : List Int} {id : Int} (hi : id ∈ l.map (·.id)) (hn : id ∉ seen) : Yj0 l (id :: seen) < Yj0 l seen := by
 have key : ∀ l : List Y8w, Yj0 l (id :: seen) ≤ Yj0 l seen ∧ (id ∈ l.map (·.id) → Yj0 l (id :: seen) < Yj0 l seen) := by
  intro l
  unfold Yj0
  induction l with
  | nil => simp
  | cons e l ih =>
   obtain ⟨i1, i2⟩ := ih
   by_cases he : e.id = id
   ·
    rw [List.countP_cons_of_neg (by simp [he]), List.countP_cons_of_pos (by simp [he, hn])]
    exact ⟨by omega, fun _ => by omega⟩
   ·
    by_cases hs : e.id ∈ seen
    ·
     rw [List.countP_cons_of_neg (by simp [hs]), List.countP_cons_of_neg (by simp [hs])]
     refine ⟨i1, fun h => i2 ?_⟩
     simp only [List.map_cons, List.mem_cons] at h
     exact h.resolve_left fun h => he h.symm
    ·
     rw [List.countP_cons_of_pos (by simp [hs, he]), List.countP_cons_of_pos (by simp [hs])]
     refine ⟨by omega, fun h => ?_⟩
     simp only [List.map_cons, List.mem_cons] at h
     have := i2 (h.resolve_left fun h => he h.symm)
     omega
 exact (key l).2 hi
theorem Yj2 (l : List Y8w) (seen : List Int) : Yj0 l seen ≤ l.length := List.countP_le_length

structure Walk (g : Y8z) : Prop where
 fits : Fits g.events
 ev : ∀ e ∈ g.events, EvOk e

theorem Walk.prev {g : Y8z} (h : Walk g) {id : Int} (hi : id ∈ g.events.map (·.id)) : (evD g.events id).prev.length ≤ 4 ∧ ∀ p ∈ (evD g.events id).prev, p ∈ g.events.map (·.id) := by
 obtain ⟨_, h2, _⟩ := Yit hi h.fits.up
 refine ⟨(h.ev _ h2).prev.1, fun p hp => ?_⟩
 obtain ⟨e, he, hid⟩ := Yep.1 (h.fits.whole _ h2 p hp)
 exact List.mem_map.2 ⟨e, he, hid⟩

theorem Yj3 {l : List Y8w} {id : Int} : hasE l id = true ↔ id ∈ l.map (·.id) := by rw [Yep, List.mem_map]

theorem Zje {g : Y8z} (h : Walk g) (a : Int) {e : Y8w} (he : e ∈ g.events) : ∃ b, Zeg g a e = some b ∧ Bf g.events a [] e.prev b := by
 have hfl := h.fits.len
 have hev : evD g.events e.id = e := by unfold evD; rw [h.fits.up.evAt_mem he]; rfl
 have hpe := h.prev (List.mem_map.2 ⟨e, he, rfl⟩)
 rw [hev] at hpe
 unfold Zeg
 have hcl : Zeb e.prev = some e.prev := by unfold Zeb; rw [chk8 (by omega)]; rfl
 rw [hcl, Option.bind_some]
 obtain ⟨o, h1, h2⟩ := Y4l (step := fun z : List (Int × Bool) × List Int × Int => Zef g a z.1 z.2.1 z.2.2) (p := fun o : Bool ⊕ Unit => ∃ b, Bf g.events a [] e.prev b ∧ ((o = .inl true ∧ b = true) ∨ (o = .inr () ∧ b = false)))
  (fun k (z : List (Int × Bool) × List Int × Int) => ∃ (seen : List Int) (at_ : Nat), z.2.2 = (at_ : Int) ∧ at_ ≤ z.2.1.length ∧ (∀ id, Option.getD (mget z.1 id) false = true ↔ id ∈ seen) ∧ (∀ id ∈ z.2.1, id ∈ g.events.map (·.id)) ∧ z.2.1.length + 5 * Yj0 g.events seen ≤ 400 ∧ (∀ b, Bf g.events a seen (z.2.1.drop at_) b → Bf g.events a [] e.prev b) ∧ k = (z.2.1.length - at_) + 5 * Yj0 g.events seen) (by
  rintro k ⟨m, q, x⟩ ⟨seen, at_, hx, hat, hm, hq, hb, hB, hk⟩
  simp only at hx hat hm hq hb hB hk
  subst hx
  simp only [Zef]
  by_cases hlt : at_ < q.length
  ·
   rw [dlt hlt, cond_true, Ydm hlt, Option.bind_some, beqd]
   rw [List.drop_eq_getElem_cons hlt] at hB
   have hqi := hq _ (List.getElem_mem hlt)
   generalize q[at_] = id at hB hqi
   by_cases ha : id = a
   ·
    left
    rw [decide_eq_true ha, cond_true]
    subst ha
    exact ⟨_, rfl, true, hB _ (.hit _ _), .inl ⟨rfl, rfl⟩⟩
   ·
    right
    rw [decide_eq_false ha, cond_false]
    simp only [Zee, Ydn hlt (by omega : q.length < 9223372036854775807)]
    by_cases hs : Option.getD (mget m id) false = true
    ·
     rw [hs, cond_true]
     exact ⟨_, k - 1, rfl, by omega, seen, at_ + 1, rfl, by simp only; omega, hm, hq, hb, fun b h => hB b (.skip _ _ _ _ ha ((hm id).1 hs) h), by simp only; omega⟩
    ·
     rw [Bool.eq_false_iff.2 hs, cond_false, c_at _ _ h.fits.up (by omega), Option.bind_some]
     have hns : id ∉ seen := fun h => hs ((hm id).2 h)
     have hp := h.prev hqi
     have hu := Yj1 hqi hns
     have e1 : (evAt g.events id).getD zEv = evD g.events id := rfl
     rw [e1, chk8 (by show q.length + (evD g.events id).prev.length < 1000000000; omega), Option.bind_some]
     refine ⟨_, (q.length + (evD g.events id).prev.length - (at_ + 1)) + 5 * Yj0 g.events (id :: seen), rfl, by omega, id :: seen, at_ + 1, rfl, by simp; omega, fun id' => ?_, fun id' hid => ?_, by simp; omega, fun b h => hB b ?_, by simp⟩
     ·
      rw [Y67]
      by_cases h3 : id' = id
      ·
       rw [if_pos h3]; simp [h3]
      ·
       rw [if_neg h3, hm]; simp [h3]
     ·
      rcases List.mem_append.1 hid with hid | hid
      ·
       exact hq _ hid
      ·
       exact hp.2 _ hid
     ·
      refine .more _ _ _ _ ha hns ?_
      simp only at h
      rwa [List.drop_append_of_le_length (by omega)] at h
  ·
   left
   obtain rfl : at_ = q.length := by omega
   rw [dnlt, cond_false]
   rw [List.drop_length] at hB
   exact ⟨_, rfl, false, hB _ (.nil _), .inr ⟨rfl, rfl⟩⟩) big (e.prev.length + 5 * Yj0 g.events []) ([], e.prev, 0) ⟨[], 0, rfl, by simp, by simp [mget], hpe.2, by have := Yj2 g.events []; simp only; omega, by simp, by simp⟩ (Ydh (by have := Yj2 g.events []; omega))
 obtain ⟨b, hb, h2⟩ := h2
 rw [h1, Option.bind_some]
 rcases h2 with ⟨rfl, rfl⟩ | ⟨rfl, rfl⟩
 ·
  exact ⟨true, rfl, hb⟩
 ·
  exact ⟨false, rfl, hb⟩

theorem Yj4 (e : Y8w) (h : e.prev.length < 1000000) : Z56 e = some e := by
 unfold Z56
 rw [chk8 (by simp; omega), Option.bind_some]
 rfl

theorem Yj5 {g : Y8z} (hl : g.events.length < 1000000) {e : Y8w} {id : Int} (he : evAt g.events id = some e) (hp : e.prev.length < 1000000) : Z58 g id = some e := by
 unfold Z58
 obtain ⟨h1, h2⟩ := Yhj he
 rw [Yej _ _ (by omega), Option.bind_some, decide_eq_false (by omega), cond_false, h1, Option.bind_some, Yj4 _ hp]; rfl

theorem Zjf {g : Y8z} (h : Walk g) (a : Int) (ha : a ∈ g.events.map (·.id)) {e : Y8w} (he : e ∈ g.events) : ∃ b, Z5d g a e.id = some b ∧ Bf g.events a [] e.prev b := by
 have hfl := h.fits.len
 have hee := h.fits.up.evAt_mem he
 have hev : evD g.events e.id = e := by unfold evD; rw [hee]; rfl
 have hpe := h.prev (List.mem_map.2 ⟨e, he, rfl⟩)
 rw [hev] at hpe
 unfold Z5d
 rw [Yej _ _ (by omega), Option.bind_some, Yel, Yj3.2 ha, Yej _ _ (by omega), Option.bind_some, Yel, Yeo he]
 simp only [Bool.not_true, cond_false, Z5c]
 rw [Y4j (decide_eq_true ⟨by omega, by omega⟩), Option.bind_some, Yj5 (by omega) hee (by omega), Option.bind_some, chk8 (by simp; omega), Option.bind_some, Int.toNat_natCast, List.nil_append]
 obtain ⟨o, h1, h2⟩ := Y4l (step := fun z : List Bool × List Int => Z5b g a z.1 z.2) (p := fun o : Bool ⊕ Unit => ∃ b, Bf g.events a [] e.prev b ∧ ((o = .inl true ∧ b = true) ∨ (o = .inr () ∧ b = false)))
  (fun k (z : List Bool × List Int) => ∃ (seen : List Int), z.1.length = g.events.length ∧ (∀ id ∈ g.events.map (·.id), getI z.1 (plc g.events id) = some (decide (id ∈ seen))) ∧ (∀ id ∈ z.2, id ∈ g.events.map (·.id)) ∧ z.2.length + 5 * Yj0 g.events seen ≤ 400 ∧ (∀ b, Bf g.events a seen z.2 b → Bf g.events a [] e.prev b) ∧ k = z.2.length + 5 * Yj0 g.events seen) (by
  rintro k ⟨m, q⟩ ⟨seen, hml, hm, hq, hb, hB, hk⟩
  simp only at hml hm hq hb hB hk
  simp only [Z5b]
  cases q with
  | nil =>
   left
   exact ⟨_, rfl, false, hB _ (.nil _), .inr ⟨rfl, rfl⟩⟩
  | cons id r =>
   have hqi := hq id (by simp)
   obtain ⟨i1, i2, i3⟩ := Yit hqi h.fits.up
   rw [decide_eq_true (by simp <;> omega), cond_true, show (0 : Int) = ((0 : Nat) : Int) from rfl, Ydm (by simp), Option.bind_some, Y4j (decide_eq_true (by simp <;> omega)), Option.bind_some, Yej _ _ (by omega), Option.bind_some]
   simp only [List.getElem_cons_zero, List.length_cons] at hk hb ⊢
   rw [beqd]
   by_cases ha : id = a
   ·
    left
    rw [decide_eq_true ha, cond_true]
    subst ha
    exact ⟨_, rfl, true, hB _ (.hit _ _), .inl ⟨rfl, rfl⟩⟩
   ·
    right
    rw [decide_eq_false ha, cond_false, hm id hqi, Option.bind_some]
    by_cases hs : id ∈ seen
    ·
     rw [decide_eq_true hs, cond_true]
     exact ⟨_, k - 1, rfl, by omega, seen, hml, hm, fun id' h => hq id' (by simp at h; simp [h]), by simp; omega, fun b h => hB b (.skip _ _ _ _ ha hs (by simpa using h)), by simp; omega⟩
    ·
     have hp := h.prev hqi
     have hu := Yj1 hqi hs
     rw [decide_eq_false hs, cond_false, (Yhj i1).1, Option.bind_some, chk8 (by simp; omega), Option.bind_some]
     refine ⟨_, r.length + (evD g.events id).prev.length + 5 * Yj0 g.events (id :: seen), rfl, by omega, id :: seen, by simp [hml], fun id' hid => ?_, fun id' hid => ?_, by simp; omega, fun b h => hB b (.more _ _ _ _ ha hs (by simpa using h)), by simp⟩
     ·
      obtain ⟨p, hpl, p1, p2, p3⟩ := Yem (Yj3.2 hid)
      obtain ⟨p', hpl', p1', p2', p3'⟩ := Yem (Yj3.2 hqi)
      rw [p1, p1', Int.toNat_natCast]
      have hm' := hm id' hid
      rw [p1] at hm'
      by_cases h3 : id' = id
      ·
       subst h3
       obtain rfl : p = p' := by omega
       rw [Ydm (by simp; omega)]
       simp
      ·
       have hne : p' ≠ p := fun h => by subst h; exact h3 (p2.symm.trans p2')
       rw [Ydm (by omega)] at hm'
       rw [Ydm (by simp; omega), List.getElem_set_ne hne]
       rw [hm']
       simp [h3]
     ·
      simp at hid
      rcases hid with hid | hid
      ·
       exact hq _ (by simp [hid])
      ·
       exact hp.2 _ hid) big (e.prev.length + 5 * Yj0 g.events []) (List.replicate g.events.length false, e.prev) ⟨[], by simp, fun id hid => by
   obtain ⟨p, hpl, p1, _, _⟩ := Yem (Yj3.2 hid)
   rw [p1, Ydm (by simpa using hpl)]; simp, hpe.2, by have := Yj2 g.events []; simp only; omega, by simp, by simp⟩ (Ydh (by have := Yj2 g.events []; omega))
 obtain ⟨b, hb, h2⟩ := h2
 rw [h1, Option.bind_some]
 rcases h2 with ⟨rfl, rfl⟩ | ⟨rfl, rfl⟩
 ·
  exact ⟨true, rfl, hb⟩
 ·
  exact ⟨false, rfl, hb⟩

theorem Bf.none {g : Y8z} (h : Walk g) {a : Int} (ha : a ∉ g.events.map (·.id)) {seen todo : List Int} {b : Bool} (hb : Bf g.events a seen todo b) (ht : ∀ id ∈ todo, id ∈ g.events.map (·.id)) : b = false := by
 induction hb with
 | nil => rfl
 | hit => exact absurd (ht a (by simp)) ha
 | skip _ _ _ _ _ _ _ ih => exact ih fun id hid => ht id (by simp [hid])
 | more _ r id _ _ _ _ ih =>
  refine ih fun id' hid => ?_
  rcases List.mem_append.1 hid with hid | hid
  ·
   exact ht id' (by simp [hid])
  ·
   exact (h.prev (ht id (by simp))).2 _ hid

theorem Yj6 {g : Y8z} (h : Walk g) (a : Int) {e : Y8w} (he : e ∈ g.events) : ∃ b, Z5d g a e.id = some b ∧ Zeg g a e = some b := by
 obtain ⟨b, h1, h2⟩ := Zje h a he
 by_cases ha : a ∈ g.events.map (·.id)
 ·
  obtain ⟨b', h3, h4⟩ := Zjf h a ha he
  have := h2.det h4
  subst this
  exact ⟨b, h3, h1⟩
 ·
  have hpe := h.prev (List.mem_map.2 ⟨e, he, rfl⟩)
  have hev : evD g.events e.id = e := by unfold evD; rw [h.fits.up.evAt_mem he]; rfl
  rw [hev] at hpe
  have := h2.none h ha hpe.2
  subst this
  refine ⟨false, ?_, h1⟩
  have hfl := h.fits.len
  unfold Z5d
  rw [Yej _ _ (by omega), Option.bind_some, Yel, Bool.eq_false_iff.2 (fun hh => ha (Yj3.1 hh))]
  rfl


def Cons (l : List Y8w) (d : List Int) : Prop := ∀ (i : Nat) (hi : i < l.length), d.getD i 0 > 0 → own l d l[i] = d.getD i 0

theorem Yj7 {l : List Y8w} {d : List Int} {e : Y8w} (h : own l d e > 0) : e.prev.all (fun p => decide (dOf l d p > 0)) = true := by
 unfold own at h
 split at h
 ·
  assumption
 ·
  omega

theorem Yj8 {f g : Int → Int → Int} : ∀ {l : List Int} {m : Int}, (∀ m, ∀ p ∈ l, f m p = g m p) → l.foldl f m = l.foldl g m
 | [], _, _ => rfl
 | p :: l, m, h => by rw [List.foldl_cons, List.foldl_cons, h m p (by simp)]; exact Yj8 fun m q hq => h m q (by simp [hq])

theorem Yj9 {l : List Y8w} {d : List Int} (hd : d.length = l.length) (hw : Yf2 l) {i : Nat} {v : Int} (h0 : d.getD i 0 = 0) {e : Y8w} (he : e ∈ l) (h : own l d e > 0) : own l (d.set i v) e = own l d e := by
 have hp := Yj7 h
 have hsame : ∀ p ∈ e.prev, dOf l (d.set i v) p = dOf l d p := fun p hp' => by
  have h1 := of_decide_eq_true (List.all_eq_true.1 hp p hp')
  obtain ⟨k, hk, k1, _, _⟩ := Yem (hw e he p hp')
  unfold dOf at h1 ⊢
  rw [k1] at h1 ⊢
  have hkd : k < d.length := by omega
  rw [Ydm hkd] at h1
  rw [Ydm (by simpa using hkd), Ydm hkd]
  by_cases hik : i = k
  ·
   subst hik
   simp only [List.getD_eq_getElem?_getD, List.getElem?_eq_getElem hkd, Option.getD_some] at h0
   simp only [Option.getD_some] at h1
   omega
  ·
   rw [List.getElem_set_ne hik]
 unfold own
 have e1 : e.prev.all (fun p => decide (dOf l (d.set i v) p > 0)) = e.prev.all (fun p => decide (dOf l d p > 0)) := by
  rw [Bool.eq_iff_iff, List.all_eq_true, List.all_eq_true]
  constructor
  ·
   intro h2 p hp'; have := h2 p hp'; rwa [hsame p hp'] at this
  ·
   intro h2 p hp'; rw [hsame p hp']; exact h2 p hp'
 rw [e1, Yj8 fun m p hp' => by rw [hsame p hp']]

theorem Cons.upd {l : List Y8w} {d : List Int} {c i : Nat} (hw : Yf2 l) (hb : Bd l c d) (hi : i < l.length) (h : Cons l d) : Cons l (updD l d i) := by
 rcases Yfc hb hi with h1 | ⟨h1, h2, h3, _⟩
 ·
  rw [h1]; exact h
 ·
  rw [h3]
  have e2 : l.getD i zEv = l[i] := by simp [hi]
  rw [e2] at h2 ⊢
  intro j hj hpos
  have hjd : j < d.length := by rw [hb.len]; exact hj
  have hid : i < d.length := by rw [hb.len]; exact hi
  by_cases hij : i = j
  ·
   subst hij
   rw [Yj9 hb.len hw h1 (List.getElem_mem hi) h2]
   simp [hid]
  ·
   have e3 : (d.set i (own l d l[i])).getD j 0 = d.getD j 0 := by
    simp only [List.getD_eq_getElem?_getD, List.getElem?_set_ne hij]
   rw [e3] at hpos ⊢
   have h4 := h j hj hpos
   rw [Yj9 hb.len hw h1 (List.getElem_mem hj) (by omega)]
   exact h4

theorem Cons.sweep {l : List Y8w} {d : List Int} {c : Nat} (hw : Yf2 l) (hb : Bd l c d) (h : Cons l d) : Cons l (sweep l d) := by
 unfold Go.Proofs.YtbgichfjcnibpaaGreat.sweep
 suffices key : ∀ (r : List Nat) (c : Nat) (d : List Int), (∀ i ∈ r, i < l.length) → Bd l c d → Cons l d → Cons l (r.foldl (updD l) d) from key _ c d (fun i hi => by simpa using hi) hb h
 intro r
 induction r with
 | nil => intro c d _ _ h; exact h
 | cons i r ih =>
  intro c d hr hb h
  rw [List.foldl_cons]
  exact ih (c + 1) _ (fun j hj => hr j (by simp [hj])) (Yf8 hw hb (hr i (by simp))) (h.upd hw hb (hr i (by simp)))

theorem Yja {l : List Y8w} (hf : Fits l) : Cons l (Yf4 l) := by
 unfold Yf4
 have hz : Bd l 0 (List.replicate l.length 0) := ⟨by simp, fun x hx => by rw [List.eq_of_mem_replicate hx]; simp⟩
 have key : ∀ k, k ≤ l.length → Cons l (Yf3 l k (List.replicate l.length 0)) := by
  intro k
  induction k with
  | zero =>
   intro _ i hi h
   simp [Yf3, hi] at h
  | succ k ih =>
   intro hk
   exact (ih (by omega)).sweep hf.whole (Yfg hf hz k (by omega))
 exact key _ (Nat.le_refl _)

theorem Yjb (a b : Int) : a ≤ mx2 a b ∧ b ≤ mx2 a b := by unfold mx2; split <;> omega
theorem Yjc {l : List Y8w} (hf : Fits l) (hd : Deep l) {e : Y8w} (he : e ∈ l) {p : Int} (hp : p ∈ e.prev) : dOf l (Yf4 l) p < dOf l (Yf4 l) e.id := by
 obtain ⟨i, hi, rfl⟩ := List.mem_iff_getElem.1 he
 have hb := (Yfa hf).2
 have hid : i < (Yf4 l).length := by rw [hb.len]; exact hi
 have e1 : dOf l (Yf4 l) l[i].id = (Yf4 l)[i] := by
  unfold dOf
  rw [(hf.up.plc hi).1, Ydm hid]; rfl
 have e2 : (Yf4 l).getD i 0 = (Yf4 l)[i] := by simp [hid]
 have hpos := hd _ (List.getElem_mem hid)
 have hc := Yja hf i hi (by rw [e2]; exact hpos)
 rw [e2] at hc
 rw [e1]
 have ha := Yj7 (l := l) (d := Yf4 l) (e := l[i]) (by omega)
 unfold own at hc
 rw [if_pos ha] at hc
 have hmx : ∀ (ps : List Int) (m : Int), p ∈ ps → dOf l (Yf4 l) p ≤ ps.foldl (fun m p => mx2 m (dOf l (Yf4 l) p)) m := by
  intro ps
  have hmono : ∀ (ps : List Int) (m : Int), m ≤ ps.foldl (fun m p => mx2 m (dOf l (Yf4 l) p)) m := by
   intro ps
   induction ps with
   | nil => intro m; exact Int.le_refl _
   | cons q ps ih => intro m; rw [List.foldl_cons]; have := ih (mx2 m (dOf l (Yf4 l) q)); have := (Yjb m (dOf l (Yf4 l) q)).1; omega
  induction ps with
  | nil => intro m h; cases h
  | cons q ps ih =>
   intro m h
   rw [List.foldl_cons]
   rcases List.mem_cons.1 h with rfl | h
   ·
    have := hmono ps (mx2 m (dOf l (Yf4 l) p)); have := (Yjb m (dOf l (Yf4 l) p)).2; omega
   ·
    exact ih _ h
 have := hmx _ 0 hp
 omega
end Go.Proofs.YtbgichfjcnibpaaGreat
namespace Go.Proofs.YtbgichfjcnibpaaGreat
open Go Go.Abs

theorem Yjd {τ1 τ2 ω1 ω2 σ1 σ2 : Type} {step1 : τ1 → Option (τ1 ⊕ ω1)} {step2 : τ2 → Option (τ2 ⊕ ω2)} {n : Nat} (emb1 : σ1 → Int → τ1) (emb2 : σ2 → Int → τ2) (I : Nat → σ1 → σ2 → Prop) (Q : ω1 → ω2 → Prop) (hn : n < 9223372036854775807)
  (h1 : ∀ (i : Nat) (s : σ1) (t : σ2), i < n → I i s t → ∃ s' t', step1 (emb1 s i) = some (.inl (emb1 s' ((i + 1 : Nat) : Int))) ∧ step2 (emb2 t i) = some (.inl (emb2 t' ((i + 1 : Nat) : Int))) ∧ I (i + 1) s' t')
  (h2 : ∀ s t, I n s t → ∃ o o', step1 (emb1 s n) = some (.inr o) ∧ step2 (emb2 t n) = some (.inr o') ∧ Q o o') {s : σ1} {t : σ2} (h0 : I 0 s t) :
  ∃ o o', iter step1 big (emb1 s 0) = some o ∧ iter step2 big (emb2 t 0) = some o' ∧ Q o o' := by
 have key : ∀ m i k : Nat, ∀ s t, i + m = n → m < k → I i s t → ∃ o o', iter step1 k (emb1 s i) = some o ∧ iter step2 k (emb2 t i) = some o' ∧ Q o o' := by
  intro m
  induction m with
  | zero =>
   intro i k s t hm hk hi
   obtain ⟨k, rfl⟩ : ∃ k', k = k' + 1 := ⟨k - 1, by omega⟩
   obtain rfl : i = n := by omega
   obtain ⟨o, o', e1, e2, hq⟩ := h2 s t hi
   exact ⟨o, o', by rw [iter, e1]; rfl, by rw [iter, e2]; rfl, hq⟩
  | succ m ih =>
   intro i k s t hm hk hi
   obtain ⟨k, rfl⟩ : ∃ k', k = k' + 1 := ⟨k - 1, by omega⟩
   obtain ⟨s', t', e1, e2, hi'⟩ := h1 i s t (by omega) hi
   obtain ⟨o, o', f1, f2, hq⟩ := ih (i + 1) k s' t' (by omega) (by omega) hi'
   exact ⟨o, o', by rw [iter, e1]; exact f1, by rw [iter, e2]; exact f2, hq⟩
 exact key n 0 big s t (by omega) (Ydh (by omega)) h0


theorem Yje {l : List Y8w} {k : Nat} (hk : k < l.length) : idPl l (k : Int) = l[k].id := by unfold idPl; simp [hk]
theorem Yjf {l : List Y8w} (hf : Fits l) {k : Nat} (hk : k < l.length) : dd (Yf4 l) (k : Int) = dOf l (Yf4 l) l[k].id := by
 have hb := (Yfa hf).2
 have hkd : k < (Yf4 l).length := by rw [hb.len]; exact hk
 unfold dd dOf
 rw [(hf.up.plc hk).1, Ydm hkd]
 simp [hkd]

theorem Yjg {l : List Y8w} (hf : Fits l) {k : Nat} (hk : k < l.length) : (k : Int) ∈ Ygc l := by
 refine (Yge hf).2.1.mem_iff.2 ?_
 unfold idt
 exact List.mem_map.2 ⟨k, List.mem_range'_1.2 ⟨by omega, by omega⟩, rfl⟩

theorem Yjh {l : List Y8w} (hf : Fits l) : (Ygd l).length = l.length := by unfold Ygd; rw [List.length_map, Ygg hf]
theorem Yji {l : List Y8w} (hf : Fits l) {id : Int} : id ∈ Ygd l ↔ id ∈ l.map (·.id) := by
 unfold Ygd
 rw [List.mem_map, List.mem_map]
 constructor
 ·
  rintro ⟨x, hx, rfl⟩
  obtain ⟨k, rfl, hk⟩ := Ygf hf hx
  exact ⟨l[k], List.getElem_mem hk, (Yje hk).symm⟩
 ·
  rintro ⟨e, he, rfl⟩
  obtain ⟨k, hk, rfl⟩ := List.mem_iff_getElem.1 he
  exact ⟨(k : Int), Yjg hf hk, Yje hk⟩
theorem Yjj {l : List Y8w} (hf : Fits l) : (Ygd l).Nodup := by
 unfold Ygd
 rw [List.nodup_iff_pairwise_ne, List.pairwise_map]
 refine List.Pairwise.imp_of_mem (fun {a b} ha hb hab he => ?_) (Yge hf).2.2
 obtain ⟨i, rfl, hi⟩ := Ygf hf ha
 obtain ⟨j, rfl, hj⟩ := Ygf hf hb
 rw [Yje hi, Yje hj] at he
 obtain rfl := hf.up.inj hi hj he
 unfold Lt2 at hab; omega

theorem Yjk {l : List Y8w} {i : Nat} (h1 : i < (Ygc l).length) (h2 : i < (Ygd l).length) : (Ygd l)[i] = idPl l (Ygc l)[i] := List.getElem_map _
theorem Yjl {l : List Y8w} (hf : Fits l) (hd : Deep l) {i : Nat} (hi : i < (Ygd l).length) {e : Y8w} (he : evAt l (Ygd l)[i] = some e) {p : Int} (hp : p ∈ e.prev) : p ∈ (Ygd l).take i := by
 obtain ⟨hel, hid⟩ := Yeq he
 obtain ⟨f, hfl, hfid⟩ := Yep.1 (hf.whole e hel p hp)
 obtain ⟨k, hk, rfl⟩ := List.mem_iff_getElem.1 hfl
 obtain ⟨u, hu, huk⟩ := List.mem_iff_getElem.1 (Yjg hf hk)
 have hlt := Yjc hf hd hel hp
 have hil : i < (Ygc l).length := by rw [Ygg hf]; rw [Yjh hf] at hi; exact hi
 obtain ⟨x, hx, hxl⟩ := Ygf hf (List.getElem_mem hil)
 have e1 : (Ygd l)[i] = l[x].id := by
  rw [Yjk hil hi, hx, Yje hxl]
 have d1 := Yjf hf hxl
 have d2 := Yjf hf hk
 rw [← e1, ← hid] at d1
 rw [hfid] at d2
 have hui : u < i := by
  rcases Nat.lt_trichotomy u i with h | h | h
  ·
   exact h
  ·
   subst h
   rw [hx] at huk
   have : x = k := by omega
   subst this
   omega
  ·
   have := List.pairwise_iff_getElem.1 (Yge hf).2.2 i u hil hu h
   rw [hx, huk] at this
   unfold Lt2 at this; omega
 have hul : u < (Ygd l).length := by omega
 have e2 : (Ygd l)[u] = p := by
  rw [Yjk hu hul, huk, Yje hk, hfid]
 have : ((Ygd l).take i)[u]'(by simp; omega) = p := by simp [e2]
 rw [← this]
 exact List.getElem_mem _


def Yjm (g : Y8z) (a : Int) (e : Y8w) : Bool := (Zeg g a e).getD false
def Yjn (g : Y8z) (s : List Y91) (e : Y8w) : Int := if alw g s e = 0 ∧ e.kind = 8 ∧ Yjm g e.key e = false then 6 else alw g s e
def Yjo (g : Y8z) (s : List Y91) (e : Y8w) : List Y91 := if Yjn g s e = 0 ∧ e.kind ≤ 6 then putE s e else s

theorem Yjp {g : Y8z} (hu : Up2 g.events) {s : List Y91} (hs : StOk g.events s) {e : Y8w} (he : e ∈ g.events) : StOk g.events (Yjo g s e) := by
 unfold Yjo
 split
 ·
  exact hs.put (hu.evAt_mem he)
 ·
  exact hs

structure Yjq (g : Y8z) (ls : Int → List Y91) (B A : List (Int × List Y91)) (R : List (Int × Int)) (ah bh : List (List Y91)) (cd : List Int) (e : Y8w) : Prop where
 ok : StOk g.events (Yix g (e.prev.map ls))
 mB : mget B e.id = some (Yix g (e.prev.map ls))
 mR : mget R e.id = some (Yjn g (Yix g (e.prev.map ls)) e)
 mA : mget A e.id = some (Yjo g (Yix g (e.prev.map ls)) e)
 ga : getI ah (plc g.events e.id) = some (Yix g (e.prev.map ls))
 gc : getI cd (plc g.events e.id) = some (Yjn g (Yix g (e.prev.map ls)) e)
 gb : getI bh (plc g.events e.id) = some (Yjo g (Yix g (e.prev.map ls)) e)

def behI (A : List (Int × List Y91)) (id : Int) : List Y91 := Option.getD (mget A id) []

structure Yjr (g : Y8z) : Prop where
 fits : Fits g.events
 ev : ∀ e ∈ g.events, EvOk e
 deep : Deep g.events
theorem GOk.right {g : Y8z} (h : GOk g) : Yjr g := ⟨h.fits, fun e he => (h.ev e he).1, h.deep⟩
theorem Yjr.walk {g : Y8z} (h : Yjr g) : Walk g := ⟨h.fits, h.ev⟩

theorem Yjs {g : Y8z} (h : Yjr g) (a : Int) {e : Y8w} (he : e ∈ g.events) : Z5d g a e.id = some (Yjm g a e) ∧ Zeg g a e = some (Yjm g a e) := by
 obtain ⟨b, h1, h2⟩ := Yj6 h.walk a he
 unfold Yjm
 rw [h1, h2]
 exact ⟨rfl, rfl⟩

theorem Yjt {α : Type} {l : List α} {k j : Nat} {v : α} (hk : k < l.length) : getI (l.set k v) (j : Int) = if j = k then some v else getI l (j : Int) := by
 have h0 : (0 : Int) ≤ (j : Int) := by omega
 simp only [getI, h0, if_true, Int.toNat_natCast]
 by_cases h : j = k
 ·
  subst h; rw [if_pos rfl, List.getElem?_set_self hk]
 ·
  rw [if_neg h, List.getElem?_set_ne (by omega)]

theorem Zjg {h : Y94} (hr : Yjr h.graph) (hk : Yiy h) {e : Y8w} (he : e ∈ h.graph.events) (hpl : ∀ p ∈ e.prev, StOk h.graph.events (behI h.after p)) :
  Zel h e = some (mset h.before e.id (Yix h.graph (e.prev.map (behI h.after))), mset h.after e.id (Yjo h.graph (Yix h.graph (e.prev.map (behI h.after))) e), mset h.refused e.id (Yjn h.graph (Yix h.graph (e.prev.map (behI h.after))) e)) := by
 have hp4 := (hr.ev e he).prev.1
 have hst : Zbw h e.prev = some (e.prev.map (behI h.after)) := by
  unfold Zbw
  have := Ye3 (l := e.prev) (step := fun z : List (List Y91) × Int => Zbv h e.prev z.1 z.2) (fun q j => (q, j)) (fun q => q) (fun q p => q ++ [behI h.after p]) (fun i q => q.length = i) (by omega) (fun i q hi hq => by
   refine ⟨?_, by simp [hq]⟩
   simp only [Zbv]
   rw [dlt hi, cond_true, Ydm hi, Option.bind_some, Yh0 (by simp; omega), Option.bind_some, Ydn hi (by omega)]; rfl)
   (fun q _ => by simp only [Zbv]; rw [dnlt, cond_false]) (s := []) rfl
  have e1 : ∀ (r : List Int) (q : List (List Y91)), r.foldl (fun q p => q ++ [behI h.after p]) q = q ++ r.map (behI h.after) := by
   intro r
   induction r with
   | nil => intro q; simp
   | cons p r ih => intro q; rw [List.foldl_cons, ih]; simp
  rw [this.1, e1]; rfl
 have hm : Mrg h.graph (e.prev.map (behI h.after)) := ⟨hr.fits, hr.ev, hr.deep, fun s hs => by obtain ⟨p, hp, rfl⟩ := List.mem_map.1 hs; exact hpl p hp, by simp; omega⟩
 obtain ⟨_, c2, c3⟩ := Yiz hm hk
 unfold Zel
 rw [hst, Option.bind_some, c2, Option.bind_some, (Yhu (hm.sts c3) (hr.ev e he).ask).2, Option.bind_some, (Yjs hr _ he).2, beqd, beqd]
 have hsl := hm.slen c3
 generalize Yix h.graph (e.prev.map (behI h.after)) = s at c3 hsl
 have hid := (hr.ev e he).id.1
 have hput := Yhe c3.up (Y91.mk e.kind e.key e.id) (by simp only; omega) (by omega)
 simp only [Zek, Zej, Zei, Option.bind_some, hput, Y68, beqd]
 unfold Yjo Yjn putE
 by_cases h1 : alw h.graph s e = 0
 ·
  by_cases h2 : e.kind = 8
  ·
   cases h3 : Yjm h.graph e.key e with
   | false => simp [h1, h2]
   | true => simp [h1, h2]
  ·
   by_cases h4 : e.kind ≤ 6
   ·
    simp [h1, h2, h4]
   ·
    simp [h1, h2, h4]
 ·
  simp [h1]
end Go.Proofs.YtbgichfjcnibpaaGreat
namespace Go.Proofs.YtbgichfjcnibpaaGreat
open Go Go.Abs

theorem Yju {α β : Type} (f : α → β) : ∀ (r : List α) (q : List β), r.foldl (fun q p => q ++ [f p]) q = q ++ r.map f
 | [], q => by simp
 | p :: r, q => by rw [List.foldl_cons, Yju f r]; simp

theorem Zjh {g : Y8z} (hr : Yjr g) {od : List Int} {ah bh : List (List Y91)} {cd : List Int} (ls : Int → List Y91) {i : Nat} (hi : i < od.length) (hil : i < g.events.length) {k : Nat} (hk : k < g.events.length) (hid : od[i] = g.events[k].id)
  (la : ah.length = g.events.length) (lb : bh.length = g.events.length) (lc : cd.length = g.events.length) (hpl : ∀ p ∈ g.events[k].prev, StOk g.events (ls p) ∧ getI bh (plc g.events p) = some (ls p)) :
  Z5m g (Yf4 g.events) od ah bh cd (i : Int) = some (.inl (ah.set k (Yix g (g.events[k].prev.map ls)), bh.set k (Yjo g (Yix g (g.events[k].prev.map ls)) g.events[k]), cd.set k (Yjn g (Yix g (g.events[k].prev.map ls)) g.events[k]), ((i + 1 : Nat) : Int))) := by
 have hfl := hr.fits.len
 have he : g.events[k] ∈ g.events := List.getElem_mem hk
 have hev := hr.ev _ he
 have hp4 := hev.prev.1
 have hplc := (hr.fits.up.plc hk).1
 simp only [Z5m]
 rw [dlt hil, cond_true, Ydm hi, Option.bind_some, hid, Yej _ _ (by omega), Option.bind_some, hplc, Ydm hk, Option.bind_some]
 generalize g.events[k] = e at *
 have h7 := Ye3 (l := e.prev) (step := fun z : List (List Y91) × Int => Z5l g bh e z.1 z.2) (fun q j => (q, j)) (fun q => q) (fun q p => q ++ [ls p]) (fun i q => q.length = i) (by omega) (fun i q hi hq => by
  refine ⟨?_, by simp [hq]⟩
  simp only [Z5l]
  rw [dlt hi, cond_true, Ydm hi, Option.bind_some, Yej _ _ (by omega), Option.bind_some, (hpl _ (List.getElem_mem hi)).2, Option.bind_some, Yh0 (by simp; omega), Option.bind_some, Ydn hi (by omega)])
  (fun q _ => by simp only [Z5l]; rw [dnlt, cond_false]) (s := []) rfl
 rw [h7.1, Yju, Option.bind_some, List.nil_append]
 have hm : Mrg g (e.prev.map ls) := ⟨hr.fits, hr.ev, hr.deep, fun s hs => by obtain ⟨p, hp, rfl⟩ := List.mem_map.1 hs; exact (hpl p hp).1, by simp; omega⟩
 -- any history that knows the depths
 have hkn : Yiy (Y94.mk g (g.events.map fun e => (e.id, dmR g.events e)) [] [] []) := by
  intro e' he'
  have key : ∀ l : List Y8w, e' ∈ l → mget (l.map fun e => (e.id, dmR g.events e)) e'.id = some (dmR g.events e') := by
   intro l
   induction l with
   | nil => intro h; cases h
   | cons f l ih =>
    intro h
    simp only [List.map_cons, mget]
    by_cases hf : e'.id = f.id
    ·
     rw [if_pos hf]
     unfold dmR
     rw [hf]
    ·
     rw [if_neg hf]
     rcases List.mem_cons.1 h with rfl | h
     ·
      exact absurd rfl hf
     ·
      exact ih h
  exact key _ he'
 obtain ⟨c1, _, c3⟩ := Yiz (h := Y94.mk g (g.events.map fun e => (e.id, dmR g.events e)) [] [] []) hm hkn
 simp only at c1 c3
 simp only [Z5k]
 rw [c1, Option.bind_some, Ydm (by omega : k < ah.length), Option.bind_some, Int.toNat_natCast, Yjt (by omega), if_pos rfl, Option.bind_some, (Yhu (hm.sts c3) hev.ask).1, Option.bind_some, Ydm (by omega : k < cd.length), Option.bind_some, Yjt (by omega), if_pos rfl, Option.bind_some, (Yjs hr _ he).1, beqd, beqd]
 have hsl := hm.slen c3
 generalize Yix g (e.prev.map ls) = s at c3 hsl
 have hput := Yh3 c3.up (Y91.mk e.kind e.key e.id) (by omega)
 have w1 : IntKind.i64.wrap ((i : Int) + 1) = ((i + 1 : Nat) : Int) := Ydn hil (by omega)
 simp only [Z5j, Z5i, Z5h, Z5g, Int.toNat_natCast, hput, List.nil_append]
 rw [Yh0 (by simp; omega)]
 have hgb : ∀ v : List Y91, getI (bh.set k v) (k : Int) = some v := fun v => by rw [Yjt (by omega), if_pos rfl]
 have hgc : ∀ v : Int, getI (cd.set k v) (k : Int) = some v := fun v => by rw [Yjt (by omega), if_pos rfl]
 have hgb0 := Ydm (by omega : k < bh.length)
 simp only [Option.bind_some, hgb, hgc, hgb0, w1, List.set_set, beqd]
 unfold Yjo Yjn putE
 by_cases h1 : alw g s e = 0
 ·
  by_cases h2 : e.kind = 8
  ·
   cases h3 : Yjm g e.key e with
   | false => simp [h1, h2, hgc]
   | true => simp [h1, h2, hgc]
  ·
   by_cases h4 : e.kind ≤ 6
   ·
    simp [h1, h2, h4, hgc]
   ·
    simp [h1, h2, h4, hgc]
 ·
  simp [h1, hgc]

structure Both (g : Y8z) (h : Y94) (w : Y92) : Prop where
 graph : h.graph = g
 depth : Yiy h
 depths : w.depths = Yf4 g.events
 la : w.ahead.length = g.events.length
 lb : w.behind.length = g.events.length
 lc : w.code.length = g.events.length
 all : ∀ e ∈ g.events, Yjq g (behI h.after) h.before h.after h.refused w.ahead w.behind w.code e

theorem Yjv {A : List (Int × List Y91)} {id p : Int} {t : List Y91} (h : p ≠ id) : behI (mset A id t) p = behI A p := by
 unfold behI; rw [Y67, if_neg h]

theorem Yjw {g : Y8z} (hr : Yjr g) : ∃ h w, Zer g = some h ∧ Z5o g = some w ∧ Both g h w := by
 have hfl := hr.fits.len
 obtain ⟨e0, hb⟩ := Yfa hr.fits
 have hol := Yjh hr.fits
 -- the depths
 obtain ⟨m, hm1, hm2⟩ : ∃ m, iter (fun z : List (Int × Int) × Int => Zeq g (Yf4 g.events, decide (Yfb (Yf4 g.events) = 0)) z.1 z.2) big ([], 0) = some m ∧ ∀ e ∈ g.events, mget m e.id = some (dmR g.events e) := by
  obtain ⟨o, h1, h2⟩ := Ydk (τ := List (Int × Int) × Int) (ω := List (Int × Int)) (σ := List (Int × Int)) (step := fun z : List (Int × Int) × Int => Zeq g (Yf4 g.events, decide (Yfb (Yf4 g.events) = 0)) z.1 z.2) (n := g.events.length) (fun s j => (s, j))
   (fun i s => ∀ (j : Nat) (hj : j < g.events.length), j < i → mget s g.events[j].id = some (dmR g.events g.events[j])) (fun o => ∀ (j : Nat) (hj : j < g.events.length), mget o g.events[j].id = some (dmR g.events g.events[j])) (by omega) (by
   intro i s hi hI
   have hid : i < (Yf4 g.events).length := by rw [hb.len]; exact hi
   refine ⟨mset s g.events[i].id (Yf4 g.events)[i], ?_, fun j hj hji => ?_⟩
   ·
    simp only [Zeq]
    rw [dlt hi, cond_true, Ydm hi, Option.bind_some, Ydm hid, Option.bind_some, Ydn hi (by omega)]
   ·
    rw [Y67]
    by_cases he : g.events[j].id = g.events[i].id
    ·
     rw [if_pos he]
     obtain rfl := hr.fits.up.inj hj hi he
     unfold dmR dOf
     rw [(hr.fits.up.plc hj).1, Ydm hid]; rfl
    ·
     rw [if_neg he]
     exact hI j hj (by
      rcases Nat.lt_or_ge j i with h | h
      ·
       exact h
      ·
       obtain rfl : j = i := by omega
       exact absurd rfl he)) (by
   intro s hI
   simp only [Zeq]
   rw [dnlt, cond_false]
   exact ⟨s, rfl, fun j hj => hI j hj hj⟩) (s := []) (fun j hj h => by omega)
  refine ⟨o, h1, fun e he => ?_⟩
  obtain ⟨j, hj, rfl⟩ := List.mem_iff_getElem.1 he
  exact h2 j hj
 -- the states
 have hpos : ∀ i, (hi : i < (Ygd g.events).length) → ∃ k, ∃ hk : k < g.events.length, (Ygd g.events)[i] = g.events[k].id := fun i hi => by
  obtain ⟨e, he, h1⟩ := List.mem_map.1 ((Yji hr.fits).1 (List.getElem_mem hi))
  obtain ⟨k, hk, rfl⟩ := List.mem_iff_getElem.1 he
  exact ⟨k, hk, h1.symm⟩
 obtain ⟨⟨B, A, R⟩, ⟨ah, bh, cd⟩, q1, q2, la, lb, lc, hall⟩ := Yjd (step1 := fun z : List (Int × List Y91) × List (Int × List Y91) × List (Int × Int) × Int => Zeo g m (Ygd g.events) z.1 z.2.1 z.2.2.1 z.2.2.2) (step2 := fun z : List (List Y91) × List (List Y91) × List Int × Int => Z5m g (Yf4 g.events) (Ygd g.events) z.1 z.2.1 z.2.2.1 z.2.2.2) (n := g.events.length)
  (fun (s : List (Int × List Y91) × List (Int × List Y91) × List (Int × Int)) j => (s.1, s.2.1, s.2.2, j)) (fun (s : List (List Y91) × List (List Y91) × List Int) j => (s.1, s.2.1, s.2.2, j))
  (fun i s t => t.1.length = g.events.length ∧ t.2.1.length = g.events.length ∧ t.2.2.length = g.events.length ∧ ∀ e ∈ g.events, e.id ∈ (Ygd g.events).take i → Yjq g (behI s.2.1) s.1 s.2.1 s.2.2 t.1 t.2.1 t.2.2 e)
  (fun (s : List (Int × List Y91) × List (Int × List Y91) × List (Int × Int)) (t : List (List Y91) × List (List Y91) × List Int) => t.1.length = g.events.length ∧ t.2.1.length = g.events.length ∧ t.2.2.length = g.events.length ∧ ∀ e ∈ g.events, Yjq g (behI s.2.1) s.1 s.2.1 s.2.2 t.1 t.2.1 t.2.2 e) (by omega) (by
  rintro i ⟨B, A, R⟩ ⟨ah, bh, cd⟩ hi ⟨la, lb, lc, hI⟩
  simp only at la lb lc hI ⊢
  have hio : i < (Ygd g.events).length := by omega
  obtain ⟨k, hk, hid⟩ := hpos i hio
  have he : g.events[k] ∈ g.events := List.getElem_mem hk
  have hevat : evAt g.events (Ygd g.events)[i] = some g.events[k] := by rw [hid]; exact (hr.fits.up.plc hk).2
  have hprev : ∀ p ∈ g.events[k].prev, ∃ f ∈ g.events, f.id = p ∧ p ∈ (Ygd g.events).take i := fun p hp => by
   obtain ⟨f, hf, hfid⟩ := Yep.1 (hr.fits.whole _ he p hp)
   exact ⟨f, hf, hfid, Yjl hr.fits hr.deep hio hevat hp⟩
  have hknow : ∀ p ∈ g.events[k].prev, StOk g.events (behI A p) ∧ getI bh (plc g.events p) = some (behI A p) := fun p hp => by
   obtain ⟨f, hf, hfid, ht⟩ := hprev p hp
   subst hfid
   have hk := hI f hf ht
   have e1 : behI A f.id = Yjo g (Yix g (f.prev.map (behI A))) f := by
    show Option.getD (mget A f.id) [] = _
    rw [hk.mA]; rfl
   rw [e1]
   exact ⟨Yjp hr.fits.up hk.ok hf, hk.gb⟩
  have hks : Yiy (Y94.mk g m B A R) := hm2
  have s1 := Zjg (h := Y94.mk g m B A R) hr hks he (fun p hp => (hknow p hp).1)
  have s2 := Zjh hr (od := Ygd g.events) (ah := ah) (bh := bh) (cd := cd) (behI A) hio hi hk hid la lb lc hknow
  have hm : Mrg g (g.events[k].prev.map (behI A)) := ⟨hr.fits, hr.ev, hr.deep, fun s hs => by obtain ⟨p, hp, rfl⟩ := List.mem_map.1 hs; exact (hknow p hp).1, by have := (hr.ev _ he).prev.1; simp; omega⟩
  have hsok := (Yiz (h := Y94.mk g m B A R) hm hks).2.2
  simp only at s1 hsok
  refine ⟨(mset B g.events[k].id (Yix g (g.events[k].prev.map (behI A))), mset A g.events[k].id (Yjo g (Yix g (g.events[k].prev.map (behI A))) g.events[k]), mset R g.events[k].id (Yjn g (Yix g (g.events[k].prev.map (behI A))) g.events[k])), (ah.set k (Yix g (g.events[k].prev.map (behI A))), bh.set k (Yjo g (Yix g (g.events[k].prev.map (behI A))) g.events[k]), cd.set k (Yjn g (Yix g (g.events[k].prev.map (behI A))) g.events[k])), ?_, s2, by simp [la], by simp [lb], by simp [lc], ?_⟩
  ·
   simp only [Zeo]
   rw [dlt hio, cond_true, Ydm hio, Option.bind_some, c_at _ _ hr.fits.up (by omega), hevat, Option.bind_some]
   simp only [Option.getD_some]
   rw [s1, Option.bind_some, Ydn hio (by omega)]
  ·
   intro e hem het
   have hself : ∀ p ∈ g.events[k].prev, p ≠ g.events[k].id := fun p hp => ((hr.ev _ he).prev.2.1 p hp).2.2
   have hpk := (hr.fits.up.plc hk).1
   by_cases hek : e = g.events[k]
   ·
    subst hek
    have e1 : g.events[k].prev.map (behI (mset A g.events[k].id (Yjo g (Yix g (g.events[k].prev.map (behI A))) g.events[k]))) = g.events[k].prev.map (behI A) := List.map_congr_left fun p hp => Yjv (hself p hp)
    refine ⟨?_, ?_, ?_, ?_, ?_, ?_, ?_⟩
    ·
     simp only [e1]; exact hsok
    ·
     simp only [e1]; rw [Y67, if_pos rfl]
    ·
     simp only [e1]; rw [Y67, if_pos rfl]
    ·
     simp only [e1]; rw [Y67, if_pos rfl]
    ·
     simp only [e1]; rw [hpk, Yjt (by omega), if_pos rfl]
    ·
     simp only [e1]; rw [hpk, Yjt (by omega), if_pos rfl]
    ·
     simp only [e1]; rw [hpk, Yjt (by omega), if_pos rfl]
   ·
    have hne : e.id ≠ g.events[k].id := fun h => hek (by
     obtain ⟨j, hj, rfl⟩ := List.mem_iff_getElem.1 hem
     obtain rfl := hr.fits.up.inj hj hk h
     rfl)
    have het' : e.id ∈ (Ygd g.events).take i := by
     rw [List.take_add_one, List.getElem?_eq_getElem hio, hid] at het
     rcases List.mem_append.1 het with h | h
     ·
      exact h
     ·
      simp at h; exact absurd h hne
    obtain ⟨j, hj, hji, hje⟩ := Yfs het'
    have hpn : ∀ p ∈ e.prev, p ≠ g.events[k].id := fun p hp hpe => by
     have h1 := Yjl hr.fits hr.deep hj (e := e) (by rw [hje]; exact hr.fits.up.evAt_mem hem) hp
     obtain ⟨u, hu, huj, hue⟩ := Yfs h1
     have : u = i := by
      have hnd := Yjj hr.fits
      exact (List.getElem_inj (h₀ := hu) (h₁ := hio) hnd).1 (by rw [hue, hpe, hid])
     omega
    have e1 : e.prev.map (behI (mset A g.events[k].id (Yjo g (Yix g (g.events[k].prev.map (behI A))) g.events[k]))) = e.prev.map (behI A) := List.map_congr_left fun p hp => Yjv (hpn p hp)
    have hK := hI e hem het'
    obtain ⟨ke, hke, hkp, _, _⟩ := Yem (Yeo hem)
    have hkk : ke ≠ k := fun h => by
     subst h
     have := hr.fits.up.plc hke
     obtain ⟨j2, hj2, hje2⟩ := List.mem_iff_getElem.1 hem
     have h3 := (hr.fits.up.plc hj2).1
     rw [hje2, hkp] at h3
     have : j2 = ke := by omega
     subst this
     exact hek hje2.symm
    refine ⟨?_, ?_, ?_, ?_, ?_, ?_, ?_⟩
    ·
     simp only [e1]; exact hK.ok
    ·
     simp only [e1]; rw [Y67, if_neg hne]; exact hK.mB
    ·
     simp only [e1]; rw [Y67, if_neg hne]; exact hK.mR
    ·
     simp only [e1]; rw [Y67, if_neg hne]; exact hK.mA
    ·
     simp only [e1]; rw [hkp, Yjt (by omega), if_neg hkk, ← hkp]; exact hK.ga
    ·
     simp only [e1]; rw [hkp, Yjt (by omega), if_neg hkk, ← hkp]; exact hK.gc
    ·
     simp only [e1]; rw [hkp, Yjt (by omega), if_neg hkk, ← hkp]; exact hK.gb) (by
  rintro ⟨B, A, R⟩ ⟨ah, bh, cd⟩ ⟨la, lb, lc, hI⟩
  simp only at la lb lc hI
  refine ⟨(B, A, R), (ah, bh, cd), ?_, ?_, la, lb, lc, fun e he => hI e he ?_⟩
  ·
   simp only [Zeo]
   rw [hol, dnlt, cond_false]
  ·
   simp only [Z5m]
   rw [dnlt, cond_false]
  ·
   rw [List.take_of_length_le (by omega)]
   exact (Yji hr.fits).2 (List.mem_map.2 ⟨e, he, rfl⟩)) (s := ([], [], [])) (t := (List.replicate g.events.length [], List.replicate g.events.length [], List.replicate g.events.length 0)) ⟨by simp, by simp, by simp, fun e _ h => by simp at h⟩
 simp only at q1 q2 la lb lc hall
 refine ⟨Y94.mk g m B A R, Y92.mk (Yf4 g.events) ah bh cd, ?_, ?_, rfl, hm2, rfl, la, lb, lc, hall⟩
 ·
  unfold Zer
  rw [Yfh hr.fits, Option.bind_some, hm1, Option.bind_some]
  simp only [Zep, Zen]
  rw [Ygh hr.fits, Option.bind_some, q1]; rfl
 ·
  unfold Z5o
  rw [e0, Option.bind_some, Y4j (decide_eq_true ⟨by omega, by omega⟩), Option.bind_some, Option.bind_some, Y4j (decide_eq_true ⟨by omega, by omega⟩), Option.bind_some]
  simp only [Z5n, Z5f, Int.toNat_natCast]
  rw [Ygp hr.fits hr.deep, Option.bind_some, q2]; rfl
end Go.Proofs.YtbgichfjcnibpaaGreat
namespace Go.Proofs.YtbgichfjcnibpaaGreat
open Go Go.Abs

def refB (h : Y94) (id : Int) : Bool := decide (Option.getD (mget h.refused id) 0 = 0)

theorem Both.code {g : Y8z} {h : Y94} {w : Y92} (hb : Both g h w) {e : Y8w} (he : e ∈ g.events) : ∃ c, getI w.code (plc g.events e.id) = some c ∧ Option.getD (mget h.refused e.id) 0 = c := by
 have hk := hb.all e he
 exact ⟨_, hk.gc, by rw [hk.mR]; rfl⟩
theorem Both.behind {g : Y8z} {h : Y94} {w : Y92} (hb : Both g h w) (hr : Yjr g) {e : Y8w} (he : e ∈ g.events) : getI w.behind (plc g.events e.id) = some (behI h.after e.id) ∧ StOk g.events (behI h.after e.id) := by
 have hk := hb.all e he
 have e1 : behI h.after e.id = Yjo g (Yix g (e.prev.map (behI h.after))) e := by
  show Option.getD (mget h.after e.id) [] = _
  rw [hk.mA]; rfl
 rw [e1]
 exact ⟨hk.gb, Yjp hr.fits.up hk.ok he⟩
theorem Both.ahead {g : Y8z} {h : Y94} {w : Y92} (hb : Both g h w) {e : Y8w} (he : e ∈ g.events) : getI w.ahead (plc g.events e.id) = some (behI h.before e.id) ∧ StOk g.events (behI h.before e.id) := by
 have hk := hb.all e he
 have e1 : behI h.before e.id = Yix g (e.prev.map (behI h.after)) := by
  show Option.getD (mget h.before e.id) [] = _
  rw [hk.mB]; rfl
 rw [e1]
 exact ⟨hk.ga, hk.ok⟩

theorem Yjr.sts {g : Y8z} (hr : Yjr g) {s : List Y91} (hs : StOk g.events s) : Sts g s := (Mrg.mk (ls := []) hr.fits hr.ev hr.deep (fun s hs => by cases hs) (by simp)).sts hs

end Go.Proofs.YtbgichfjcnibpaaGreat
namespace Go.Proofs.YtbgichfjcnibpaaGreat
open Go Go.Abs


theorem Yjx (p : List Int) (n : Int) (hp : p.length ≤ maxLen) (h0 : 0 ≤ n) (hn : n ≤ 1048576) : ∃ r, Z1 p n = some r ∧ ((0 ≤ r ∧ r ≤ n ∧ p.length ≤ 1048576) ∨ r = -1) := by
 simp only [maxLen] at hp
 unfold Z1
 rw [Y4i (by omega) (by omega)]
 by_cases h : n - (p.length : Int) < 0
 ·
  rw [decide_eq_true h]; exact ⟨_, rfl, .inr rfl⟩
 ·
  rw [decide_eq_false h]; exact ⟨_, rfl, .inl ⟨by omega, by omega, by omega⟩⟩

structure EvIn (e : Y8w) : Prop where
 text : e.text.size ≤ maxLen
 prev : e.prev.length ≤ maxLen

theorem Yjy (e : Y8w) (n : Int) (he : EvIn e) (h0 : 0 ≤ n) (hn : n ≤ 1048576) : ∃ r, Z3 e n = some r ∧ ((0 ≤ r ∧ r ≤ n ∧ e.prev.length ≤ 1048576 ∧ e.text.size ≤ 1048576) ∨ r = -1) := by
 have ht := he.text
 simp only [maxLen] at ht
 unfold Z3
 rw [Y4i (by omega) (by omega)]
 by_cases h : n - (e.text.size : Int) < 0
 ·
  rw [decide_eq_true h]; exact ⟨_, rfl, .inr rfl⟩
 ·
  rw [decide_eq_false h, cond_false]
  obtain ⟨r, h1, h2⟩ := Yjx e.prev (n - (e.text.size : Int)) he.prev (by omega) (by omega)
  rw [h1, Option.bind_some]
  rcases h2 with ⟨h2, h3, h4⟩ | rfl
  ·
   rw [decide_eq_false (by omega)]; exact ⟨_, rfl, .inl ⟨h2, by omega, h4, by omega⟩⟩
  ·
   exact ⟨_, rfl, .inr rfl⟩

def Yjz (l : List Y8w) : Prop := l.length ≤ 1048576 ∧ ∀ e ∈ l, e.prev.length ≤ 1048576 ∧ e.text.size ≤ 1048576

theorem Yk0 (p : List Y8w) (n : Int) (hl : p.length ≤ maxLen) (hp : ∀ e ∈ p, EvIn e) (h0 : 0 ≤ n) (hn : n ≤ 1048576) : ∃ r, Z7 p n = some r ∧ ((0 ≤ r ∧ r + p.length ≤ n ∧ Yjz p) ∨ r = -1) := by
 simp only [maxLen] at hl
 unfold Z7
 rw [Y4i (by omega) (by omega)]
 by_cases h : n - (p.length : Int) < 0
 ·
  rw [decide_eq_true h]; exact ⟨_, rfl, .inr rfl⟩
 ·
  rw [decide_eq_false h, cond_false]
  obtain ⟨o, h1, h2⟩ := Ydl (τ := Int × Int) (ω := Int ⊕ Int) (σ := Int) (step := fun z : Int × Int => Z6 p z.1 z.2) (n := p.length) (fun s j => (s, j))
   (fun i s => 0 ≤ s ∧ s + p.length ≤ n ∧ ∀ (j : Nat) (hj : j < p.length), j < i → p[j].prev.length ≤ 1048576 ∧ p[j].text.size ≤ 1048576) (fun o => o = .inl (-1) ∨ ∃ r, o = .inr r ∧ 0 ≤ r ∧ r + p.length ≤ n ∧ Yjz p) (by omega) (by
   rintro i s hi ⟨hs0, hsn, hI⟩
   obtain ⟨r, e1, e2⟩ := Yjy p[i] s (hp _ (List.getElem_mem hi)) hs0 (by omega)
   simp only [Z6]
   rw [dlt hi, cond_true, Ydm hi, Option.bind_some, e1, Option.bind_some, Ydn hi (by omega)]
   rcases e2 with ⟨e2, e3, e4⟩ | rfl
   ·
    rw [decide_eq_false (by omega), cond_false]
    refine .inl ⟨r, rfl, e2, by omega, fun j hj hji => ?_⟩
    rcases Nat.lt_or_ge j i with h | h
    ·
     exact hI j hj h
    ·
     obtain rfl : j = i := by omega
     exact e4
   ·
    exact .inr ⟨_, rfl, .inl rfl⟩) (by
   rintro s ⟨hs0, hsn, hI⟩
   simp only [Z6]
   rw [dnlt, cond_false]
   refine ⟨_, rfl, .inr ⟨s, rfl, hs0, hsn, by omega, fun e he => ?_⟩⟩
   obtain ⟨j, hj, rfl⟩ := List.mem_iff_getElem.1 he
   exact hI j hj hj) (s := n - (p.length : Int)) ⟨by omega, by omega, fun j hj h => by omega⟩
  rw [h1, Option.bind_some]
  rcases h2 with rfl | ⟨r, rfl, h3⟩
  ·
   exact ⟨_, rfl, .inr rfl⟩
  ·
   exact ⟨_, rfl, .inl h3⟩

structure GIn (g : Y8x) : Prop where
 el : g.events.length ≤ maxLen
 pl : g.parked.length ≤ maxLen
 ev : ∀ e ∈ g.events, EvIn e
 pv : ∀ e ∈ g.parked, EvIn e

theorem Yk1 (g : Y8x) (n : Int) (hg : GIn g) (h0 : 0 ≤ n) (hn : n ≤ 1048576) : ∃ r, Z9 g n = some r ∧ ((0 ≤ r ∧ r + (g.events.length + g.parked.length : Nat) ≤ n ∧ Yjz g.events ∧ Yjz g.parked) ∨ r = -1) := by
 unfold Z9
 obtain ⟨r, h1, h2⟩ := Yk0 g.events n hg.el hg.ev h0 hn
 rw [h1, Option.bind_some]
 rcases h2 with ⟨h2, h3, h4⟩ | rfl
 ·
  rw [decide_eq_false (by omega), cond_false]
  obtain ⟨r', h5, h6⟩ := Yk0 g.parked r hg.pl hg.pv h2 (by omega)
  rw [h5, Option.bind_some]
  rcases h6 with ⟨h6, h7, h8⟩ | rfl
  ·
   rw [decide_eq_false (by omega)]; exact ⟨_, rfl, .inl ⟨h6, by omega, h4, h8⟩⟩
  ·
   exact ⟨_, rfl, .inr rfl⟩
 ·
  exact ⟨_, rfl, .inr rfl⟩


theorem Yk2 {α β : Type} {xs : List α} {z : β} (f : α → β) {step : List β × Int → Option ((List β × Int) ⊕ List β)} (hl : xs.length < 9223372036854775807)
  (h1 : ∀ (i : Nat) (s : List β) (hi : i < xs.length), s.length = xs.length → step (s, (i : Int)) = some (.inl (s.set i (f xs[i]), ((i + 1 : Nat) : Int)))) (h2 : ∀ s : List β, step (s, (xs.length : Int)) = some (.inr s)) :
  iter step big (List.replicate xs.length z, 0) = some (xs.map f) := by
 obtain ⟨o, e1, rfl⟩ := Ydk (τ := List β × Int) (ω := List β) (σ := List β) (step := step) (n := xs.length) (fun s j => (s, j)) (fun i s => s = (xs.take i).map f ++ List.replicate (xs.length - i) z) (fun o => o = xs.map f) hl (by
  rintro i s hi rfl
  refine ⟨_, h1 i _ hi (by simp; omega), ?_⟩
  have e0 : List.replicate (xs.length - i) z = z :: List.replicate (xs.length - (i + 1)) z := by
   rw [show xs.length - i = (xs.length - (i + 1)) + 1 by omega, List.replicate_succ]
  have e1 : xs.take (i + 1) = xs.take i ++ [xs[i]] := by rw [List.take_add_one, List.getElem?_eq_getElem hi]; rfl
  rw [e0, Yfj (X := (xs.take i).map f) (u := z) (Y := List.replicate (xs.length - (i + 1)) z) rfl (by simp; omega), e1, List.map_append, List.append_assoc]
  rfl) (by
  rintro s rfl
  exact ⟨_, h2 _, by simp⟩) (s := List.replicate xs.length z) (by simp)
 exact e1

theorem Yk3 (p : List Int) (hp : p.length ≤ 1048576) : Zl p = some p := by
 unfold Zl
 rw [Y4j (decide_eq_true ⟨by omega, by omega⟩), Option.bind_some, Int.toNat_natCast]
 rw [Yk2 (xs := p) (fun x => x) (by omega) (fun i s hi hs => by
  simp only [Zk]
  rw [dlt hi, cond_true, Ydm hi, Option.bind_some, Ydm (by omega : i < s.length), Option.bind_some, Ydn hi (by omega), Int.toNat_natCast]) (fun s => by simp only [Zk]; rw [dnlt, cond_false])]
 simp [Zj]

theorem Yk4 (e : Y8w) (hp : e.prev.length ≤ 1048576) : Zn e = some e := by
 unfold Zn
 rw [Yk3 _ hp]; rfl

theorem Yk5 (p : List Y8w) (hp : Yjz p) : Zr p = some p := by
 have hl := hp.1
 unfold Zr
 rw [Y4j (decide_eq_true ⟨by omega, by omega⟩), Option.bind_some, Int.toNat_natCast]
 rw [Yk2 (xs := p) (fun x => x) (by omega) (fun i s hi hs => by
  simp only [Zq]
  rw [dlt hi, cond_true, Ydm hi, Option.bind_some, Yk4 _ (hp.2 _ (List.getElem_mem hi)).1, Option.bind_some, Ydm (by omega : i < s.length), Option.bind_some, Ydn hi (by omega), Int.toNat_natCast]) (fun s => by simp only [Zq]; rw [dnlt, cond_false])]
 simp [Zp]

def toG (g : Y8x) : Y8z := Y8z.mk g.room g.events g.parked
theorem Yk6 (g : Y8x) (he : Yjz g.events) (hp : Yjz g.parked) : Zt g = some (toG g) := by
 unfold Zt
 rw [Yk5 _ he, Option.bind_some, Yk5 _ hp]; rfl

theorem Yk7 {g : Y8x} (he : Yjz g.events) (hp : Yjz g.parked) : Fine (toG g) := ⟨he.1, hp.1, fun e h => (he.2 e h).1, fun e h => (hp.2 e h).1⟩


theorem Yk8 (p : List Int) (hp : p.length ≤ 1048576) : Zhp p p = some true := by
 unfold Zhp
 rw [bned, decide_eq_true rfl]
 simp only [Bool.not_true, cond_false]
 rw [Ye2 (l := p) (fun _ => true) (.inl false) (.inr ()) (by omega) (fun i hi => by
  simp only [Zho]
  rw [dlt hi, cond_true, Ydm hi, Option.bind_some, Option.bind_some, bned, decide_eq_true rfl, Ydn hi (by omega)]; rfl) (by simp only [Zho]; rw [dnlt, cond_false])]
 rw [show (p.all fun _ => true) = true by simp]; rfl

theorem Yk9 (e : Y8w) (hp : e.prev.length ≤ 1048576) : Zhr e e = some true := by
 unfold Zhr
 rw [Yk8 _ hp]
 simp

theorem Yka (p : List Y8w) (hp : Yjz p) : Zhv p p = some true := by
 have hl := hp.1
 unfold Zhv
 rw [bned, decide_eq_true rfl]
 simp only [Bool.not_true, cond_false]
 rw [Ye2 (l := p) (fun _ => true) (.inl false) (.inr ()) (by omega) (fun i hi => by
  simp only [Zhu]
  rw [dlt hi, cond_true, Ydm hi, Option.bind_some, Option.bind_some, Yk9 _ (hp.2 _ (List.getElem_mem hi)).1, Option.bind_some, Ydn hi (by omega)]; rfl) (by simp only [Zhu]; rw [dnlt, cond_false])]
 rw [show (p.all fun _ => true) = true by simp]; rfl

theorem Ykb (g : Y8z) (he : Yjz g.events) (hp : Yjz g.parked) : Zhx g g = some true := by
 unfold Zhx
 rw [Yka _ he, Yka _ hp]
 simp


def Ykc (n : Int) : Nat → List Int
 | 0 => []
 | k + 1 => n :: Ykc (n + 1) k
theorem Ykd : ∀ (k : Nat) (n : Int), (Ykc n k).length = k
 | 0, _ => rfl
 | k + 1, n => by simp [Ykc, Ykd k]
theorem Yke : ∀ (k : Nat) (n : Int) (i : Nat) (hi : i < (Ykc n k).length), (Ykc n k)[i] = n + i
 | 0, _, i, hi => by simp [Ykc] at hi
 | k + 1, n, 0, hi => by simp [Ykc]
 | k + 1, n, i + 1, hi => by
  simp only [Ykc, List.getElem_cons_succ]
  rw [Yke k]; omega
theorem Ykf : ∀ (k : Nat) (n : Int), Ykc n (k + 1) = Ykc n k ++ [n + k]
 | 0, n => by simp [Ykc]
 | k + 1, n => by
  rw [Ykc, Ykf k (n + 1)]
  simp [Ykc]; omega

theorem Ykg (p : List Int) (n : Int) (hp : p.length ≤ 1048576) (h0 : 0 ≤ n) (hn : n ≤ 1000000000000000) : Zih p n = some (n + p.length, Ykc n p.length) := by
 unfold Zih
 obtain ⟨o, e1, rfl⟩ := Ydk (τ := List Int × Int × Int) (ω := Int × List Int) (σ := List Int × Int) (step := fun z : List Int × Int × Int => Zig z.1 z.2.1 z.2.2) (n := p.length) (fun s j => (s.1, s.2, j)) (fun i s => s = (Ykc n i ++ p.drop i, n + i)) (fun o => o = (n + p.length, Ykc n p.length)) (by omega) (by
  rintro i s hi rfl
  have e0 : p.drop i = p[i] :: p.drop (i + 1) := List.drop_eq_getElem_cons hi
  generalize hR : p.drop (i + 1) = R at e0
  generalize p[i] = u at e0
  refine ⟨(Ykc n (i + 1) ++ R, n + i + 1), ?_, by simp; omega⟩
  have hlen : (Ykc n i ++ p.drop i).length = p.length := by rw [List.length_append, Ykd, List.length_drop]; omega
  simp only [Zig]
  rw [hlen, dlt hi, cond_true, e0, Yfi (X := Ykc n i) (u := u) (Y := R) rfl (Ykd i n).symm, Option.bind_some, Int.toNat_natCast, Yfj (X := Ykc n i) (u := u) (Y := R) rfl (Ykd i n).symm, Ydn hi (by omega), Y4i (by omega) (by omega), Ykf]
  simp) (by
  rintro s rfl
  simp only [Zig]
  rw [show (Ykc n p.length ++ p.drop p.length).length = p.length by simp [Ykd], dnlt, cond_false]
  exact ⟨_, rfl, by simp⟩) (s := (p, n)) (by simp [Ykc])
 rw [e1, Option.bind_some]; rfl

theorem Ykh (k : Nat) (n : Int) (hk : k ≤ 1048576) (h0 : 0 ≤ n) (hn : n ≤ 1000000000000000) : Ziz (Ykc n k) n = some (n + k) := by
 unfold Ziz
 obtain ⟨o, e1, rfl⟩ := Ydk (τ := Int × Int) (ω := Int ⊕ Int) (σ := Int) (step := fun z : Int × Int => Ziy (Ykc n k) z.1 z.2) (n := k) (fun s j => (s, j)) (fun i s => s = n + i) (fun o => o = .inr (n + k)) (by omega) (by
  rintro i s hi rfl
  refine ⟨n + i + 1, ?_, by omega⟩
  simp only [Ziy, Ykd]
  have hi' : i < (Ykc n k).length := by rw [Ykd]; exact hi
  rw [dlt hi, cond_true, Ydm hi', Option.bind_some, Yke, bned, decide_eq_true rfl, Ydn hi (by omega), Y4i (by omega) (by omega)]; rfl) (by
  rintro s rfl
  simp only [Ziy, Ykd]
  rw [dnlt, cond_false]
  exact ⟨_, rfl, rfl⟩) (s := n) (by simp)
 rw [e1, Option.bind_some]; rfl

theorem Yki (n : Int) (h0 : 0 ≤ n) (hn : n ≤ 1000000000000000) : ∃ t, Zid n = some t := by
 unfold Zid
 by_cases h : n ≤ 0
 ·
  rw [decide_eq_true h]; exact ⟨_, rfl⟩
 ·
  rw [decide_eq_false h, cond_false]
  obtain ⟨o, e1, e2⟩ := Y4l (step := fun z : Int × ByteArray => Zic z.1 z.2) (p := fun o : ByteArray => (o.size : Int) ≤ 1000000000000000) (fun m (z : Int × ByteArray) => 0 ≤ z.1 ∧ z.1 + z.2.size ≤ 1000000000000000 ∧ m = z.1.toNat) (by
   rintro m ⟨x, t⟩ ⟨hx, hs, rfl⟩
   simp only at hx hs
   simp only [Zic]
   by_cases hp : x > 0
   ·
    right
    have hsz : ∀ k : Int, (Y6w [k]).size = 1 := fun k => rfl
    have hd : 0 ≤ Int.tdiv x 10 ∧ Int.tdiv x 10 < x := by
     rw [Int.tdiv_eq_ediv_of_nonneg hx]; omega
    rw [decide_eq_true hp, cond_true, Y4j (decide_eq_true (by rw [hsz]; omega)), Option.bind_some, Y4i (n := Int.tdiv x 10) (by omega) (by omega)]
    refine ⟨_, (Int.tdiv x 10).toNat, rfl, by omega, hd.1, ?_, rfl⟩
    simp only [ByteArray.size_append, hsz]; omega
   ·
    left
    rw [decide_eq_false hp, cond_false]
    exact ⟨_, rfl, by omega⟩) big n.toNat (n, ByteArray.empty) ⟨h0, by simp; omega, rfl⟩ (Ydh (by omega))
  rw [e1, Option.bind_some]
  unfold Zib
  rw [Y4j (decide_eq_true (by show 1 + o.size ≤ _; omega))]
  exact ⟨_, rfl⟩

theorem Ykj {α : Type} {l : List α} {k : Nat} {v : α} (hk : k < l.length) : getI (l.set k v) (k : Int) = some v := by rw [Yjt hk, if_pos rfl]

theorem Ykk (p : List Y8w) (n : Int) (hp : Yjz p) (h0 : 0 ≤ n) (hn : n ≤ 100000000000000) : ∃ r, Zil p n = some r ∧ 0 ≤ r.1 ∧ r.1 ≤ n + p.length * 2000000 := by
 have hl := hp.1
 unfold Zil
 obtain ⟨o, e1, e2⟩ := Ydk (τ := List Y8w × Int × Int) (ω := Int × List Y8w) (σ := List Y8w × Int) (step := fun z : List Y8w × Int × Int => Zik z.1 z.2.1 z.2.2) (n := p.length) (fun s j => (s.1, s.2, j)) (fun i s => s.1.length = p.length ∧ (∀ e ∈ s.1, e.prev.length ≤ 1048576) ∧ 0 ≤ s.2 ∧ s.2 ≤ n + i * 2000000) (fun o => 0 ≤ o.1 ∧ o.1 ≤ n + p.length * 2000000) (by omega) (by
  rintro i ⟨l, k⟩ hi ⟨hll, hpl, hk0, hk⟩
  simp only at hll hpl hk0 hk
  have hil : i < l.length := by omega
  have w : ∀ x : Int, 0 ≤ x → x ≤ 1000000000000000 → IntKind.i64.wrap (x + 1) = x + 1 := fun x h1 h2 => Y4i (by omega) (by omega)
  obtain ⟨t, ht⟩ := Yki (k + 1 + 1 + 1 + 1 + 1 + 1) (by omega) (by omega)
  have hmk := Ykg l[i].prev (k + 1 + 1 + 1 + 1 + 1 + 1 + 1) (hpl _ (List.getElem_mem hil)) (by omega) (by omega)
  have hpi := hpl _ (List.getElem_mem hil)
  have hw := Ydn hi (by omega : p.length < 9223372036854775807)
  simp only [Zik]
  rw [w k hk0 (by omega), w (k + 1) (by omega) (by omega), w (k + 1 + 1) (by omega) (by omega), w (k + 1 + 1 + 1) (by omega) (by omega), w (k + 1 + 1 + 1 + 1) (by omega) (by omega), w (k + 1 + 1 + 1 + 1 + 1) (by omega) (by omega), w (k + 1 + 1 + 1 + 1 + 1 + 1) (by omega) (by omega)]
  rw [decide_eq_true (by omega : (i : Int) < (l.length : Int)), cond_true, Ydm hil, Option.bind_some]
  simp only [Int.toNat_natCast, Ykj, List.length_set, hil, Option.bind_some, ht, List.set_set, hmk, hw]
  rw [w _ (by omega) (by omega)]
  refine ⟨(_, _), rfl, by simp [hll], fun e he => ?_, by simp only; omega, by simp only; omega⟩
  simp only at he
  rcases List.mem_or_eq_of_mem_set he with h | h
  ·
   exact hpl e h
  ·
   subst h; simp only [Ykd]; exact hpi) (by
  rintro ⟨l, k⟩ ⟨hll, _, hk0, hk⟩
  simp only at hll hk0 hk
  simp only [Zik]
  rw [hll, dnlt, cond_false]
  exact ⟨_, rfl, hk0, hk⟩) (s := (p, n)) ⟨rfl, fun e he => (hp.2 e he).1, h0, by simp⟩
 rw [e1, Option.bind_some]
 exact ⟨_, rfl, e2⟩

end Go.Proofs.YtbgichfjcnibpaaGreat
namespace Go.Proofs.YtbgichfjcnibpaaGreat
open Go Go.Abs


def accT (l : List Y8w) (T : Int → Bool) : List Int := (l.map (·.id)).filter T
def endT (l : List Y8w) (T : Int → Bool) (x : Int) : Bool := (accT l T).all fun id => !decide (x ∈ (evD l id).prev)
def endsT (l : List Y8w) (T : Int → Bool) : List Int := (accT l T).filter (endT l T)

theorem Ykl {l : List Y8w} (h : Up2 l) : UpI (l.map (·.id)) := by
 show (l.map (·.id)).Pairwise (· < ·)
 rw [List.pairwise_map]; exact h

theorem Ykm {h : Y94} (hr : Yjr h.graph) : Zew h = some (accT h.graph.events (refB h)) := by
 have hfl := hr.fits.len
 unfold Zew
 have := Ye3 (l := h.graph.events) (step := fun z : List Int × Int => Zev h z.1 z.2) (fun q j => (q, j)) (fun q => q) (fun q e => if refB h e.id = true then q ++ [e.id] else q) (fun i q => q.length ≤ i) (by omega) (fun i q hi hq => by
  refine ⟨?_, by split <;> first | omega | (rw [List.length_append, List.length_singleton]; omega)⟩
  simp only [Zev, Zeu]
  rw [dlt hi, cond_true, Ydm hi, Option.bind_some, Ydn hi (by omega), chk8 (by simp; omega), beqd]
  unfold refB
  by_cases hc : Option.getD (mget h.refused h.graph.events[i].id) 0 = 0
  ·
   rw [decide_eq_true hc]; rfl
  ·
   rw [decide_eq_false hc]; rfl)
  (fun q _ => by simp only [Zev]; rw [dnlt, cond_false]) (s := []) (by simp)
 rw [this.1, Option.bind_some]
 have key : ∀ (l : List Y8w) (q : List Int), l.foldl (fun q e => if refB h e.id = true then q ++ [e.id] else q) q = q ++ (l.map (·.id)).filter (refB h) := by
  intro l
  induction l with
  | nil => intro q; simp
  | cons e l ih =>
   intro q
   rw [List.foldl_cons, ih]
   cases hc : refB h e.id with
   | true => rw [if_pos rfl, List.map_cons, List.filter_cons_of_pos hc]; simp
   | false => rw [if_neg (by simp), List.map_cons, List.filter_cons_of_neg (by simp [hc])]
 rw [key]; rfl

theorem Ykn {l : List Int} (hl : UpI l) (hn : l.length < 1000000) : Zfv l = some l := by
 unfold Zfv
 by_cases h2 : (l.length : Int) < 2
 ·
  rw [decide_eq_true h2]; rfl
 ·
  rw [decide_eq_false h2, cond_false, Y4m (o := .inr ()) (fun m (x : Int) => ∃ i : Nat, x = i ∧ 1 ≤ i ∧ i ≤ l.length ∧ m = l.length - i) ?_ (m := l.length - 1) (x := 1) ⟨1, rfl, by omega, by omega, rfl⟩ (Ydh (by omega))]
  ·
   rfl
  ·
   rintro m x ⟨i, rfl, h1, hi, rfl⟩
   simp only [Zfu]
   by_cases hil : i < l.length
   ·
    right
    have hm : i - 1 < l.length := by omega
    have := List.pairwise_iff_getElem.1 hl (i - 1) i hm hil (by omega)
    rw [dlt hil, cond_true, Ydm hil, Option.bind_some, Ydo (by omega) (by omega), Ydm hm, Option.bind_some, beqd, decide_eq_false (by omega), cond_false, Ydn hil (by omega)]
    exact ⟨_, l.length - (i + 1), rfl, by omega, i + 1, rfl, by omega, by omega, rfl⟩
   ·
    left
    obtain rfl : i = l.length := by omega
    rw [dnlt, cond_false]

theorem Zji {l ids : List Int} (hl : UpI l) (hn : ids.Nodup) (hm : ∀ x, x ∈ ids ↔ x ∈ l) : List.mergeSort ids (fun x y => decide (x ≤ y)) = l := by
 have hp : ids.Perm l := (List.perm_ext_iff_of_nodup hn (hl.imp fun {a b} h => by omega)).2 hm
 exact List.Perm.eq_of_pairwise (le := fun a b => decide (a ≤ b) = true) (fun a b _ _ h1 h2 => by simp at h1 h2; omega) (List.pairwise_mergeSort (fun a b c h1 h2 => by simp at h1 h2 ⊢; omega) (fun a b => by simp; omega) ids) (hl.imp fun {a b} h => by simp; omega) ((List.mergeSort_perm ids _).trans hp)

theorem Yko {l ids : List Int} (hl : UpI l) (hn : ids.Nodup) (hm : ∀ x, x ∈ ids ↔ x ∈ l) (hlen : l.length < 1000000) : Zfx ids = some l := by
 have hpl : ids.length = l.length := ((List.perm_ext_iff_of_nodup hn (hl.imp fun {a b} h => by omega)).2 hm).length_eq
 unfold Zfx
 rw [Y4j (decide_eq_true (by omega)), Option.bind_some, Zji hl hn hm, Ykn hl hlen]; rfl

theorem Ykp (e : Y8w) (l : List Int) (hl : l.length < 1000000) (he : e.prev.length < 1000000) : Zg8 l e = some (l.filter fun x => !decide (x ∈ e.prev)) := by
 have hc : ∀ x, Zfz x e = some (decide (x ∈ e.prev)) := fun x => by unfold Zfz; rw [Ye8 _ _ (by omega)]; rfl
 unfold Zg8 Zg3
 rw [Ye5 (Ye0 (l := l) (step := Zg2 l e) (fun x => decide (x ∈ e.prev)) (by omega) (fun i hi => by
  simp only [Zg2]
  rw [dlt hi, cond_true, Ydm hi, Option.bind_some, hc, Option.bind_some, Ydn hi (by omega)]
  cases decide (l[i] ∈ e.prev) <;> rfl) (by simp only [Zg2]; rw [dnlt, cond_false])) (fun _ => rfl) rfl, Option.bind_some]
 unfold idxP
 cases hf : l.findIdx? (fun x => decide (x ∈ e.prev)) with
 | none =>
  rw [List.findIdx?_eq_none_iff] at hf
  rw [beqd, decide_eq_true rfl, cond_true]
  exact congrArg some (List.filter_eq_self.2 fun x hx => by simp [hf x hx]).symm
 | some k =>
  obtain ⟨hk, hkp, hkn⟩ := List.findIdx?_eq_some_iff_getElem.1 hf
  simp only
  rw [beqd, decide_eq_false (by omega), cond_false, Ydn hk (by omega)]
  -- the rest
  have hpre : (l.take k).filter (fun x => !decide (x ∈ e.prev)) = l.take k := List.filter_eq_self.2 fun x hx => by
   obtain ⟨j, hj, hjk, rfl⟩ := Yfs hx
   have := hkn j hjk
   simpa using this
  obtain ⟨⟨o1, o2⟩, e1, w, hw1, hw2, hw3, hw4⟩ := Y4l (step := fun z : List Int × Int × Int => Zg7 e z.1 z.2.1 z.2.2) (p := fun o : List Int × Int => ∃ w : Nat, o.2 = (w : Int) ∧ w ≤ l.length ∧ o.1.length = l.length ∧ o.1.take w = l.filter fun x => !decide (x ∈ e.prev))
   (fun m (z : List Int × Int × Int) => ∃ (w i : Nat), z.2.1 = (w : Int) ∧ z.2.2 = (i : Int) ∧ w < i ∧ i ≤ l.length ∧ z.1.length = l.length ∧ z.1.take w = (l.take i).filter (fun x => !decide (x ∈ e.prev)) ∧ z.1.drop i = l.drop i ∧ m = l.length - i) (by
   rintro m ⟨q, x, y⟩ ⟨w, i, hx, hy, hwi, hi, hq, ht, hd, rfl⟩
   simp only at hx hy hq ht hd
   subst hx hy
   simp only [Zg7, Zg6]
   by_cases hil : i < l.length
   ·
    right
    have hiq : i < q.length := by omega
    have hwq : w < q.length := by omega
    have hqi : q[i] = l[i] := by
     have h1 : (q.drop i)[0]? = (l.drop i)[0]? := by rw [hd]
     simpa [hiq, hil] using h1
    have etk : l.take (i + 1) = l.take i ++ [l[i]] := by rw [List.take_add_one, List.getElem?_eq_getElem hil]; rfl
    rw [dlt hiq, cond_true, Ydm hiq, Option.bind_some, hc, Option.bind_some, hqi, Ydm hwq, Ydn hiq (by omega)]
    have hd' : ∀ v : Int, (q.set w v).drop (i + 1) = l.drop (i + 1) := fun v => by
     rw [List.drop_set_of_lt (by omega)]
     have := congrArg (List.drop 1) hd
     rwa [List.drop_drop, List.drop_drop] at this
    by_cases hp : l[i] ∈ e.prev
    ·
     rw [decide_eq_true hp, cond_true]
     refine ⟨_, l.length - (i + 1), rfl, by omega, w, i + 1, rfl, rfl, by omega, by omega, hq, ?_, ?_, rfl⟩
     ·
      rw [etk, List.filter_append, List.filter_cons_of_neg (by simp [hp]), List.filter_nil, List.append_nil]; exact ht
     ·
      have := congrArg (List.drop 1) hd
      rwa [List.drop_drop, List.drop_drop] at this
    ·
     rw [decide_eq_false hp, cond_false, Option.bind_some, Int.toNat_natCast, Ydn hwq (by omega)]
     refine ⟨_, l.length - (i + 1), rfl, by omega, w + 1, i + 1, rfl, rfl, by omega, by omega, by simp [hq], ?_, hd' _, rfl⟩
     simp only
     rw [etk, List.filter_append, List.filter_cons_of_pos (by simp [hp]), List.filter_nil, ← ht, List.take_add_one, List.getElem?_set_self hwq]
     rw [List.take_set_of_le (Nat.le_refl _)]; rfl
   ·
    left
    obtain rfl : i = l.length := by omega
    rw [decide_eq_false (by omega), cond_false]
    refine ⟨_, rfl, w, rfl, by omega, hq, ?_⟩
    rw [List.take_length] at ht
    exact ht) big (l.length - (k + 1)) (l, (k : Int), ((k + 1 : Nat) : Int)) ⟨k, k + 1, rfl, rfl, by omega, by omega, rfl, by
    rw [List.take_add_one, List.getElem?_eq_getElem hk, List.filter_append, hpre]
    simp at hkp
    simp [hkp], rfl, rfl⟩ (Ydh (by omega))
  rw [e1, Option.bind_some]
  simp only at hw1 hw2 hw3 hw4
  subst hw1
  simp only [Zg5, Int.toNat_natCast]
  rw [Y4j (decide_eq_true (by omega)), Option.bind_some, Y4j (decide_eq_true (by omega)), Option.bind_some, Y4j (decide_eq_true (by simp; omega)), Option.bind_some]
  congr 1
  rw [← hw4, List.take_append_of_le_length (by simp; omega), List.take_take, Nat.min_self]

theorem Ykq {l : List Y8w} (hf : Fits l) (T : Int → Bool) : UpI (accT l T) := (Ykl hf.up).filter _
theorem Ykr {l : List Y8w} (hf : Fits l) (T : Int → Bool) : (accT l T).length ≤ 60 := by
 have := List.length_filter_le T (l.map (·.id))
 rw [List.length_map] at this
 have := hf.len
 unfold accT; omega
theorem Yks {l : List Y8w} {T : Int → Bool} {id : Int} (hi : id ∈ endsT l T) : id ∈ l.map (·.id) := (List.mem_filter.1 (List.mem_filter.1 hi).1).1
theorem Ykt {l : List Y8w} (hf : Fits l) (T : Int → Bool) : (endsT l T).length ≤ 60 := Nat.le_trans (List.length_filter_le _ _) (Ykr hf T)

theorem Yku {h : Y94} (hr : Yjr h.graph) {ids : List Int} {T : Int → Bool} (hn : ids.Nodup) (hm : ∀ x, x ∈ ids ↔ x ∈ accT h.graph.events T) : Zgc h ids = some (endsT h.graph.events T) := by
 have hfl := hr.fits.len
 have hup := Ykq hr.fits T
 have hal := Ykr hr.fits T
 have hil : ids.length = (accT h.graph.events T).length := ((List.perm_ext_iff_of_nodup hn (hup.imp fun {a b} h => by omega)).2 hm).length_eq
 unfold Zgc
 have hcl : Zeb ids = some ids := by unfold Zeb; rw [chk8 (by omega)]; rfl
 rw [hcl, Option.bind_some, Yko hup hn hm (by omega), Option.bind_some]
 have := Ye3 (l := ids) (step := fun z : List Int × Int => Zgb h ids z.1 z.2) (fun q j => (q, j)) (fun q => q) (fun q id => q.filter fun x => !decide (x ∈ (evD h.graph.events id).prev)) (fun _ q => q.length ≤ 60) (by omega) (fun i q hi hq => by
  refine ⟨?_, Nat.le_trans (List.length_filter_le _ _) hq⟩
  have hmi : ids[i] ∈ h.graph.events.map (·.id) := (List.mem_filter.1 ((hm _).1 (List.getElem_mem hi))).1
  have hp := (hr.walk.prev hmi).1
  simp only [Zgb]
  rw [dlt hi, cond_true, Ydm hi, Option.bind_some, c_at _ _ hr.fits.up (by omega), Option.bind_some]
  show (Zg8 q (evD h.graph.events ids[i])).bind _ = _
  rw [Ykp _ _ (by omega) (by omega), Option.bind_some, Ydn hi (by omega)])
  (fun q _ => by simp only [Zgb]; rw [dnlt, cond_false]) (s := accT h.graph.events T) hal
 rw [this.1, Option.bind_some]
 simp only [Zga]
 congr 1
 have key : ∀ (r q : List Int), r.foldl (fun q id => q.filter fun x => !decide (x ∈ (evD h.graph.events id).prev)) q = q.filter fun x => r.all fun id => !decide (x ∈ (evD h.graph.events id).prev) := by
  intro r
  induction r with
  | nil => intro q; exact (List.filter_eq_self.2 fun x _ => rfl).symm
  | cons id r ih =>
   intro q
   rw [List.foldl_cons, ih, List.filter_filter]
   congr 1
   funext x
   simp [Bool.and_comm]
 rw [key]
 unfold endsT
 congr 1
 funext x
 unfold endT
 rw [Bool.eq_iff_iff, List.all_eq_true, List.all_eq_true]
 exact ⟨fun h id hid => h id ((hm id).2 hid), fun h id hid => h id ((hm id).1 hid)⟩

def Ykv (l : List Y8w) (T : Int → Bool) : List Bool := l.map fun e => T e.id

theorem Ykw {g : Y8z} {h : Y94} {w : Y92} (hb : Both g h w) (hr : Yjr g) : w.code.map (fun c => decide (c = 0)) = Ykv h.graph.events (refB h) := by
 unfold Ykv
 rw [hb.graph]
 refine List.ext_getElem (by simp [hb.lc]) fun i h1 h2 => ?_
 simp only [List.length_map] at h1 h2
 simp only [List.getElem_map]
 obtain ⟨c, k1, k2⟩ := hb.code (List.getElem_mem h2)
 rw [(hr.fits.up.plc h2).1, Ydm h1] at k1
 cases k1
 unfold refB
 rw [k2]

theorem Ykx {w : Y92} {step : List Bool × Int → Option ((List Bool × Int) ⊕ List Bool)} (hl : w.code.length < 1000000)
  (h1 : ∀ (l : List Bool) (i : Nat), step (l, (i : Int)) = cond (decide ((i : Int) < (l.length : Int))) ((getI w.code (i : Int)).bind fun e12 => (getI l (i : Int)).bind fun e14 => some (.inl ((List.set l (Int.toNat (i : Int)) (e12 == 0)), (IntKind.i64.wrap ((i : Int) + 1))))) (some (.inr l))) :
  iter step big (List.replicate w.code.length false, 0) = some (w.code.map fun c => decide (c = 0)) := by
 obtain ⟨o, e1, rfl⟩ := Ydk (τ := List Bool × Int) (ω := List Bool) (σ := List Bool) (step := step) (n := w.code.length) (fun s j => (s, j)) (fun i s => s = (w.code.take i).map (fun c => decide (c = 0)) ++ List.replicate (w.code.length - i) false) (fun o => o = w.code.map fun c => decide (c = 0)) (by omega) (by
  rintro i s hi rfl
  have e0 : List.replicate (w.code.length - i) false = false :: List.replicate (w.code.length - (i + 1)) false := by
   rw [show w.code.length - i = (w.code.length - (i + 1)) + 1 by omega, List.replicate_succ]
  have etk : w.code.take (i + 1) = w.code.take i ++ [w.code[i]] := by rw [List.take_add_one, List.getElem?_eq_getElem hi]; rfl
  refine ⟨_, ?_, rfl⟩
  rw [h1, decide_eq_true (by simp; omega), cond_true, Ydm hi, Option.bind_some, e0, Yfi (X := (w.code.take i).map fun c => decide (c = 0)) rfl (by simp; omega), Option.bind_some, Int.toNat_natCast, Yfj (X := (w.code.take i).map fun c => decide (c = 0)) rfl (by simp; omega), Ydn hi (by omega), etk, beqd, List.map_append, List.append_assoc]
  rfl) (by
  rintro s rfl
  refine ⟨_, ?_, rfl⟩
  rw [h1, decide_eq_false (by simp), cond_false]
  simp) (s := List.replicate w.code.length false) (by simp)
 exact e1

theorem Yky {α β : Type} (f : α → β) {l : List α} {i : Nat} (hi : i < l.length) : getI (l.map f) (i : Int) = some (f l[i]) := by
 rw [Ydm (by simpa using hi)]; simp

theorem Ykz {g : Y8z} (hr : Yjr g) (T : Int → Bool) : Z5z g (Ykv g.events T) = some (endsT g.events T) := by
 have hfl := hr.fits.len
 unfold Z5z
 -- whether one stands behind an event
 have inner1 : ∀ (i k : Nat) (hi : i < g.events.length) (hk : k < g.events.length) (b : Bool), iter (fun z : Bool × Int => Z5w g (Ykv g.events T) (i : Int) (k : Int) z.1 z.2) big (b, 0) = some (b && (!T g.events[k].id || !decide (g.events[i].id ∈ g.events[k].prev))) := by
  intro i k hi hk b
  have hpl := hr.fits.plen _ (List.getElem_mem hk)
  have ht : getI (Ykv g.events T) (k : Int) = some (T g.events[k].id) := Yky _ hk
  cases hrk : T g.events[k].id with
  | false =>
   rw [Y4m (o := b) (fun m (z : Bool × Int) => z = (b, 0)) ?_ (m := 0) rfl (Ydh (by omega))]
   ·
    simp
   ·
    rintro m z rfl
    left
    simp only [Z5w, Z5v]
    rw [ht, Option.bind_some, hrk]; rfl
  | true =>
   have := Ye3 (l := g.events[k].prev) (step := fun z : Bool × Int => Z5w g (Ykv g.events T) (i : Int) (k : Int) z.1 z.2) (fun q j => (q, j)) (fun q => q) (fun q p => q && !decide (p = g.events[i].id)) (fun _ _ => True) hpl (fun j q hj _ => by
    refine ⟨?_, trivial⟩
    simp only [Z5w, Z5v, Z5u]
    rw [ht, Option.bind_some, hrk, cond_true, Ydm hk, Option.bind_some, dlt hj, cond_true, Ydm hi, Ydn hj hpl]
    cases q with
    | false => rfl
    | true =>
     simp only [cond_true, Option.bind_some]
     rw [Ydm hj, Option.bind_some, bned]; rfl)
    (fun q _ => by
     simp only [Z5w, Z5v]
     rw [ht, Option.bind_some, hrk, cond_true, Ydm hk, Option.bind_some, dnlt, cond_false]) (s := b) trivial
   rw [this.1]
   congr 1
   have key : ∀ (ps : List Int) (q : Bool), ps.foldl (fun q p => q && !decide (p = g.events[i].id)) q = (q && !decide (g.events[i].id ∈ ps)) := by
    intro ps
    induction ps with
    | nil => intro q; simp
    | cons p ps ih =>
     intro q
     rw [List.foldl_cons, ih]
     by_cases hp : p = g.events[i].id
     ·
      simp [hp]
     ·
      simp [hp, show ¬ g.events[i].id = p from fun h => hp h.symm]
   rw [key]; simp
 have inner2 : ∀ (i : Nat) (hi : i < g.events.length) (b : Bool), iter (fun z : Bool × Int => Z5x g (Ykv g.events T) (i : Int) z.1 z.2) big (b, 0) = some (b && endT g.events T g.events[i].id) := by
  intro i hi b
  have := Ye3 (l := g.events) (step := fun z : Bool × Int => Z5x g (Ykv g.events T) (i : Int) z.1 z.2) (fun q j => (q, j)) (fun q => q) (fun q e => q && (!T e.id || !decide (g.events[i].id ∈ e.prev))) (fun _ _ => True) (by omega) (fun k q hk _ => by
   refine ⟨?_, trivial⟩
   simp only [Z5x]
   rw [dlt hk, cond_true, inner1 i k hi hk, Option.bind_some]
   simp only [Z5t]
   rw [Ydn hk (by omega)])
   (fun q _ => by simp only [Z5x]; rw [dnlt, cond_false]) (s := b) trivial
  rw [this.1]
  congr 1
  have key : ∀ (l : List Y8w) (q : Bool), l.foldl (fun q e => q && (!T e.id || !decide (g.events[i].id ∈ e.prev))) q = (q && l.all fun e => (!T e.id || !decide (g.events[i].id ∈ e.prev))) := by
   intro l
   induction l with
   | nil => intro q; simp
   | cons e l ih => intro q; rw [List.foldl_cons, ih, List.all_cons, Bool.and_assoc]
  rw [key]
  congr 1
  unfold endT accT
  rw [Bool.eq_iff_iff, List.all_eq_true, List.all_eq_true]
  constructor
  ·
   intro h1 id hid
   obtain ⟨h2, h3⟩ := List.mem_filter.1 hid
   obtain ⟨_, e2, e3⟩ := Yit h2 hr.fits.up
   have := h1 _ e2
   rw [e3, h3] at this
   simpa using this
  ·
   intro h1 e he
   cases h3 : T e.id with
   | false => rfl
   | true =>
    have := h1 e.id (List.mem_filter.2 ⟨List.mem_map.2 ⟨e, he, rfl⟩, h3⟩)
    have e1 : evD g.events e.id = e := by unfold evD; rw [hr.fits.up.evAt_mem he]; rfl
    rw [e1] at this
    simpa using this
 have := Ye3 (l := g.events) (step := fun z : List Int × Int => Z5y g (Ykv g.events T) z.1 z.2) (fun q j => (q, j)) (fun q => q) (fun q e => if (T e.id && endT g.events T e.id) = true then q ++ [e.id] else q) (fun i q => q.length ≤ i) (by omega) (fun i q hi hq => by
  refine ⟨?_, by split <;> first | omega | (rw [List.length_append, List.length_singleton]; omega)⟩
  have ht : getI (Ykv g.events T) (i : Int) = some (T g.events[i].id) := Yky _ hi
  simp only [Z5y]
  rw [dlt hi, cond_true, ht, Option.bind_some, inner2 i hi, Option.bind_some]
  simp only [Z5s, Z5r]
  rw [Ydm hi, Ydn hi (by omega), Option.bind_some, chk8 (by simp; omega)]
  cases (T g.events[i].id && endT g.events T g.events[i].id) <;> rfl)
  (fun q _ => by simp only [Z5y]; rw [dnlt, cond_false]) (s := []) (by simp)
 rw [this.1, Option.bind_some]
 simp only [Z5q]
 congr 1
 unfold endsT accT
 rw [List.filter_filter]
 have key : ∀ (l : List Y8w) (q : List Int), l.foldl (fun q e => if (T e.id && endT g.events T e.id) = true then q ++ [e.id] else q) q = q ++ (l.map (·.id)).filter fun x => endT g.events T x && T x := by
  intro l
  induction l with
  | nil => intro q; simp
  | cons e l ih =>
   intro q
   rw [List.foldl_cons, ih]
   cases hc : T e.id && endT g.events T e.id with
   | true => rw [if_pos rfl, List.map_cons, List.filter_cons_of_pos (by rw [Bool.and_comm]; exact hc)]; simp
   | false => rw [if_neg (by simp), List.map_cons, List.filter_cons_of_neg (by rw [Bool.and_comm, hc]; simp)]
 rw [key]; rfl


def nowT (g : Y8z) (h : Y94) (T : Int → Bool) : List Y91 := Yix g ((endsT g.events T).map (behI h.after))

theorem Yl0 {h : Y94} (l : List Int) (hl : l.length < 1000000) : Zgi h l = some (l.map (behI h.after)) := by
 unfold Zgi
 have := Ye3 (l := l) (step := fun z : List (List Y91) × Int => Zgh h l z.1 z.2) (fun q j => (q, j)) (fun q => q) (fun q p => q ++ [behI h.after p]) (fun i q => q.length = i) (by omega) (fun i q hi hq => by
  refine ⟨?_, by simp [hq]⟩
  simp only [Zgh]
  rw [dlt hi, cond_true, Ydm hi, Option.bind_some, Yh0 (by simp; omega), Option.bind_some, Ydn hi (by omega)]; rfl)
  (fun q _ => by simp only [Zgh]; rw [dnlt, cond_false]) (s := []) rfl
 rw [this.1, Yju]; rfl

theorem Both.endsT {g : Y8z} {h : Y94} {w : Y92} (hb : Both g h w) (hr : Yjr g) (T : Int → Bool) : Mrg g ((endsT g.events T).map (behI h.after)) := by
 refine ⟨hr.fits, hr.ev, hr.deep, fun s hs => ?_, by have := Ykt hr.fits T; simp; omega⟩
 obtain ⟨id, hid, rfl⟩ := List.mem_map.1 hs
 have hm := Yks hid
 obtain ⟨_, e2, e3⟩ := Yit hm hr.fits.up
 have := (hb.behind hr e2).2
 rwa [e3] at this

theorem Yl1 : @Zgy = @Ze9 := rfl

theorem Yl2 {g : Y8z} {h : Y94} {w : Y92} (hb : Both g h w) (hr : Yjr g) (T : Int → Bool) : (Zgi h (endsT g.events T)).bind (fun r => (Zgy h r).bind fun r' => some r') = some (nowT g h T) ∧ StOk g.events (nowT g h T) := by
 have hgr := hb.graph
 have hm := hb.endsT hr T
 have hel := Ykt hr.fits T
 rw [Yl0 _ (by omega), Option.bind_some]
 have hm' : Mrg h.graph ((endsT g.events T).map (behI h.after)) := by rw [hgr]; exact hm
 obtain ⟨_, c2, c3⟩ := Yiz hm' hb.depth
 rw [Yl1, c2, hgr]
 rw [hgr] at c3
 exact ⟨rfl, c3⟩

theorem Yl3 {g : Y8z} {h : Y94} {w : Y92} (hb : Both g h w) (hr : Yjr g) (T : Int → Bool) : Z67 g w (Ykv g.events T) = some (nowT g h T) := by
 have hgr := hb.graph
 have hel := Ykt hr.fits T
 have hfl := hr.fits.len
 unfold Z67
 rw [Ykz hr, Option.bind_some]
 have := Ye3 (l := endsT g.events T) (step := fun z : List (List Y91) × Int => Z66 g w (endsT g.events T) z.1 z.2) (fun q j => (q, j)) (fun q => q) (fun q p => q ++ [behI h.after p]) (fun i q => q.length = i) (by omega) (fun i q hi hq => by
  refine ⟨?_, by simp [hq]⟩
  have hm := Yks (List.getElem_mem hi)
  obtain ⟨_, e2, e3⟩ := Yit hm hr.fits.up
  have hbe := (hb.behind hr e2).1
  rw [e3] at hbe
  simp only [Z66]
  rw [dlt hi, cond_true, Ydm hi, Option.bind_some, Yej _ _ (by omega), Option.bind_some, hbe, Option.bind_some, Yh0 (by simp; omega), Option.bind_some, Ydn hi (by omega)])
  (fun q _ => by simp only [Z66]; rw [dnlt, cond_false]) (s := []) rfl
 rw [this.1, Yju, Option.bind_some]
 simp only [Z65, List.nil_append]
 have hm' : Mrg h.graph ((endsT g.events T).map (behI h.after)) := by rw [hgr]; exact hb.endsT hr T
 obtain ⟨c1, _, _⟩ := Yiz hm' hb.depth
 rw [hb.depths, ← hgr]
 rw [hgr] at c1 ⊢
 rw [c1]
 rfl

theorem Yl4 {g : Y8z} {h : Y94} {w : Y92} (hb : Both g h w) (hr : Yjr g) : Z63 w = some (Ykv g.events (refB h)) := by
 have hfl := hr.fits.len
 have hlc := hb.lc
 unfold Z63
 rw [Y4j (decide_eq_true (by omega)), Option.bind_some, Int.toNat_natCast]
 rw [Ykx (by omega) (fun l i => by simp only [Z62]), Option.bind_some]
 have := Ykw hb hr
 rw [hb.graph] at this
 rw [this]; rfl
end Go.Proofs.YtbgichfjcnibpaaGreat
namespace Go.Proofs.YtbgichfjcnibpaaGreat
open Go Go.Abs


theorem Yl5 {α σ τ ω : Type} {l : List α} {step : τ → Option (τ ⊕ ω)} (emb : σ → Int → τ) (fin : σ → ω) (bad : ω) (p : Nat → Bool) (g : σ → α → σ) (I : Nat → σ → Prop) (hl : l.length < 9223372036854775807)
  (h1 : ∀ (i : Nat) (s : σ) (hi : i < l.length), I i s → (∀ j, j < i → p j = true) → step (emb s i) = some (cond (p i) (.inl (emb (g s l[i]) ((i + 1 : Nat) : Int))) (.inr bad)) ∧ (p i = true → I (i + 1) (g s l[i])))
  (h2 : ∀ s, I l.length s → step (emb s l.length) = some (.inr (fin s))) {s : σ} (h0 : I 0 s) :
  ((∀ i, i < l.length → p i = true) ∧ iter step big (emb s 0) = some (fin (l.foldl g s)) ∧ I l.length (l.foldl g s)) ∨ ((∃ i, i < l.length ∧ p i = false) ∧ iter step big (emb s 0) = some bad) := by
 have key : ∀ m i k : Nat, ∀ s, i + m = l.length → m < k → I i s → (∀ j, j < i → p j = true) →
   ((∀ i, i < l.length → p i = true) ∧ iter step k (emb s i) = some (fin ((l.drop i).foldl g s)) ∧ I l.length ((l.drop i).foldl g s)) ∨ ((∃ i, i < l.length ∧ p i = false) ∧ iter step k (emb s i) = some bad) := by
  intro m
  induction m with
  | zero =>
   intro i k s hm hk hi hp
   obtain ⟨k, rfl⟩ : ∃ k', k = k' + 1 := ⟨k - 1, by omega⟩
   obtain rfl : i = l.length := by omega
   rw [iter, h2 s hi, List.drop_length]
   exact .inl ⟨hp, rfl, hi⟩
  | succ m ih =>
   intro i k s hm hk hi hp
   obtain ⟨k, rfl⟩ : ∃ k', k = k' + 1 := ⟨k - 1, by omega⟩
   have hil : i < l.length := by omega
   obtain ⟨e1, e2⟩ := h1 i s hil hi hp
   cases hpi : p i with
   | false =>
    rw [hpi] at e1
    exact .inr ⟨⟨i, hil, hpi⟩, by rw [iter, e1]; rfl⟩
   | true =>
    rw [hpi] at e1
    rw [iter, e1, List.drop_eq_getElem_cons hil, List.foldl_cons]
    exact ih (i + 1) k _ (by omega) (by omega) (e2 hpi) fun j hj => by
     rcases Nat.lt_or_ge j i with h | h
     ·
      exact hp j h
     ·
      obtain rfl : j = i := by omega
      exact hpi
 have := key l.length 0 big s (by omega) (Ydh (by omega)) h0 fun j hj => by omega
 simpa using this


abbrev Pr := Int × Int
def pr (x : Y8y) : Pr := (x.room, x.id)
def prs (l : List Y8y) : List Pr := l.map pr
def posP (l : List Pr) (y : Pr) : Int := if y ∈ l then (l.idxOf y : Int) + 1 else 0

theorem Yl6 (l : List Pr) (a y : Pr) : posP (l ++ [a]) y = if y ∈ l then posP l y else if y = a then (l.length : Int) + 1 else 0 := by
 unfold posP
 by_cases h : y ∈ l
 ·
  rw [if_pos h, if_pos h, if_pos (by simp [h]), List.idxOf_append, if_pos h]
 ·
  rw [if_neg h]
  by_cases ha : y = a
  ·
   subst ha
   rw [if_pos (by simp), if_pos rfl, List.idxOf_append, if_neg h]
   simp
  ·
   rw [if_neg (by simp [h, ha]), if_neg ha]
theorem Yl7 {l : List Pr} {y : Pr} : 0 < posP l y ↔ y ∈ l := by
 unfold posP
 by_cases h : y ∈ l
 ·
  rw [if_pos h]; exact ⟨fun _ => h, fun _ => by omega⟩
 ·
  rw [if_neg h]; exact ⟨fun x => by omega, fun x => absurd x h⟩
theorem Yl8 {l : List Pr} {y : Pr} {i : Nat} (hi : i ≤ l.length) : y ∈ l.take i ↔ y ∈ l ∧ l.idxOf y < i := by
 constructor
 ·
  intro h
  refine ⟨List.mem_of_mem_take h, ?_⟩
  have e : l = l.take i ++ l.drop i := (List.take_append_drop i l).symm
  have h2 := List.idxOf_lt_length_of_mem h
  rw [List.length_take] at h2
  rw [e, List.idxOf_append, if_pos h]
  omega
 ·
  rintro ⟨h, hlt⟩
  have h1 := List.idxOf_lt_length_of_mem h
  have : l[l.idxOf y] = y := List.getElem_idxOf h1
  rw [List.mem_take_iff_getElem]
  exact ⟨l.idxOf y, by omega, this⟩
theorem Yl9 {l : List Pr} {y : Pr} {i : Nat} (hi : i ≤ l.length) : y ∈ l.take i ↔ 0 < posP l y ∧ posP l y ≤ i := by
 rw [Yl8 hi, Yl7]
 unfold posP
 constructor
 ·
  rintro ⟨h, hlt⟩; rw [if_pos h]; exact ⟨h, by omega⟩
 ·
  rintro ⟨h, hlt⟩; rw [if_pos h] at hlt; exact ⟨h, by omega⟩
theorem Yla {α : Type} {l : List α} (h : l.Nodup) {i j : Nat} (hi : i < l.length) (hj : j < l.length) (e : l[i] = l[j]) : i = j := by
 have hp := List.pairwise_iff_getElem.1 (List.nodup_iff_pairwise_ne.1 h)
 rcases Nat.lt_trichotomy i j with h1 | h1 | h1
 ·
  exact absurd e (hp i j hi hj h1)
 ·
  exact h1
 ·
  exact absurd e.symm (hp j i hj hi h1)
theorem Ylb {l : List Pr} (h : l.Nodup) {i : Nat} (hi : i < l.length) : l.idxOf l[i] = i := by
 have hm : l[i] ∈ l := List.getElem_mem hi
 have h1 := List.idxOf_lt_length_of_mem hm
 have e : l[l.idxOf l[i]] = l[i] := List.getElem_idxOf h1
 exact Yla h h1 hi e
theorem Ylc {l : List Pr} : l.Nodup ↔ ∀ (i : Nat) (hi : i < l.length), l[i] ∉ l.take i := by
 constructor
 ·
  intro h i hi hm
  have := (Yl8 (by omega)).1 hm
  rw [Ylb h hi] at this
  omega
 ·
  intro h
  rw [List.nodup_iff_pairwise_ne, List.pairwise_iff_getElem]
  intro i j hi hj hij e
  exact h j hj (by rw [List.mem_take_iff_getElem]; exact ⟨i, by omega, e⟩)

theorem Yld : ∀ {a l : List Pr}, a.Nodup → (∀ x ∈ a, x ∈ l) → a.length ≤ l.length
 | [], _, _, _ => Nat.zero_le _
 | x :: a, l, hn, hs => by
  simp only [List.nodup_cons] at hn
  have hx : x ∈ l := hs x (by simp)
  have := Yld (l := l.erase x) hn.2 fun y hy => (List.mem_erase_of_ne (fun e => hn.1 (by rw [← e]; exact hy))).2 (hs y (by simp [hy]))
  rw [List.length_erase_of_mem hx] at this
  have : 0 < l.length := List.length_pos_of_mem hx
  simp only [List.length_cons]; omega
theorem Yle {a l : List Pr} (hn : a.Nodup) (hs : ∀ x ∈ a, x ∈ l) (hl : l.length ≤ a.length) : ∀ x ∈ l, x ∈ a := by
 intro x hx
 by_cases h : x ∈ a
 ·
  exact h
 ·
  have := Yld (a := x :: a) (l := l) (List.nodup_cons.2 ⟨h, hn⟩) fun y hy => by
   rcases List.mem_cons.1 hy with rfl | hy
   ·
    exact hx
   ·
    exact hs y hy
  simp only [List.length_cons] at this
  omega


def Ylf : Y94 := ⟨⟨0, [], []⟩, [], [], [], []⟩
def hiG (g : Y8z) : Y94 := (Zer g).getD Ylf
def knG (g : Y8z) : Y92 := (Z5o g).getD ⟨[], [], [], []⟩
theorem Ylg {g : Y8z} (hr : Yjr g) : Zer g = some (hiG g) ∧ Z5o g = some (knG g) ∧ Both g (hiG g) (knG g) := by
 obtain ⟨h, w, h1, h2, h3⟩ := Yjw hr
 unfold hiG knG
 rw [h1, h2]
 exact ⟨rfl, rfl, h3⟩

def okB (g : Y8z) (id : Int) : Bool := refB (hiG g) id
def posG (s : List Pr) (g : Y8z) : List Int := g.events.map fun e => posP s (g.room, e.id)
def nowG (g : Y8z) : List Y91 := nowT g (hiG g) (okB g)
def wOf (h : Y90) : Y93 := ⟨h, h.rooms.map knG, h.rooms.map (posG (prs h.stream)), h.rooms.map nowG⟩

theorem Ylh {s : List Pr} {g : Y8z} {j : Nat} (hj : j < g.events.length) (h2 : j < (posG s g).length) : (posG s g)[j] = posP s (g.room, g.events[j].id) := List.getElem_map _

theorem Yli {h : Y90} {g : Y8z} (hr : Yjr g) (hn : (prs h.stream).Nodup) (hl : h.stream.length ≤ 120) :
  iter (fun z : List Int × Int => Z6d h g z.1 z.2) big (List.replicate g.events.length 0, 0) = some (posG (prs h.stream) g) := by
 have hfl := hr.fits.len
 obtain ⟨o, e1, rfl⟩ := Ydk (τ := List Int × Int) (ω := List Int) (σ := List Int) (step := fun z : List Int × Int => Z6d h g z.1 z.2) (n := h.stream.length) (fun s j => (s, j)) (fun i s => s = posG ((prs h.stream).take i) g) (fun o => o = posG (prs h.stream) g) (by omega) (by
  rintro i s hi rfl
  have hil : i < (prs h.stream).length := by unfold prs; rw [List.length_map]; exact hi
  have eL : (prs h.stream)[i] = (h.stream[i].room, h.stream[i].id) := List.getElem_map pr
  have etk : (prs h.stream).take (i + 1) = (prs h.stream).take i ++ [(h.stream[i].room, h.stream[i].id)] := by rw [List.take_add_one, List.getElem?_eq_getElem hil, eL]; rfl
  have hnot := Ylc.1 hn i hil
  rw [eL] at hnot
  have hw := Ydn hi (by omega : h.stream.length < 9223372036854775807)
  have hlt : ((prs h.stream).take i).length = i := by rw [List.length_take]; omega
  have hskip : (∀ e ∈ g.events, (g.room, e.id) ≠ (h.stream[i].room, h.stream[i].id)) → posG ((prs h.stream).take i) g = posG ((prs h.stream).take (i + 1)) g := fun hx => by
   unfold posG
   refine List.map_congr_left fun e he => ?_
   rw [etk, Yl6]
   by_cases hm : (g.room, e.id) ∈ (prs h.stream).take i
   ·
    rw [if_pos hm]
   ·
    rw [if_neg hm, if_neg (hx e he)]
    unfold posP; rw [if_neg hm]
  simp only [Z6d]
  rw [dlt hi, cond_true, Ydm hi, Option.bind_some, Yej _ _ (by omega), Option.bind_some, beqd]
  by_cases hroom : h.stream[i].room = g.room
  ·
   rw [decide_eq_true hroom, cond_true, Yek]
   cases hh : hasE g.events h.stream[i].id with
   | false =>
    refine ⟨_, by simp only [Z6c, Z6b, cond_false]; rw [hw], hskip fun e he ee => ?_⟩
    have : e.id = h.stream[i].id := (Prod.mk.inj ee).2
    have := Yep.2 ⟨e, he, this⟩
    rw [hh] at this; cases this
   | true =>
    obtain ⟨k, hk, h1, h2, h3⟩ := Yem hh
    have hkl : k < (posG ((prs h.stream).take i) g).length := by unfold posG; rw [List.length_map]; exact hk
    refine ⟨(posG ((prs h.stream).take i) g).set k ((i + 1 : Nat) : Int), by simp only [Z6c, Z6b, cond_true]; rw [h1, Ydm hkl, Option.bind_some, Int.toNat_natCast, hw], ?_⟩
    refine List.ext_getElem (by simp [posG]) fun j hj1 hj2 => ?_
    have hj : j < g.events.length := by simpa [posG] using hj2
    have hj0 : j < (posG ((prs h.stream).take i) g).length := by simpa [posG] using hj
    rw [List.getElem_set, Ylh hj hj2, Ylh hj hj0]
    simp only [etk]
    rw [Yl6]
    by_cases hjk : k = j
    ·
     subst hjk
     have ee : (g.room, g.events[k].id) = (h.stream[i].room, h.stream[i].id) := by rw [h2, hroom]
     rw [if_pos rfl, ee, if_neg hnot, if_pos rfl, hlt]; omega
    ·
     rw [if_neg hjk]
     by_cases hm : (g.room, g.events[j].id) ∈ (prs h.stream).take i
     ·
      rw [if_pos hm]
     ·
      rw [if_neg hm, if_neg (fun ee => hjk (hr.fits.up.inj hk hj (by rw [h2]; exact (Prod.mk.inj ee).2.symm)))]
      unfold posP; rw [if_neg hm]
  ·
   rw [decide_eq_false hroom, cond_false]
   exact ⟨_, by simp only [Z6c, Z6b, cond_false]; rw [hw], hskip fun e he ee => hroom (Prod.mk.inj ee).1.symm⟩) (by
  rintro s rfl
  simp only [Z6d]
  rw [dnlt, cond_false]
  exact ⟨_, rfl, by rw [show h.stream.length = (prs h.stream).length by simp [prs], List.take_length]⟩) (s := List.replicate g.events.length 0) (by
  show List.replicate g.events.length 0 = posG [] g
  exact List.ext_getElem (by simp [posG]) fun j h1 h2 => by simp [posG, posP])
 exact e1

theorem Ylj {h : Y90} (hr : ∀ g ∈ h.rooms, Yjr g) (hn : (prs h.stream).Nodup) (hl : h.stream.length ≤ 120) (h3 : h.rooms.length = 3) : Z6f h = some (wOf h) := by
 unfold Z6f
 have := Ye3 (l := h.rooms) (step := fun z : List Y92 × List (List Int) × List (List Y91) × Int => Z6e h z.1 z.2.1 z.2.2.1 z.2.2.2) (fun (q : List Y92 × List (List Int) × List (List Y91)) j => (q.1, q.2.1, q.2.2, j)) (fun q => q)
  (fun q g => (q.1 ++ [knG g], q.2.1 ++ [posG (prs h.stream) g], q.2.2 ++ [nowG g])) (fun i q => q.1.length = i ∧ q.2.1.length = i ∧ q.2.2.length = i) (by omega) (fun i q hi ⟨q1, q2, q3⟩ => by
  refine ⟨?_, by simp [q1], by simp [q2], by simp [q3]⟩
  have hg := hr _ (List.getElem_mem hi)
  have hfl := hg.fits.len
  obtain ⟨b1, b2, b3⟩ := Ylg hg
  have hp := Yli hg hn hl
  simp only [Z6e]
  rw [dlt hi, cond_true, Ydm hi, Option.bind_some, b2, Option.bind_some, Y4j (decide_eq_true (by simp; omega)), Option.bind_some, Yl4 b3 hg, Option.bind_some, Yl3 b3 hg, Option.bind_some, Yh0 (by simp; omega), Option.bind_some, Y4j (decide_eq_true (by omega)), Option.bind_some, Int.toNat_natCast, hp, Option.bind_some]
  simp only [Z6a]
  rw [Yh0 (by simp; omega), Option.bind_some, Ydn hi (by omega)]
  rfl)
  (fun q _ => by simp only [Z6e]; rw [dnlt, cond_false]) (s := ([], [], [])) ⟨rfl, rfl, rfl⟩
 rw [this.1, Option.bind_some]
 have key : ∀ (l : List Y8z) (q : List Y92 × List (List Int) × List (List Y91)), l.foldl (fun q g => (q.1 ++ [knG g], q.2.1 ++ [posG (prs h.stream) g], q.2.2 ++ [nowG g])) q = (q.1 ++ l.map knG, q.2.1 ++ l.map (posG (prs h.stream)), q.2.2 ++ l.map nowG) := by
  intro l
  induction l with
  | nil => intro q; simp
  | cons g l ih => intro q; rw [List.foldl_cons, ih]; simp
 rw [key]
 simp only [List.nil_append, Z69]
 rfl
end Go.Proofs.YtbgichfjcnibpaaGreat
namespace Go.Proofs.YtbgichfjcnibpaaGreat
open Go Go.Abs

def inS (s : List Pr) (g : Y8z) (e : Y8w) : Bool := decide (0 < posP s (g.room, e.id))
def strE (s : List Pr) (g : Y8z) (e : Y8w) : Bool := (okB g e.id == inS s g e) && (!inS s g e || e.prev.all fun p => decide (posP s (g.room, p) < posP s (g.room, e.id)))
def Ylk (s : List Pr) (g : Y8z) : Nat := (g.events.filter (inS s g)).length
def Yll (s : List Pr) (l : List Y8z) : Nat := (l.map (Ylk s)).sum

theorem Ylm (s : List Pr) (g : Y8z) : ∀ (l : List Y8w) (m : Int), l.foldl (fun m e => if inS s g e = true then m + 1 else m) m = m + (l.filter (inS s g)).length
 | [], m => by simp
 | e :: l, m => by
  rw [List.foldl_cons, Ylm s g l]
  cases h : inS s g e with
  | true => rw [if_pos rfl, List.filter_cons_of_pos h, List.length_cons]; omega
  | false => rw [if_neg (by simp), List.filter_cons_of_neg (by simp [h])]
theorem Yln (s : List Pr) : ∀ (l : List Y8z) (m : Int), l.foldl (fun m g => m + (Ylk s g : Int)) m = m + (Yll s l : Nat)
 | [], m => by simp [Yll]
 | g :: l, m => by
  rw [List.foldl_cons, Yln s l]
  unfold Yll
  rw [List.map_cons, List.sum_cons]
  omega

def atB {α : Type} (l : List α) (p : α → Bool) (i : Nat) : Bool := if h : i < l.length then p l[i] else true
theorem Ylo {α : Type} {l : List α} {p : α → Bool} {i : Nat} (h : i < l.length) : atB l p i = p l[i] := by unfold atB; rw [dif_pos h]
theorem Ylp {α : Type} {l : List α} {p : α → Bool} : (∀ i, i < l.length → atB l p i = true) ↔ l.all p = true := Ye1
theorem Ylq {α : Type} {l : List α} {p : α → Bool} (h : ∃ i, i < l.length ∧ atB l p i = false) : l.all p = false := by
 obtain ⟨i, hi, hb⟩ := h
 rw [Bool.eq_false_iff]
 intro ha
 have := Ylp.2 ha i hi
 rw [hb] at this; cases this

theorem Ylr {s : List Pr} {g : Y8z} (hr : Yjr g) {k : Nat} (hk : k < g.events.length) :
  iter (Z6m g (k : Int) (posG s g) (posP s (g.room, g.events[k].id))) big 0 = some (cond (!inS s g g.events[k] || g.events[k].prev.all fun p => decide (posP s (g.room, p) < posP s (g.room, g.events[k].id))) (.inr ()) (.inl false)) := by
 have hpl := hr.fits.plen _ (List.getElem_mem hk)
 have hfl := hr.fits.len
 cases hin : inS s g g.events[k] with
 | false =>
  have h0 : decide (posP s (g.room, g.events[k].id) > 0) = false := hin
  rw [Y4m (o := .inr ()) (fun m (x : Int) => x = 0 ∧ m = 0) ?_ (m := 0) ⟨rfl, rfl⟩ (Ydh (by omega))]
  ·
   rfl
  ·
   rintro m x ⟨rfl, rfl⟩
   left
   simp only [Z6m]
   rw [Ydm hk, Option.bind_some, h0]
   cases decide ((0 : Int) < (g.events[k].prev.length : Int)) <;> rfl
 | true =>
  have h0 : decide (posP s (g.room, g.events[k].id) > 0) = true := hin
  rw [Ye2 (l := g.events[k].prev) (fun p => decide (posP s (g.room, p) < posP s (g.room, g.events[k].id))) (.inl false) (.inr ()) hpl (fun i hi => by
   obtain ⟨j, hj, j1, j2, _⟩ := Yem (hr.fits.whole _ (List.getElem_mem hk) _ (List.getElem_mem hi))
   have hjl : j < (posG s g).length := by unfold posG; rw [List.length_map]; exact hj
   simp only [Z6m]
   rw [Ydm hk, Option.bind_some, dlt hi, cond_true, h0]
   simp only [Z6l]
   rw [Ydm hk, cond_true, Option.bind_some, Ydm hi, Option.bind_some, Yej _ _ (by omega), Option.bind_some, j1, Ydm hjl, Option.bind_some, Ylh hj, j2, Ydn hi hpl]
   by_cases hc : posP s (g.room, g.events[k].prev[i]) < posP s (g.room, g.events[k].id)
   ·
    rw [decide_eq_true hc, decide_eq_false (by omega)]; rfl
   ·
    rw [decide_eq_false hc, decide_eq_true (by omega)]; rfl) (by
   simp only [Z6m]
   rw [Ydm hk, Option.bind_some, dnlt, cond_false]; rfl)]
  rfl

theorem Yls {g : Y8z} (hr : Yjr g) {k : Nat} (hk : k < g.events.length) : ∃ c, getI (knG g).code (k : Int) = some c ∧ (c == 0) = okB g g.events[k].id := by
 obtain ⟨c, h1, h2⟩ := (Ylg hr).2.2.code (List.getElem_mem hk)
 rw [(hr.fits.up.plc hk).1] at h1
 refine ⟨c, h1, ?_⟩
 unfold okB refB
 rw [h2, beqd]

theorem Ylt {h : Y90} {i : Nat} (hi : i < h.rooms.length) (hr : Yjr h.rooms[i]) {m : Int} (hm : 0 ≤ m ∧ m ≤ 1000) :
  iter (fun z : Int × Int => Z6n (wOf h) (i : Int) h.rooms[i] z.1 z.2) big (m, 0) = some (cond (h.rooms[i].events.all (strE (prs h.stream) h.rooms[i])) (.inr (m + (Ylk (prs h.stream) h.rooms[i] : Int))) (.inl false)) := by
 have hfl := hr.fits.len
 have g1 : getI (wOf h).rooms (i : Int) = some (knG h.rooms[i]) := Yky knG hi
 have g2 : getI (wOf h).pos (i : Int) = some (posG (prs h.stream) h.rooms[i]) := Yky _ hi
 have := Yl5 (l := h.rooms[i].events) (step := fun z : Int × Int => Z6n (wOf h) (i : Int) h.rooms[i] z.1 z.2) (fun q j => (q, j)) (fun q => Sum.inr q) (Sum.inl false) (atB h.rooms[i].events (strE (prs h.stream) h.rooms[i])) (fun m e => if inS (prs h.stream) h.rooms[i] e = true then m + 1 else m) (fun k q => 0 ≤ q ∧ q ≤ 1000 + k) (by omega) (fun k q hk ⟨q1, q2⟩ _ => by
  refine ⟨?_, fun _ => by split <;> omega⟩
  obtain ⟨c, c1, c2⟩ := Yls hr hk
  have hkl : k < (posG (prs h.stream) h.rooms[i]).length := by unfold posG; rw [List.length_map]; exact hk
  have hp := Ylr (s := prs h.stream) hr hk
  have hw := Ydn hk (by omega : h.rooms[i].events.length < 9223372036854775807)
  have hin : decide (posP (prs h.stream) (h.rooms[i].room, h.rooms[i].events[k].id) > 0) = inS (prs h.stream) h.rooms[i] h.rooms[i].events[k] := rfl
  simp only [Z6n]
  rw [dlt hk, cond_true, g1, Option.bind_some, c1, Option.bind_some, g2, Option.bind_some, Ydm hkl, Option.bind_some, Ylh hk, c2, hin, hp, Option.bind_some, Ylo hk]
  unfold strE
  cases ho : okB h.rooms[i] h.rooms[i].events[k].id == inS (prs h.stream) h.rooms[i] h.rooms[i].events[k] with
  | false => rfl
  | true =>
   rw [cond_true, Bool.true_and]
   cases hc : (!inS (prs h.stream) h.rooms[i] h.rooms[i].events[k] || h.rooms[i].events[k].prev.all fun p => decide (posP (prs h.stream) (h.rooms[i].room, p) < posP (prs h.stream) (h.rooms[i].room, h.rooms[i].events[k].id))) with
   | false => rfl
   | true =>
    simp only [cond_true, Z6k, Z6j]
    rw [hin, hw, Y4i (n := q + 1) (by omega) (by omega)]
    cases inS (prs h.stream) h.rooms[i] h.rooms[i].events[k] <;> rfl)
  (fun q _ => by simp only [Z6n]; rw [dnlt, cond_false]) (s := m) ⟨hm.1, by omega⟩
 rcases this with ⟨a1, a2, _⟩ | ⟨a1, a2⟩
 ·
  rw [a2, Ylp.1 a1, Ylm]; rfl
 ·
  rw [a2, Ylq a1]; rfl

theorem Ylu {s : List Pr} {g : Y8z} (hr : Yjr g) : Ylk s g ≤ 60 := Nat.le_trans (List.length_filter_le _ _) hr.fits.len

theorem Ylv {h : Y90} (hr : ∀ g ∈ h.rooms, Yjr g) (h3 : h.rooms.length = 3) (hl : h.stream.length ≤ 120) :
  Z6p (wOf h) = some ((h.rooms.all fun g => g.events.all (strE (prs h.stream) g)) && decide (Yll (prs h.stream) h.rooms = h.stream.length)) := by
 unfold Z6p
 have := Yl5 (l := h.rooms) (step := fun z : Int × Int => Z6o (wOf h) z.1 z.2) (fun q j => (q, j)) (fun q => Sum.inr q) (Sum.inl false) (atB h.rooms fun g => g.events.all (strE (prs h.stream) g)) (fun m g => m + (Ylk (prs h.stream) g : Int)) (fun k q => 0 ≤ q ∧ q ≤ 60 * k) (by omega) (fun k q hk ⟨q1, q2⟩ _ => by
  have hg := hr _ (List.getElem_mem hk)
  have hml := Ylu (s := prs h.stream) hg
  refine ⟨?_, fun _ => by omega⟩
  have hev := Ylt (h := h) hk hg (m := q) ⟨q1, by omega⟩
  have g0 : getI (wOf h).h.rooms (k : Int) = some h.rooms[k] := Ydm hk
  have hw := Ydn hk (by omega : h.rooms.length < 9223372036854775807)
  have hd : decide ((k : Int) < ((wOf h).h.rooms.length : Int)) = true := dlt hk
  simp only [Z6o]
  rw [hd, cond_true, g0, Option.bind_some, hev, Option.bind_some, Ylo hk]
  cases h.rooms[k].events.all (strE (prs h.stream) h.rooms[k]) with
  | false => rfl
  | true => simp only [cond_true, Z6i]; rw [hw])
  (fun q _ => by
   have hd : decide ((h.rooms.length : Int) < ((wOf h).h.rooms.length : Int)) = false := dnlt _
   simp only [Z6o]; rw [hd, cond_false]) (s := 0) ⟨by omega, by omega⟩
 rcases this with ⟨a1, a2, _⟩ | ⟨a1, a2⟩
 ·
  rw [a2, Ylp.1 a1, Yln, Option.bind_some]
  simp only [Z6h]
  rw [beqd, Bool.true_and]
  congr 1
  rw [Bool.eq_iff_iff]
  simp only [decide_eq_true_eq]
  show (0 + ((Yll (prs h.stream) h.rooms : Nat) : Int) = (h.stream.length : Int)) ↔ _
  omega
 ·
  rw [a2, Ylq a1]; rfl
end Go.Proofs.YtbgichfjcnibpaaGreat
namespace Go.Proofs.YtbgichfjcnibpaaGreat
open Go Go.Abs

structure Ylw (h : Y90) : Prop where
 rl : h.rooms.length ≤ 1048576
 sl : h.stream.length ≤ 1048576
 fine : ∀ g ∈ h.rooms, Fine g

def gB (g : Y8z) : Bool := (Z2u g).getD false
theorem Ylx {g : Y8z} (hg : Fine g) : Z2u g = some (gB g) ∧ Za9 g = some (gB g) ∧ (gB g = true ↔ GOk g) := by
 obtain ⟨b, h1, h2, h3⟩ := Ygv hg
 unfold gB
 rw [h1]
 exact ⟨rfl, h2, h3⟩
def rB (l : List Y8z) (i : Nat) : Bool := if h : i < l.length then gB l[i] && decide (l[i].room = (i : Int) + 1) else true
theorem Yly {l : List Y8z} {i : Nat} (h : i < l.length) : rB l i = (gB l[i] && decide (l[i].room = (i : Int) + 1)) := by unfold rB; rw [dif_pos h]
def Ylz (h : Y90) : Prop := ∀ (i : Nat) (hi : i < h.rooms.length), GOk h.rooms[i] ∧ h.rooms[i].room = (i : Int) + 1
theorem Ym0 {h : Y90} (hf : Ylw h) : (∀ i, i < h.rooms.length → rB h.rooms i = true) ↔ Ylz h := by
 constructor
 ·
  intro k i hi
  have := k i hi
  rw [Yly hi, Bool.and_eq_true] at this
  exact ⟨(Ylx (hf.fine _ (List.getElem_mem hi))).2.2.1 this.1, by simpa using this.2⟩
 ·
  intro k i hi
  rw [Yly hi, Bool.and_eq_true]
  exact ⟨(Ylx (hf.fine _ (List.getElem_mem hi))).2.2.2 (k i hi).1, by simpa using (k i hi).2⟩
theorem Ylz.right {h : Y90} (k : Ylz h) : ∀ g ∈ h.rooms, Yjr g := fun g hg => by
 obtain ⟨i, hi, rfl⟩ := List.mem_iff_getElem.1 hg
 exact (k i hi).1.right


def zW : Y93 := ⟨⟨[], []⟩, [], [], []⟩
def OkS (h : Y90) : Prop := h.rooms.length = 3 ∧ h.stream.length ≤ 120 ∧ Ylz h ∧ (prs h.stream).Nodup ∧ (∀ g ∈ h.rooms, ∀ e ∈ g.events, strE (prs h.stream) g e = true) ∧ Yll (prs h.stream) h.rooms = h.stream.length

theorem Ym1 {l : List Y8y} {i : Nat} (hi : i < l.length) (h2 : i < (prs l).length) : (prs l)[i] = (l[i].room, l[i].id) := List.getElem_map pr
theorem Ym2 (l : List Y8y) : (prs l).length = l.length := List.length_map pr

theorem eqSp (a b c d : Int) : ((a == b) && ((c == d) && true)) = decide ((b, d) = (a, c)) := by
 rw [Bool.eq_iff_iff]
 simp only [Bool.and_eq_true, beq_iff_eq, and_true, decide_eq_true_eq, Prod.mk.injEq]
 exact ⟨fun x => ⟨x.1.symm, x.2.symm⟩, fun x => ⟨x.1.symm, x.2.symm⟩⟩

theorem Ym3 {h : Y90} (hl : h.stream.length ≤ 120) {i : Nat} (hi : i < h.stream.length) :
  iter (Z6t h (i : Int)) big 0 = some (cond (!decide ((h.stream[i].room, h.stream[i].id) ∈ (prs h.stream).take i)) (.inr ()) (.inl (zW, false))) := by
 have hlt : ((prs h.stream).take i).length = i := by rw [List.length_take, Ym2]; omega
 have hgt : ∀ (k : Nat) (hk : k < ((prs h.stream).take i).length), ((prs h.stream).take i)[k] = (h.stream[k].room, h.stream[k].id) := fun k hk => by
  rw [List.getElem_take]; exact Ym1 _ _
 rw [Ye2 (l := (prs h.stream).take i) (step := Z6t h (i : Int)) (fun y => !decide (y = (h.stream[i].room, h.stream[i].id))) (.inl (zW, false)) (.inr ()) (by omega) (fun k hk => by
  have hki : k < i := by omega
  simp only [Z6t]
  rw [dlt hki, cond_true, Ydm hi, Option.bind_some, Ydm (by omega : k < h.stream.length), Option.bind_some, hgt k hk, Ydn hki (by omega)]
  rw [eqSp]
  cases decide ((h.stream[k].room, h.stream[k].id) = (h.stream[i].room, h.stream[i].id)) <;> rfl) (by
  simp only [Z6t]
  rw [hlt, dnlt, cond_false])]
 congr 2
 rw [Bool.eq_iff_iff, List.all_eq_true]
 simp only [Bool.not_eq_true', decide_eq_false_iff_not]
 constructor
 ·
  exact fun k hm => k _ hm rfl
 ·
  exact fun k y hy e => k (e ▸ hy)

theorem Ym4 {h : Y90} (hf : Ylw h) : ∃ b : Bool, (b = true ↔ OkS h) ∧ Z6z h = some (cond b (wOf h, true) (zW, false)) := by
 have hrl := hf.rl
 have hsl := hf.sl
 unfold Z6z
 by_cases h3 : (h.rooms.length : Int) = 3
 rotate_left
 ·
  refine ⟨false, ⟨fun x => (by cases x), fun x => absurd x.1 (by omega)⟩, ?_⟩
  rw [bned, decide_eq_false h3]; rfl
 by_cases hl : (h.stream.length : Int) > 120
 ·
  refine ⟨false, ⟨fun x => (by cases x), fun x => absurd x.2.1 (by omega)⟩, ?_⟩
  rw [bned, decide_eq_true h3, decide_eq_true hl]; rfl
 rw [bned, decide_eq_true h3, decide_eq_false hl]
 simp only [Bool.not_true, cond_false, Z6y]
 have hl' : h.stream.length ≤ 120 := by omega
 have h3' : h.rooms.length = 3 := by omega
 have := Yl5 (l := h.rooms) (step := fun z : Int => Z6x h z) (fun (_ : Unit) j => j) (fun _ => Sum.inr ()) (Sum.inl (zW, false)) (rB h.rooms) (fun q _ => q) (fun _ _ => True) (by omega) (fun k q hk _ _ => by
  refine ⟨?_, fun _ => trivial⟩
  obtain ⟨b1, _, _⟩ := Ylx (hf.fine _ (List.getElem_mem hk))
  have hw := Ydn hk (by omega : h.rooms.length < 9223372036854775807)
  simp only [Z6x]
  rw [dlt hk, cond_true, Ydm hk, Option.bind_some, b1, Option.bind_some, Yly hk, hw, bned]
  cases gB h.rooms[k] with
  | false => rfl
  | true =>
   simp only [cond_true, Bool.true_and, Z6w, hw]
   by_cases hc : h.rooms[k].room = (k : Int) + 1
   ·
    rw [decide_eq_true hc, decide_eq_true (by omega)]; rfl
   ·
    rw [decide_eq_false hc, decide_eq_false (by omega)]; rfl)
  (fun q _ => by simp only [Z6x]; rw [dnlt, cond_false]) (s := ()) trivial
 rcases this with ⟨a1, a2, _⟩ | ⟨⟨i, hi, a1⟩, a2⟩
 rotate_left
 ·
  refine ⟨false, ⟨fun x => (by cases x), fun x => ?_⟩, ?_⟩
  ·
   have := (Ym0 hf).2 x.2.2.1 i hi
   rw [a1] at this; cases this
  ·
   have a2' : iter (Z6x h) big 0 = some (Sum.inl (zW, false)) := a2
   rw [a2']; rfl
 have hro := (Ym0 hf).1 a1
 have a2' : iter (Z6x h) big 0 = some (Sum.inr ()) := a2
 rw [a2', Option.bind_some]
 simp only [Z6v]
 -- no repetition
 have := Yl5 (l := prs h.stream) (step := fun z : Int => Z6u h z) (fun (_ : Unit) j => j) (fun _ => Sum.inr ()) (Sum.inl (zW, false)) (fun i => if hi : i < (prs h.stream).length then !decide ((prs h.stream)[i] ∈ (prs h.stream).take i) else true) (fun q _ => q) (fun _ _ => True) (by rw [Ym2]; omega) (fun k q hk _ _ => by
  refine ⟨?_, fun _ => trivial⟩
  have hk' : k < h.stream.length := by rw [Ym2] at hk; exact hk
  have hw := Ydn hk' (by omega : h.stream.length < 9223372036854775807)
  have hd := Ym3 hl' hk'
  simp only [Z6u]
  rw [dlt hk', cond_true, hd, Option.bind_some, dif_pos hk, Ym1 hk']
  cases decide ((h.stream[k].room, h.stream[k].id) ∈ (prs h.stream).take k) with
  | false => simp only [Bool.not_false, cond_true, Z6s]; rw [hw]
  | true => rfl)
  (fun q _ => by simp only [Z6u]; rw [Ym2, dnlt, cond_false]) (s := ()) trivial
 rcases this with ⟨n1, n2, _⟩ | ⟨⟨i, hi, n1⟩, n2⟩
 rotate_left
 ·
  refine ⟨false, ⟨fun x => (by cases x), fun x => ?_⟩, ?_⟩
  ·
   rw [dif_pos hi] at n1
   have := Ylc.1 x.2.2.2.1 i hi
   simp [this] at n1
  ·
   have n2' : iter (Z6u h) big 0 = some (Sum.inl (zW, false)) := n2
   rw [n2']; rfl
 have hnd : (prs h.stream).Nodup := Ylc.2 fun i hi => by
  have := n1 i hi
  rw [dif_pos hi] at this
  simpa using this
 have n2' : iter (Z6u h) big 0 = some (Sum.inr ()) := n2
 rw [n2', Option.bind_some]
 simp only [Z6r]
 rw [Ylj hro.right hnd hl' h3', Option.bind_some, Ylv hro.right h3' hl', Option.bind_some]
 refine ⟨(h.rooms.all fun g => g.events.all (strE (prs h.stream) g)) && decide (Yll (prs h.stream) h.rooms = h.stream.length), ?_, ?_⟩
 ·
  rw [Bool.and_eq_true, List.all_eq_true, decide_eq_true_eq]
  constructor
  ·
   rintro ⟨k1, k2⟩
   exact ⟨h3', hl', hro, hnd, fun g hg e he => List.all_eq_true.1 (k1 g hg) e he, k2⟩
  ·
   rintro ⟨_, _, _, _, k1, k2⟩
   exact ⟨fun g hg => List.all_eq_true.2 fun e he => k1 g hg e he, k2⟩
 ·
  cases (h.rooms.all fun g => g.events.all (strE (prs h.stream) g)) && decide (Yll (prs h.stream) h.rooms = h.stream.length) <;> rfl
end Go.Proofs.YtbgichfjcnibpaaGreat
namespace Go.Proofs.YtbgichfjcnibpaaGreat
open Go Go.Abs

def zS : Y95 := ⟨⟨[], []⟩, []⟩
def sOf (h : Y90) : Y95 := ⟨h, h.rooms.map hiG⟩
def zG : Y8z := ⟨0, [], []⟩
def rmG (h : Y90) (r : Int) : Y8z := h.rooms.getD (r - 1).toNat zG
def stX (h : Y90) (i : Nat) (x : Y8y) : Bool :=
 decide (1 ≤ x.room ∧ x.room ≤ 3) && !decide ((x.room, x.id) ∈ (prs h.stream).take i) && hasE (rmG h x.room).events x.id && okB (rmG h x.room) x.id &&
  (evD (rmG h x.room).events x.id).prev.all fun p => !okB (rmG h x.room) p || decide ((x.room, p) ∈ (prs h.stream).take i)
def stB (h : Y90) (i : Nat) : Bool := if hi : i < h.stream.length then stX h i h.stream[i] else true
def Ym5 (g : Y8z) : Nat := (accT g.events (okB g)).length
def Ym6 (l : List Y8z) : Nat := (l.map Ym5).sum
theorem Ym7 : ∀ (l : List Y8z) (q : List Y94 × Int), l.foldl (fun q g => (q.1 ++ [hiG g], q.2 + (Ym5 g : Int))) q = (q.1 ++ l.map hiG, q.2 + (Ym6 l : Nat))
 | [], q => by simp [Ym6]
 | g :: l, q => by
  rw [List.foldl_cons, Ym7 l]
  unfold Ym6
  rw [List.map_cons, List.map_cons, List.sum_cons, List.append_assoc]
  congr 1
  omega

theorem Ym8 {g : Y8z} (hr : Yjr g) : Ym5 g ≤ 60 := Ykr hr.fits _

def OkI (h : Y90) : Prop := h.rooms.length = 3 ∧ h.stream.length ≤ 120 ∧ Ylz h ∧ (∀ i, i < h.stream.length → stB h i = true) ∧ Ym6 h.rooms = h.stream.length

theorem Ym9 {h : Y90} (h3 : h.rooms.length = 3) {r : Int} (hr : 1 ≤ r ∧ r ≤ 3) : ∃ (k : Nat) (hk : k < h.rooms.length), r = (k : Int) + 1 ∧ IntKind.i64.wrap (r - 1) = (k : Int) ∧ rmG h r = h.rooms[k] := by
 refine ⟨(r - 1).toNat, by omega, by omega, ?_, ?_⟩
 ·
  rw [Y4i (by omega) (by omega)]; omega
 ·
  unfold rmG
  rw [List.getD_eq_getElem?_getD, List.getElem?_eq_getElem (by omega)]; rfl

theorem Yma {g : Y8z} (hg : Yjr g) {m : List (Pr × Bool)} {s : List Pr} {x : Y8y} (hm : ∀ y, Option.getD (pget m y) false = decide (y ∈ s)) (p : Int) :
  Zf1 p (hiG g) m x = some (!(!okB g p || decide ((x.room, p) ∈ s))) := by
 unfold Zf1
 rw [beqd]
 show cond (okB g p) _ _ = _
 cases okB g p with
 | false => rfl
 | true => simp only [cond_true, Zf0, hm]; simp

theorem Ymb {g : Y8z} (hg : Yjr g) {m : List (Pr × Bool)} {s : List Pr} {x : Y8y} (hm : ∀ y, Option.getD (pget m y) false = decide (y ∈ s)) (l : List Int) (hl : l.length < 9223372036854775807) :
  Zf7 l (hiG g) m x = some (!l.all fun p => !okB g p || decide ((x.room, p) ∈ s)) := by
 unfold Zf7 Zf5
 rw [Ye5 (Ye0 (l := l) (step := Zf4 l (hiG g) m x) (fun p => !(!okB g p || decide ((x.room, p) ∈ s))) hl (fun i hi => by
  simp only [Zf4]
  rw [dlt hi, cond_true, Ydm hi, Option.bind_some, Yma hg hm, Option.bind_some, Ydn hi hl]
  cases (!okB g l[i] || decide ((x.room, l[i]) ∈ s)) <;> rfl) (by simp only [Zf4]; rw [dnlt, cond_false])) (fun _ => rfl) rfl, Option.bind_some, Ye4, Yiq]

theorem Ymc {h : Y90} (hro : Ylz h) (h3 : h.rooms.length = 3) (hl : h.stream.length ≤ 120) :
  ((∀ i, i < h.stream.length → stB h i = true) ∧ iter (fun z : List (Pr × Bool) × Int => Zfd h (h.rooms.map hiG) z.1 z.2) big ([], 0) = some (.inr ())) ∨
  ((∃ i, i < h.stream.length ∧ stB h i = false) ∧ iter (fun z : List (Pr × Bool) × Int => Zfd h (h.rooms.map hiG) z.1 z.2) big ([], 0) = some (.inl (zS, false))) := by
 have := Yl5 (l := h.stream) (step := fun z : List (Pr × Bool) × Int => Zfd h (h.rooms.map hiG) z.1 z.2) (fun q j => (q, j)) (fun _ => Sum.inr ()) (Sum.inl (zS, false)) (stB h) (fun m x => pset m (x.room, x.id) true) (fun i m => ∀ y, Option.getD (pget m y) false = decide (y ∈ (prs h.stream).take i)) (by omega) (fun i m hi hm _ => by
  have hil : i < (prs h.stream).length := by rw [Ym2]; exact hi
  have etk : (prs h.stream).take (i + 1) = (prs h.stream).take i ++ [(h.stream[i].room, h.stream[i].id)] := by rw [List.take_add_one, List.getElem?_eq_getElem hil, Ym1 hi]; rfl
  refine ⟨?_, fun _ y => ?_⟩
  rotate_left
  ·
   rw [Y8b, etk]
   by_cases hy : y = (h.stream[i].room, h.stream[i].id)
   ·
    rw [if_pos hy, Option.getD_some]; simp [hy]
   ·
    rw [if_neg hy, hm]; simp [hy]
  have hw := Ydn hi (by omega : h.stream.length < 9223372036854775807)
  have hb : stB h i = stX h i h.stream[i] := by unfold stB; rw [dif_pos hi]
  rw [hb]
  simp only [Zfd]
  rw [dlt hi, cond_true, Ydm hi, Option.bind_some, Ydu, Option.bind_some]
  generalize h.stream[i] = x
  unfold stX
  by_cases hx : 1 ≤ x.room ∧ x.room ≤ 3
  rotate_left
  ·
   rw [decide_eq_false hx]; rfl
  rw [decide_eq_true hx, cond_true, hm, Bool.true_and]
  simp only [Zfc]
  cases decide ((x.room, x.id) ∈ (prs h.stream).take i) with
  | true => rfl
  | false =>
   rw [cond_false, Bool.not_false, Bool.true_and]
   obtain ⟨k, hk, k1, k2, k3⟩ := Ym9 h3 hx
   have hg := hro.right _ (List.getElem_mem hk)
   have hfl := hg.fits.len
   have hgr : (hiG h.rooms[k]).graph = h.rooms[k] := (Ylg hg).2.2.graph
   have e1 : Zey (Y95.mk h (h.rooms.map hiG)) x.room = some (hiG h.rooms[k]) := by
    unfold Zey
    rw [k2]
    show (getI (h.rooms.map hiG) (k : Int)).bind _ = _
    rw [Yky hiG hk]; rfl
   rw [e1, Option.bind_some, hgr, c_at _ _ hg.fits.up (by omega), Option.bind_some, k3]
   simp only [Zfb]
   cases hh : hasE h.rooms[k].events x.id with
   | false => rfl
   | true =>
    rw [cond_true, Bool.true_and, bned]
    show cond (!okB h.rooms[k] x.id) _ _ = _
    cases okB h.rooms[k] x.id with
    | false => rfl
    | true =>
     rw [Bool.not_true, cond_false, Bool.true_and]
     have hev : Option.getD (evAt h.rooms[k].events x.id) zEv = evD h.rooms[k].events x.id := rfl
     have hpl := (hg.walk.prev (Yj3.1 hh)).1
     rw [hev, Ymb hg hm _ (by omega), Option.bind_some]
     simp only [Zfa, hw]
     cases (evD h.rooms[k].events x.id).prev.all fun p => !okB h.rooms[k] p || decide ((x.room, p) ∈ (prs h.stream).take i) <;> rfl)
  (fun q _ => by simp only [Zfd]; rw [dnlt, cond_false]) (s := []) (fun y => by simp [pget])
 rcases this with ⟨a1, a2, _⟩ | ⟨a1, a2⟩
 ·
  exact .inl ⟨a1, a2⟩
 ·
  exact .inr ⟨a1, a2⟩

theorem Ymd {h : Y90} (hf : Ylw h) : ∃ b : Bool, (b = true ↔ OkI h) ∧ Zfi h = some (cond b (sOf h, true) (zS, false)) := by
 have hrl := hf.rl
 have hsl := hf.sl
 unfold Zfi
 by_cases h3 : (h.rooms.length : Int) = 3
 rotate_left
 ·
  refine ⟨false, ⟨fun x => (by cases x), fun x => absurd x.1 (by omega)⟩, ?_⟩
  rw [bned, decide_eq_false h3]; rfl
 by_cases hl : (h.stream.length : Int) > 120
 ·
  refine ⟨false, ⟨fun x => (by cases x), fun x => absurd x.2.1 (by omega)⟩, ?_⟩
  rw [bned, decide_eq_true h3, decide_eq_true hl]; rfl
 rw [bned, decide_eq_true h3, decide_eq_false hl]
 simp only [Bool.not_true, cond_false, Zfh]
 have hl' : h.stream.length ≤ 120 := by omega
 have h3' : h.rooms.length = 3 := by omega
 have := Yl5 (l := h.rooms) (step := fun z : List Y94 × Int × Int => Zfg h z.1 z.2.1 z.2.2) (fun (q : List Y94 × Int) j => (q.1, q.2, j)) (fun q => Sum.inr q) (Sum.inl (zS, false)) (rB h.rooms) (fun q g => (q.1 ++ [hiG g], q.2 + (Ym5 g : Int))) (fun i q => q.1.length = i ∧ 0 ≤ q.2 ∧ q.2 ≤ 60 * i) (by omega) (fun k q hk ⟨q1, q2, q3⟩ hp => by
  obtain ⟨_, b2, b3⟩ := Ylx (hf.fine _ (List.getElem_mem hk))
  have hw := Ydn hk (by omega : h.rooms.length < 9223372036854775807)
  have hb := Yly hk
  refine ⟨?_, fun ht => ?_⟩
  rotate_left
  ·
   rw [hb, Bool.and_eq_true] at ht
   have := Ym8 (b3.1 ht.1).right
   simp only [List.length_append, List.length_singleton]; omega
  simp only [Zfg]
  rw [dlt hk, cond_true, Ydm hk, Option.bind_some, b2, Option.bind_some, hb, hw, bned]
  cases hgB : gB h.rooms[k] with
  | false => rfl
  | true =>
   have hg := (b3.1 hgB).right
   obtain ⟨n1, _, n3⟩ := Ylg hg
   have hle := Ym8 hg
   have hac : Zew (hiG h.rooms[k]) = some (accT h.rooms[k].events (okB h.rooms[k])) := by
    have := Ykm (h := hiG h.rooms[k]) (by rw [n3.graph]; exact hg)
    rw [n3.graph] at this; exact this
   have hgt : getI (q.1 ++ [hiG h.rooms[k]]) (k : Int) = some (hiG h.rooms[k]) := Yfi (X := q.1) (Y := []) rfl q1.symm
   simp only [cond_true, Bool.true_and, Zff]
   by_cases hc : h.rooms[k].room = (k : Int) + 1
   ·
    rw [decide_eq_true hc, decide_eq_true (by omega), Bool.not_true, cond_false, n1, Option.bind_some, Y4j (decide_eq_true (by simp; omega)), Option.bind_some, hgt, Option.bind_some, hac, Option.bind_some, hw, Y4i (n := q.2 + ((accT h.rooms[k].events (okB h.rooms[k])).length : Int)) (by unfold Ym5 at hle; omega) (by unfold Ym5 at hle; omega)]
    rfl
   ·
    rw [decide_eq_false hc, decide_eq_false (by omega)]; rfl)
  (fun q _ => by simp only [Zfg]; rw [dnlt, cond_false]) (s := ([], 0)) ⟨rfl, by omega, by omega⟩
 rcases this with ⟨a1, a2, _⟩ | ⟨⟨i, hi, a1⟩, a2⟩
 rotate_left
 ·
  refine ⟨false, ⟨fun x => (by cases x), fun x => ?_⟩, ?_⟩
  ·
   have := (Ym0 hf).2 x.2.2.1 i hi
   rw [a1] at this; cases this
  ·
   have a2' : iter (fun z : List Y94 × Int × Int => Zfg h z.1 z.2.1 z.2.2) big ([], 0, 0) = some (Sum.inl (zS, false)) := a2
   rw [a2']; rfl
 have hro := (Ym0 hf).1 a1
 rw [Ym7] at a2
 have a2' : iter (fun z : List Y94 × Int × Int => Zfg h z.1 z.2.1 z.2.2) big ([], 0, 0) = some (Sum.inr (h.rooms.map hiG, 0 + (Ym6 h.rooms : Int))) := a2
 rw [a2', Option.bind_some]
 simp only [Zfe]
 rcases Ymc hro h3' hl' with ⟨s1, s2⟩ | ⟨⟨i, hi, s1⟩, s2⟩
 ·
  rw [s2, Option.bind_some]
  simp only [Zf9]
  rw [beqd]
  refine ⟨decide (0 + (Ym6 h.rooms : Int) = (h.stream.length : Int)), ?_, ?_⟩
  ·
   rw [decide_eq_true_eq]
   exact ⟨fun k => ⟨h3', hl', hro, s1, by omega⟩, fun k => by have := k.2.2.2.2; omega⟩
  ·
   cases decide (0 + (Ym6 h.rooms : Int) = (h.stream.length : Int)) <;> rfl
 ·
  rw [s2, Option.bind_some]
  exact ⟨false, ⟨fun x => (by cases x), fun x => by have := x.2.2.2.1 i hi; rw [s1] at this; cases this⟩, rfl⟩
end Go.Proofs.YtbgichfjcnibpaaGreat
namespace Go.Proofs.YtbgichfjcnibpaaGreat
open Go Go.Abs

def accG (g : Y8z) : List Pr := (accT g.events (okB g)).map fun id => (g.room, id)
def accA (l : List Y8z) : List Pr := l.flatMap accG
theorem Yme : ∀ l : List Y8z, (accA l).length = Ym6 l
 | [] => rfl
 | g :: l => by
  unfold accA Ym6
  rw [List.flatMap_cons, List.length_append, List.map_cons, List.sum_cons]
  show (accG g).length + (accA l).length = _
  rw [Yme l]
  unfold accG Ym5
  rw [List.length_map]; rfl
theorem Ymf {g : Y8z} {y : Pr} : y ∈ accG g ↔ y.1 = g.room ∧ hasE g.events y.2 = true ∧ okB g y.2 = true := by
 unfold accG accT
 rw [List.mem_map]
 constructor
 ·
  rintro ⟨id, h, rfl⟩
  obtain ⟨h1, h2⟩ := List.mem_filter.1 h
  exact ⟨rfl, Yj3.2 h1, h2⟩
 ·
  rintro ⟨h1, h2, h3⟩
  exact ⟨y.2, List.mem_filter.2 ⟨Yj3.1 h2, h3⟩, Prod.ext h1.symm rfl⟩
theorem Ylz.inj {h : Y90} (k : Ylz h) {g g' : Y8z} (hg : g ∈ h.rooms) (hg' : g' ∈ h.rooms) (e : g.room = g'.room) : g = g' := by
 obtain ⟨i, hi, rfl⟩ := List.mem_iff_getElem.1 hg
 obtain ⟨j, hj, rfl⟩ := List.mem_iff_getElem.1 hg'
 rw [(k i hi).2, (k j hj).2] at e
 obtain rfl : i = j := by omega
 rfl
theorem Ymg {h : Y90} (k : Ylz h) : (accA h.rooms).Nodup := by
 unfold accA
 rw [List.nodup_iff_pairwise_ne, List.pairwise_flatMap]
 constructor
 ·
  intro g hg
  unfold accG
  rw [List.pairwise_map]
  exact (Ykq (k.right g hg).fits _).imp fun {a b} h e => by have := (Prod.mk.inj e).2; omega
 ·
  rw [List.pairwise_iff_getElem]
  intro i j hi hj hij x hx y hy e
  have h1 := (Ymf.1 hx).1
  have h2 := (Ymf.1 hy).1
  rw [(k i hi).2] at h1
  rw [(k j hj).2] at h2
  rw [e] at h1
  omega
theorem Ymh {h : Y90} (k : Ylz h) {g : Y8z} (hg : g ∈ h.rooms) {id : Int} : (g.room, id) ∈ accA h.rooms ↔ hasE g.events id = true ∧ okB g id = true := by
 unfold accA
 rw [List.mem_flatMap]
 constructor
 ·
  rintro ⟨g', h1, h2⟩
  obtain ⟨h3, h4⟩ := Ymf.1 h2
  obtain rfl := k.inj hg h1 h3
  exact h4
 ·
  exact fun h' => ⟨g, hg, Ymf.2 ⟨rfl, h'⟩⟩

theorem Ymi {s : List Pr} {g : Y8z} (h : ∀ e ∈ g.events, okB g e.id = inS s g e) : Ylk s g = Ym5 g := by
 unfold Ylk Ym5 accT
 rw [List.filter_map, List.length_map]
 exact congrArg List.length (List.filter_congr fun e he => (h e he).symm)
theorem Ymj {s : List Pr} : ∀ {l : List Y8z}, (∀ g ∈ l, ∀ e ∈ g.events, okB g e.id = inS s g e) → Yll s l = Ym6 l
 | [], _ => rfl
 | g :: l, h => by
  unfold Yll Ym6
  rw [List.map_cons, List.map_cons, List.sum_cons, List.sum_cons, Ymi (h g (by simp))]
  have := Ymj (s := s) (l := l) fun g' hg' => h g' (by simp [hg'])
  unfold Yll Ym6 at this
  rw [this]

structure Ymk (h : Y90) : Prop where
 three : h.rooms.length = 3
 slen : h.stream.length ≤ 120
 rooms : Ylz h
 nodup : (prs h.stream).Nodup
 all : ∀ y, y ∈ prs h.stream ↔ y ∈ accA h.rooms

theorem OkI.hub {h : Y90} (k : OkI h) : Ymk h := by
 obtain ⟨h3, hl, hro, hst, hle⟩ := k
 have hX : ∀ (i : Nat) (hi : i < h.stream.length), stX h i h.stream[i] = true := fun i hi => by
  have := hst i hi
  unfold stB at this
  rwa [dif_pos hi] at this
 have hnd : (prs h.stream).Nodup := Ylc.2 fun i hi => by
  have hi' : i < h.stream.length := by rw [Ym2] at hi; exact hi
  have := hX i hi'
  unfold stX at this
  simp only [Bool.and_eq_true] at this
  rw [Ym1 hi']
  simpa using this.1.1.1.2
 have hsub : ∀ y ∈ prs h.stream, y ∈ accA h.rooms := fun y hy => by
  obtain ⟨i, hi, rfl⟩ := List.mem_iff_getElem.1 hy
  have hi' : i < h.stream.length := by rw [Ym2] at hi; exact hi
  have := hX i hi'
  unfold stX at this
  simp only [Bool.and_eq_true, decide_eq_true_eq] at this
  obtain ⟨k, hk, k1, _, k3⟩ := Ym9 h3 this.1.1.1.1
  rw [Ym1 hi']
  rw [k3] at this
  have hr : h.stream[i].room = h.rooms[k].room := by rw [(hro k hk).2]; exact k1
  rw [hr]
  exact (Ymh hro (List.getElem_mem hk)).2 ⟨this.1.1.2, this.1.2⟩
 refine ⟨h3, hl, hro, hnd, fun y => ⟨hsub y, Yle hnd hsub (by rw [Yme, Ym2]; omega) y⟩⟩

theorem Ymk.inS {h : Y90} (k : Ymk h) {g : Y8z} (hg : g ∈ h.rooms) {e : Y8w} (he : e ∈ g.events) : okB g e.id = inS (prs h.stream) g e := by
 unfold Go.Proofs.YtbgichfjcnibpaaGreat.inS
 rw [Bool.eq_iff_iff, decide_eq_true_eq, Yl7, k.all, Ymh k.rooms hg]
 exact ⟨fun h' => ⟨Yep.2 ⟨e, he, rfl⟩, h'⟩, fun h' => h'.2⟩

theorem Yml {h : Y90} : OkI h ↔ OkS h := by
 constructor
 ·
  intro k
  have hu := k.hub
  obtain ⟨h3, hl, hro, hst, hle⟩ := k
  refine ⟨h3, hl, hro, hu.nodup, fun g hg e he => ?_, by rw [Ymj fun g hg e he => hu.inS hg he]; exact hle⟩
  unfold strE
  rw [hu.inS hg he]
  cases hin : inS (prs h.stream) g e with
  | false => rfl
  | true =>
   simp only [beq_self_eq_true, Bool.not_true, Bool.false_or, Bool.true_and, List.all_eq_true, decide_eq_true_eq]
   intro p hp
   have hin' : 0 < posP (prs h.stream) (g.room, e.id) := by simpa [inS] using hin
   have hy := Yl7.1 hin'
   obtain ⟨i, hi, hiy⟩ := List.mem_iff_getElem.1 hy
   have hi' : i < h.stream.length := by rw [Ym2] at hi; exact hi
   have hpi : posP (prs h.stream) (g.room, e.id) = (i : Int) + 1 := by
    unfold posP; rw [if_pos hy, ← hiy, Ylb hu.nodup hi]
   have hx := hst i hi'
   unfold stB at hx
   rw [dif_pos hi'] at hx
   unfold stX at hx
   simp only [Bool.and_eq_true, decide_eq_true_eq] at hx
   rw [Ym1 hi'] at hiy
   obtain ⟨e1, e2⟩ := Prod.mk.inj hiy
   obtain ⟨k, hk, k1, _, k3⟩ := Ym9 h3 hx.1.1.1.1
   have hgk : h.rooms[k] = g := hro.inj (List.getElem_mem hk) hg (by rw [(hro k hk).2, ← k1, e1])
   rw [k3, hgk, e1, e2] at hx
   have hev : evD g.events e.id = e := by unfold evD; rw [(hro.right g hg).fits.up.evAt_mem he]; rfl
   rw [hev] at hx
   have hpp := List.all_eq_true.1 hx.2 p hp
   simp only [Bool.or_eq_true, Bool.not_eq_true', decide_eq_true_eq] at hpp
   rcases hpp with hpp | hpp
   ·
    have : (g.room, p) ∉ prs h.stream := fun hm => by
     have := ((Ymh hro hg).1 ((hu.all _).1 hm)).2
     rw [hpp] at this; cases this
    have h0 : posP (prs h.stream) (g.room, p) = 0 := by unfold posP; rw [if_neg this]
    omega
   ·
    have := ((Yl9 (by omega)).1 hpp).2
    omega
 ·
  rintro ⟨h3, hl, hro, hnd, hst, hma⟩
  have hok : ∀ g ∈ h.rooms, ∀ e ∈ g.events, okB g e.id = inS (prs h.stream) g e := fun g hg e he => by
   have := hst g hg e he
   unfold strE at this
   rw [Bool.and_eq_true] at this
   simpa using this.1
  have hle : Ym6 h.rooms = h.stream.length := by rw [← Ymj hok]; exact hma
  have hsub : ∀ y ∈ accA h.rooms, y ∈ prs h.stream := fun y hy => by
   unfold accA at hy
   obtain ⟨g, hg, hy⟩ := List.mem_flatMap.1 hy
   obtain ⟨h1, h2, h4⟩ := Ymf.1 hy
   obtain ⟨e, he, h5⟩ := Yep.1 h2
   have := hok g hg e he
   rw [h5, h4] at this
   have h6 : 0 < posP (prs h.stream) (g.room, e.id) := by simpa [inS] using this.symm
   have := Yl7.1 h6
   rw [h5, ← h1] at this
   exact this
  have hall := Yle (Ymg hro) hsub (by rw [Yme, Ym2]; omega)
  refine ⟨h3, hl, hro, fun i hi => ?_, hle⟩
  have hil : i < (prs h.stream).length := by rw [Ym2]; exact hi
  have hmem : (h.stream[i].room, h.stream[i].id) ∈ prs h.stream := by rw [← Ym1 hi hil]; exact List.getElem_mem _
  have hacc := hall _ hmem
  unfold accA at hacc
  obtain ⟨g, hg, hy⟩ := List.mem_flatMap.1 hacc
  obtain ⟨h1, h2, h4⟩ := Ymf.1 hy
  simp only at h1 h2 h4
  obtain ⟨k, hk, hkg⟩ := List.mem_iff_getElem.1 hg
  have hroom : g.room = (k : Int) + 1 := by rw [← hkg]; exact (hro k hk).2
  have hx : 1 ≤ h.stream[i].room ∧ h.stream[i].room ≤ 3 := by omega
  obtain ⟨k', hk', k1, _, k3⟩ := Ym9 h3 hx
  obtain rfl : k' = k := by omega
  rw [hkg] at k3
  have hnt := Ylc.1 hnd i hil
  rw [Ym1 hi] at hnt
  unfold stB
  rw [dif_pos hi]
  unfold stX
  rw [k3, h2, h4, decide_eq_true hx, decide_eq_false hnt]
  simp only [Bool.not_false, Bool.true_and, List.all_eq_true, Bool.or_eq_true, Bool.not_eq_true', decide_eq_true_eq]
  intro p hp
  cases hop : okB g p with
  | false => exact .inl rfl
  | true =>
   right
   have hr := hro.right g hg
   obtain ⟨_, e2, e3⟩ := Yit (Yj3.1 h2) hr.fits.up
   have hse := hst g hg _ e2
   unfold strE at hse
   rw [Bool.and_eq_true] at hse
   have hine : inS (prs h.stream) g (evD g.events h.stream[i].id) = true := by rw [← hok g hg _ e2, e3]; exact h4
   rw [hine] at hse
   simp only [Bool.not_true, Bool.false_or, List.all_eq_true, decide_eq_true_eq] at hse
   have hlt := hse.2 p hp
   rw [e3, ← h1] at hlt
   have hpi : posP (prs h.stream) (h.stream[i].room, h.stream[i].id) = (i : Int) + 1 := by
    unfold posP; rw [if_pos hmem]
    have := Ylb hnd hil
    rw [Ym1 hi] at this
    rw [this]
   obtain ⟨ep, hep, hepi⟩ := Yep.1 (hr.fits.whole _ e2 p hp)
   have hinp := hok g hg ep hep
   rw [hepi, hop] at hinp
   have h7 : 0 < posP (prs h.stream) (g.room, ep.id) := by simpa [inS] using hinp.symm
   rw [hepi, ← h1] at h7
   exact (Yl9 (by omega)).2 ⟨h7, by omega⟩

theorem Ymm {h : Y90} (hf : Ylw h) : ∃ b : Bool, (b = true → Ymk h) ∧ Z6z h = some (cond b (wOf h, true) (zW, false)) ∧ Zfi h = some (cond b (sOf h, true) (zS, false)) := by
 obtain ⟨b, b1, b2⟩ := Ym4 hf
 obtain ⟨c, c1, c2⟩ := Ymd hf
 have : b = c := by rw [Bool.eq_iff_iff, b1, c1]; exact Yml.symm
 subst this
 exact ⟨b, fun x => (c1.1 x).hub, b2, c2⟩
end Go.Proofs.YtbgichfjcnibpaaGreat
namespace Go.Proofs.YtbgichfjcnibpaaGreat
open Go Go.Abs


def wtG {α : Type} (n : α → Nat) (l : List α) : Nat := (l.map n).sum
theorem Ymn {α : Type} (n : α → Nat) {l : List α} {i : Nat} (hi : i < l.length) : wtG n (l.take (i + 1)) = wtG n (l.take i) + n l[i] := by
 rw [List.take_add_one, List.getElem?_eq_getElem hi]
 show ((List.take i l ++ [l[i]]).map n).sum = ((List.take i l).map n).sum + n l[i]
 rw [List.map_append, List.sum_append]
 simp only [List.map_cons, List.map_nil, List.sum_cons, List.sum_nil, Nat.add_zero]
def nG (g : Y8x) : Nat := g.events.length + g.parked.length
def nG' (g : Y8z) : Nat := g.events.length + g.parked.length

structure HIn (h : THub) : Prop where
 rl : h.rooms.length ≤ maxLen
 rg : ∀ g ∈ h.rooms, GIn g
 sl : h.stream.length ≤ maxLen
structure Ymo (h : THub) : Prop where
 rl : h.rooms.length ≤ 1048576
 rg : ∀ g ∈ h.rooms, Yjz g.events ∧ Yjz g.parked
 wt : wtG nG h.rooms ≤ 1048576
 sl : h.stream.length ≤ 1048576

theorem Ymp (p : List Y8x) (n : Int) (hl : p.length ≤ maxLen) (hp : ∀ g ∈ p, GIn g) (h0 : 0 ≤ n) (hn : n ≤ 1048576) : ∃ r, Zd p n = some r ∧ ((0 ≤ r ∧ r + (p.length + wtG nG p : Nat) ≤ n ∧ ∀ g ∈ p, Yjz g.events ∧ Yjz g.parked) ∨ r = -1) := by
 simp only [maxLen] at hl
 unfold Zd
 rw [Y4i (by omega) (by omega)]
 by_cases h : n - (p.length : Int) < 0
 ·
  rw [decide_eq_true h]; exact ⟨_, rfl, .inr rfl⟩
 ·
  rw [decide_eq_false h, cond_false]
  obtain ⟨o, h1, h2⟩ := Ydl (τ := Int × Int) (ω := Int ⊕ Int) (σ := Int) (step := fun z : Int × Int => Zc p z.1 z.2) (n := p.length) (fun s j => (s, j))
   (fun i s => 0 ≤ s ∧ s + (p.length + wtG nG (p.take i) : Nat) ≤ n ∧ ∀ (j : Nat) (hj : j < p.length), j < i → Yjz p[j].events ∧ Yjz p[j].parked) (fun o => o = .inl (-1) ∨ ∃ r, o = .inr r ∧ 0 ≤ r ∧ r + (p.length + wtG nG p : Nat) ≤ n ∧ ∀ g ∈ p, Yjz g.events ∧ Yjz g.parked) (by omega) (by
   rintro i s hi ⟨hs0, hsn, hI⟩
   obtain ⟨r, e1, e2⟩ := Yk1 p[i] s (hp _ (List.getElem_mem hi)) hs0 (by omega)
   simp only [Zc]
   rw [dlt hi, cond_true, Ydm hi, Option.bind_some, e1, Option.bind_some, Ydn hi (by omega)]
   rcases e2 with ⟨e2, e3, e4⟩ | rfl
   ·
    rw [decide_eq_false (by omega), cond_false]
    refine .inl ⟨r, rfl, e2, by have hng : nG p[i] = p[i].events.length + p[i].parked.length := rfl; rw [Ymn nG hi]; omega, fun j hj hji => ?_⟩
    rcases Nat.lt_or_ge j i with h | h
    ·
     exact hI j hj h
    ·
     obtain rfl : j = i := by omega
     exact e4
   ·
    exact .inr ⟨_, rfl, .inl rfl⟩) (by
   rintro s ⟨hs0, hsn, hI⟩
   simp only [Zc]
   rw [dnlt, cond_false]
   rw [List.take_length] at hsn
   refine ⟨_, rfl, .inr ⟨s, rfl, hs0, hsn, fun e he => ?_⟩⟩
   obtain ⟨j, hj, rfl⟩ := List.mem_iff_getElem.1 he
   exact hI j hj hj) (s := n - (p.length : Int)) ⟨by omega, by simp [wtG], fun j hj h => by omega⟩
  rw [h1, Option.bind_some]
  rcases h2 with rfl | ⟨r, rfl, h3⟩
  ·
   exact ⟨_, rfl, .inr rfl⟩
  ·
   exact ⟨_, rfl, .inl h3⟩

theorem Ymq (h : THub) (n : Int) (hh : HIn h) (h0 : 0 ≤ n) (hn : n ≤ 1048576) : ∃ r, Zh h n = some r ∧ ((0 ≤ r ∧ r ≤ n ∧ Ymo h) ∨ r = -1) := by
 have hsl := hh.sl
 simp only [maxLen] at hsl
 unfold Zh
 obtain ⟨r, h1, h2⟩ := Ymp h.rooms n hh.rl hh.rg h0 hn
 rw [h1, Option.bind_some]
 rcases h2 with ⟨h2, h3, h4⟩ | rfl
 ·
  rw [decide_eq_false (by omega), cond_false]
  unfold Zf
  rw [Y4i (by omega) (by omega)]
  by_cases h5 : r - (h.stream.length : Int) < 0
  ·
   rw [decide_eq_true h5]; exact ⟨_, rfl, .inr rfl⟩
  ·
   rw [decide_eq_false h5, cond_false, Option.bind_some, decide_eq_false h5]
   exact ⟨_, rfl, .inl ⟨by omega, by omega, by omega, h4, by omega, by omega⟩⟩
 ·
  exact ⟨_, rfl, .inr rfl⟩


def toH (h : THub) : Y90 := ⟨h.rooms.map toG, h.stream⟩
theorem Ymr (p : List Y8x) (hl : p.length ≤ 1048576) (hp : ∀ g ∈ p, Yjz g.events ∧ Yjz g.parked) : Zx p = some (p.map toG) := by
 unfold Zx
 rw [Y4j (decide_eq_true ⟨by omega, by omega⟩), Option.bind_some, Int.toNat_natCast]
 rw [Yk2 (xs := p) toG (by omega) (fun i s hi hs => by
  have := hp _ (List.getElem_mem hi)
  simp only [Zw]
  rw [dlt hi, cond_true, Ydm hi, Option.bind_some, Yk6 _ this.1 this.2, Option.bind_some, Ydm (by omega : i < s.length), Option.bind_some, Ydn hi (by omega), Int.toNat_natCast]) (fun s => by simp only [Zw]; rw [dnlt, cond_false])]
 rfl
theorem Yms (p : List Y8y) (hl : p.length ≤ 1048576) : Z13 p = some p := by
 unfold Z13
 rw [Y4j (decide_eq_true ⟨by omega, by omega⟩), Option.bind_some, Int.toNat_natCast]
 rw [Yk2 (xs := p) (fun x => x) (by omega) (fun i s hi hs => by
  simp only [Z12]
  rw [dlt hi, cond_true, Ydm hi, Option.bind_some]
  unfold Zz
  rw [Option.bind_some, Ydm (by omega : i < s.length), Option.bind_some, Ydn hi (by omega), Int.toNat_natCast]) (fun s => by simp only [Z12]; rw [dnlt, cond_false])]
 simp [Z11]
theorem Ymt (h : THub) (hs : Ymo h) : Z15 h = some (toH h) := by
 unfold Z15
 rw [Ymr _ hs.rl hs.rg, Option.bind_some, Yms _ hs.sl]; rfl


theorem Ymu (p : List Y8z) (hl : p.length ≤ 1048576) (hp : ∀ g ∈ p, Yjz g.events ∧ Yjz g.parked) : Zi1 p p = some true := by
 unfold Zi1
 rw [bned, decide_eq_true rfl]
 simp only [Bool.not_true, cond_false]
 rw [Ye2 (l := p) (fun _ => true) (.inl false) (.inr ()) (by omega) (fun i hi => by
  have := hp _ (List.getElem_mem hi)
  simp only [Zi0]
  rw [dlt hi, cond_true, Ydm hi, Option.bind_some, Option.bind_some, Ykb _ this.1 this.2, Option.bind_some, Ydn hi (by omega)]; rfl) (by simp only [Zi0]; rw [dnlt, cond_false])]
 rw [show (p.all fun _ => true) = true by simp]; rfl
theorem Ymv (p : List Y8y) (hl : p.length ≤ 1048576) : Zi7 p p = some true := by
 unfold Zi7
 rw [bned, decide_eq_true rfl]
 simp only [Bool.not_true, cond_false]
 rw [Ye2 (l := p) (fun _ => true) (.inl false) (.inr ()) (by omega) (fun i hi => by
  simp only [Zi6]
  rw [dlt hi, cond_true, Ydm hi, Option.bind_some, Option.bind_some, show Zi3 p[i] p[i] = some true by simp [Zi3], Option.bind_some, Ydn hi (by omega)]; rfl) (by simp only [Zi6]; rw [dnlt, cond_false])]
 rw [show (p.all fun _ => true) = true by simp]; rfl
theorem Ymw {h : THub} (hs : Ymo h) : ∀ g ∈ (toH h).rooms, Yjz g.events ∧ Yjz g.parked := fun g hg => by
 obtain ⟨g0, h1, rfl⟩ := List.mem_map.1 hg
 exact hs.rg g0 h1
theorem Ymx {h : THub} (hs : Ymo h) : Zi9 (toH h) (toH h) = some true := by
 unfold Zi9
 rw [Ymu _ (by show (h.rooms.map toG).length ≤ _; rw [List.length_map]; exact hs.rl) (Ymw hs), Option.bind_some, cond_true]
 show (Zi7 h.stream h.stream).bind _ = _
 rw [Ymv _ hs.sl]; rfl
theorem w1 (x : Int) (h0 : 0 ≤ x) (h1 : x ≤ 1000000000000000) : IntKind.i64.wrap (x + 1) = x + 1 := Y4i (by omega) (by omega)

theorem Ymy (p : List Y8z) (n : Int) (hl : p.length ≤ 1048576) (hp : ∀ g ∈ p, Yjz g.events ∧ Yjz g.parked) (hw : wtG nG' p ≤ 1048576) (h0 : 0 ≤ n) (hn : n ≤ 1000000) : ∃ r, Zip p n = some r ∧ 0 ≤ r.1 ∧ r.1 ≤ 10000000000000 := by
 unfold Zip
 obtain ⟨o, e1, e2⟩ := Ydk (τ := List Y8z × Int × Int) (ω := Int × List Y8z) (σ := List Y8z × Int) (step := fun z : List Y8z × Int × Int => Zio z.1 z.2.1 z.2.2) (n := p.length) (fun s j => (s.1, s.2, j)) (fun i s => s.1.length = p.length ∧ s.1.drop i = p.drop i ∧ 0 ≤ s.2 ∧ s.2 ≤ n + i + (wtG nG' (p.take i) : Int) * 2000000) (fun o => 0 ≤ o.1 ∧ o.1 ≤ 10000000000000) (by omega) (by
  rintro i ⟨l, k⟩ hi ⟨hll, hd, hk0, hk⟩
  simp only at hll hd hk0 hk
  have hil : i < l.length := by omega
  have hli : l[i] = p[i] := by
   have := congrArg (fun x : List Y8z => x[0]?) hd
   simpa [List.getElem?_drop, hil, hi] using this
  have hwt := Ymn nG' hi
  have hle : wtG nG' (p.take (i + 1)) ≤ wtG nG' p := by
   have e := List.take_append_drop (i + 1) p
   have : wtG nG' p = wtG nG' (p.take (i + 1)) + wtG nG' (p.drop (i + 1)) := by
    conv => lhs; rw [← e]
    unfold wtG; rw [List.map_append, List.sum_append]
   omega
  have hsm := hp _ (List.getElem_mem hi)
  obtain ⟨r, a1, a2, a3⟩ := Ykk p[i].events (k + 1) hsm.1 (by omega) (by omega)
  have hng : nG' p[i] = p[i].events.length + p[i].parked.length := rfl
  obtain ⟨r', b1, b2, b3⟩ := Ykk p[i].parked r.1 hsm.2 a2 (by omega)
  simp only [Zio]
  rw [decide_eq_true (by omega : (i : Int) < (l.length : Int)), cond_true, Ydm hil, Option.bind_some, w1 k hk0 (by omega)]
  simp only [Int.toNat_natCast, Ykj, List.length_set, hil, Option.bind_some, hli, a1, b1, Ydn hi (by omega : p.length < 9223372036854775807)]
  refine ⟨(_, _), rfl, by simp [hll], ?_, b2, by show r'.1 ≤ n + ((i + 1 : Nat) : Int) + (wtG nG' (p.take (i + 1)) : Int) * 2000000; omega⟩
  simp only
  rw [List.drop_set_of_lt (by omega), List.drop_set_of_lt (by omega), List.drop_set_of_lt (by omega)]
  have := congrArg (List.drop 1) hd
  rwa [List.drop_drop, List.drop_drop] at this) (by
  rintro ⟨l, k⟩ ⟨hll, _, hk0, hk⟩
  simp only at hll hk0 hk
  simp only [Zio]
  rw [hll, dnlt, cond_false]
  rw [List.take_length] at hk
  exact ⟨_, rfl, hk0, by simp only; omega⟩) (s := (p, n)) ⟨rfl, rfl, h0, by simp [wtG]⟩
 rw [e1, Option.bind_some]
 exact ⟨_, rfl, e2⟩

theorem Ymz (p : List Y8y) (n : Int) (hl : p.length ≤ 1048576) (h0 : 0 ≤ n) (hn : n ≤ 10000000000000) : ∃ r, Zit p n = some r ∧ 0 ≤ r.1 ∧ r.1 ≤ n + 2 * p.length := by
 unfold Zit
 obtain ⟨o, e1, e2⟩ := Ydk (τ := List Y8y × Int × Int) (ω := Int × List Y8y) (σ := List Y8y × Int) (step := fun z : List Y8y × Int × Int => Zis z.1 z.2.1 z.2.2) (n := p.length) (fun s j => (s.1, s.2, j)) (fun i s => s.1.length = p.length ∧ 0 ≤ s.2 ∧ s.2 ≤ n + 2 * i) (fun o => 0 ≤ o.1 ∧ o.1 ≤ n + 2 * p.length) (by omega) (by
  rintro i ⟨l, k⟩ hi ⟨hll, hk0, hk⟩
  simp only at hll hk0 hk
  have hil : i < l.length := by omega
  simp only [Zis]
  rw [decide_eq_true (by omega : (i : Int) < (l.length : Int)), cond_true, Ydm hil, Option.bind_some, w1 k hk0 (by omega), w1 (k + 1) (by omega) (by omega)]
  simp only [Int.toNat_natCast, Ykj, hil, Option.bind_some, Ydn hi (by omega : p.length < 9223372036854775807)]
  exact ⟨(_, _), rfl, by simp [hll], by simp only; omega, by simp only; omega⟩) (by
  rintro ⟨l, k⟩ ⟨hll, hk0, hk⟩
  simp only at hll hk0 hk
  simp only [Zis]
  rw [hll, dnlt, cond_false]
  exact ⟨_, rfl, hk0, hk⟩) (s := (p, n)) ⟨rfl, h0, by simp⟩
 rw [e1, Option.bind_some]
 exact ⟨_, rfl, e2⟩

theorem Yn0 {h : THub} (hs : Ymo h) (n : Int) (h0 : 0 ≤ n) (hn : n ≤ 1000000) : ∃ r, Ziv (toH h) n = some r ∧ 0 ≤ r.1 ∧ r.1 ≤ 10000002097152 := by
 have hwt : wtG nG' (toH h).rooms = wtG nG h.rooms := by
  show wtG nG' (h.rooms.map toG) = _
  unfold wtG
  rw [List.map_map]; rfl
 have hsl := hs.sl
 obtain ⟨r, a1, a2, a3⟩ := Ymy (toH h).rooms n (by show (h.rooms.map toG).length ≤ _; rw [List.length_map]; exact hs.rl) (Ymw hs) (by rw [hwt]; exact hs.wt) h0 hn
 obtain ⟨r', b1, b2, b3⟩ := Ymz h.stream r.1 hs.sl a2 a3
 unfold Ziv
 rw [a1, Option.bind_some]
 show ∃ x, (Zit h.stream r.1).bind _ = some x ∧ _
 rw [b1]
 exact ⟨_, rfl, b2, by simp only; omega⟩

end Go.Proofs.YtbgichfjcnibpaaGreat
namespace Go.Proofs.YtbgichfjcnibpaaGreat
open Go Go.Abs

structure Yn1 (h : Y90) (r : Int) (k : Nat) : Prop where
 lt : k < h.rooms.length
 wrap : IntKind.i64.wrap (r - 1) = (k : Int)
 rm : ∀ hk : k < h.rooms.length, rmG h r = h.rooms[k]
 mem : rmG h r ∈ h.rooms
 room : (rmG h r).room = r
 right : Yjr (rmG h r)
 hist : getI (sOf h).rooms (k : Int) = some (hiG (rmG h r))
 gr : getI (wOf h).h.rooms (k : Int) = some (rmG h r)
 kn : getI (wOf h).rooms (k : Int) = some (knG (rmG h r))
 pos : getI (wOf h).pos (k : Int) = some (posG (prs h.stream) (rmG h r))
 now : getI (wOf h).now (k : Int) = some (nowG (rmG h r))
 both : Both (rmG h r) (hiG (rmG h r)) (knG (rmG h r))
 graph : (hiG (rmG h r)).graph = rmG h r
theorem Ymk.room {h : Y90} (u : Ymk h) {r : Int} (hr : 1 ≤ r ∧ r ≤ 3) : ∃ k, Yn1 h r k := by
 obtain ⟨k, hk, k1, k2, k3⟩ := Ym9 u.three hr
 have hg : Yjr (rmG h r) := by rw [k3]; exact u.rooms.right _ (List.getElem_mem hk)
 have hb := (Ylg hg).2.2
 refine ⟨k, hk, k2, fun _ => k3, by rw [k3]; exact List.getElem_mem hk, by rw [k3, (u.rooms k hk).2]; exact k1.symm, hg, ?_, ?_, ?_, ?_, ?_, hb, hb.graph⟩
 ·
  rw [k3]; exact Yky hiG hk
 ·
  rw [k3]; exact Ydm hk
 ·
  rw [k3]; exact Yky knG hk
 ·
  rw [k3]; exact Yky _ hk
 ·
  rw [k3]; exact Yky nowG hk

end Go.Proofs.YtbgichfjcnibpaaGreat
namespace Go.Proofs.YtbgichfjcnibpaaGreat
open Go Go.Abs

theorem EvOk.sight {e : Y8w} (h : EvOk e) (hk : e.kind = 6) : 1 ≤ e.n ∧ e.n ≤ 3 := by
 have := h.body
 unfold Yea Z1t Z1l Z1m Z1n Z1o Z1p Z1q Z1r Z1s at this
 simp only [Yds, Ydq, Ydr, Option.bind_some, hk] at this
 by_cases h1 : 1 ≤ e.n ∧ e.n ≤ 3
 ·
  exact h1
 ·
  simp [h1] at this

def sgt (l : List Y8w) (s : List Y91) : Int := match cur l s 6 0 with
 | some e => e.n
 | none => 2

theorem Yn2 {g : Y8z} (hr : Yjr g) {s : List Y91} (hs : StOk g.events s) : Z73 g s = some (sgt g.events s) ∧ Zfo g s = some (sgt g.events s) := by
 have h := hr.sts hs
 unfold Z73 Zfo sgt
 rw [Yhk h.ids h.len h.ok h.sl, Yhi h.up h.len h.ok.up h.sl, Option.bind_some, Option.bind_some]
 cases hc : cur g.events s 6 0 with
 | none => exact ⟨rfl, rfl⟩
 | some e =>
  have hk : e.kind = 6 ∧ e ∈ g.events := by
   unfold cur at hc
   rcases Yhf s 6 0 with ⟨h0, _⟩ | ⟨x, hx, h1, _, h2⟩
   ·
    rw [h0, no0 h.ids (Int.le_refl 0)] at hc; cases hc
   ·
    obtain ⟨e', k1, k2, _⟩ := hs.ev x hx
    rw [h2, k1] at hc
    cases hc
    exact ⟨k2.trans h1, (Yeq k1).1⟩
  have := (hr.ev e hk.2).sight hk.1
  simp only [Option.getD_some, Option.isSome_some, cond_true]
  rw [beqd, decide_eq_false (by omega)]
  exact ⟨rfl, trivial⟩


theorem Yn3 {h : Y90} (u : Ymk h) (r id : Int) : Zh2 (sOf h) r id = some (posP (prs h.stream) (r, id)) := by
 have hsl := u.slen
 unfold Zh2 Zfm
 show ((iter (Zfl h.stream (Y8y.mk r id)) big 0).bind _).bind _ = _
 rw [Ye5 (Ye0 (l := h.stream) (step := Zfl h.stream (Y8y.mk r id)) (fun x => decide ((x.room, x.id) = (r, id))) (by omega) (fun i hi => by
  simp only [Zfl]
  rw [dlt hi, cond_true, Ydm hi, Option.bind_some, eqSp, Ydn hi (by omega)]
  cases decide ((h.stream[i].room, h.stream[i].id) = (r, id)) <;> rfl) (by simp only [Zfl]; rw [dnlt, cond_false])) (fun _ => rfl) rfl, Option.bind_some]
 unfold idxP
 cases hf : h.stream.findIdx? (fun x => decide ((x.room, x.id) = (r, id))) with
 | none =>
  rw [List.findIdx?_eq_none_iff] at hf
  have : (r, id) ∉ prs h.stream := fun hm => by
   obtain ⟨x, hx, e⟩ := List.mem_map.1 hm
   have := hf x hx
   rw [decide_eq_false_iff_not] at this
   exact this e
  unfold posP
  rw [if_neg this]; rfl
 | some k =>
  obtain ⟨hk, hp, _⟩ := List.findIdx?_eq_some_iff_getElem.1 hf
  rw [decide_eq_true_eq] at hp
  have hkl : k < (prs h.stream).length := by rw [Ym2]; exact hk
  have e : (prs h.stream)[k] = (r, id) := by rw [Ym1 hk]; exact hp
  have hm : (r, id) ∈ prs h.stream := by rw [← e]; exact List.getElem_mem _
  have hi := Ylb u.nodup hkl
  rw [e] at hi
  unfold posP
  rw [if_pos hm, hi]
  simp only
  rw [Y4i (by omega) (by omega)]


def seeE (g : Y8z) (user : Int) (e : Y8w) : Bool :=
 decide (mbr g.events (behI (hiG g).after e.id) user = 1) || decide (sgt g.events (behI (hiG g).after e.id) = 1) || (decide (e.kind = 2) && decide (e.key = user)) || (decide (sgt g.events (behI (hiG g).after e.id) = 2) && decide (mbr g.events (nowG g) user = 1))
def seeB (h : Y90) (user r id : Int) : Bool := decide ((r, id) ∈ prs h.stream) && seeE (rmG h r) user (evD (rmG h r).events id)

theorem Ymk.event {h : Y90} (u : Ymk h) {r : Int} {k : Nat} (q : Yn1 h r k) {id : Int} (hm : (r, id) ∈ prs h.stream) : evAt (rmG h r).events id = some (evD (rmG h r).events id) ∧ evD (rmG h r).events id ∈ (rmG h r).events ∧ (evD (rmG h r).events id).id = id := by
 have hm' := (u.all _).1 hm
 rw [← q.room] at hm'
 exact Yit (Yj3.1 ((Ymh u.rooms q.mem).1 hm').1) q.right.fits.up

theorem Yn4 {g : Y8z} (hr : Yjr g) : StOk g.events (nowG g) := (Yl2 (Ylg hr).2.2 hr (okB g)).2

theorem Yn5 {g : Y8z} (hr : Yjr g) : Zh0 (hiG g) = some (nowG g) := by
 have hb := (Ylg hr).2.2
 have hr' : Yjr (hiG g).graph := by rw [hb.graph]; exact hr
 have hac : Zew (hiG g) = some (accT g.events (okB g)) := by
  have := Ykm (h := hiG g) hr'
  rw [hb.graph] at this; exact this
 have hen : Zgc (hiG g) (accT g.events (okB g)) = some (endsT g.events (okB g)) := by
  have := Yku (h := hiG g) (ids := accT g.events (okB g)) (T := okB g) hr' ((Ykq hr.fits _).imp fun {a b} h => by omega) (fun x => by rw [hb.graph])
  rw [hb.graph] at this; exact this
 unfold Zh0 Zge
 rw [hac, Option.bind_some, hen]
 exact (Yl2 hb hr (okB g)).1

theorem Yn6 {h : Y90} (u : Ymk h) (user : Int) {r : Int} (hr : 1 ≤ r ∧ r ≤ 3) : Zh6 (sOf h) user r = some (decide (mbr (rmG h r).events (nowG (rmG h r)) user = 1)) := by
 obtain ⟨k, q⟩ := u.room hr
 have e1 : Zh4 (sOf h) r = some (hiG (rmG h r)) := by unfold Zh4; rw [q.wrap, q.hist]; rfl
 unfold Zh6
 rw [e1, Option.bind_some, Yn5 q.right, Option.bind_some, q.graph, Yhl (q.right.sts (Yn4 q.right)), Option.bind_some, beqd]

theorem Yn7 {h : Y90} (u : Ymk h) (user : Int) {r : Int} (id : Int) (hr : 1 ≤ r ∧ r ≤ 3) : Zha (sOf h) user r id = some (seeB h user r id) := by
 obtain ⟨k, q⟩ := u.room hr
 have hfl := q.right.fits.len
 have e1 : Zh4 (sOf h) r = some (hiG (rmG h r)) := by unfold Zh4; rw [q.wrap, q.hist]; rfl
 unfold Zha seeB
 rw [Yn3 u, Option.bind_some, beqd]
 by_cases hm : (r, id) ∈ prs h.stream
 rotate_left
 ·
  have h0 : posP (prs h.stream) (r, id) = 0 := by unfold posP; rw [if_neg hm]
  rw [decide_eq_true h0, decide_eq_false hm]; rfl
 have h0 : ¬ posP (prs h.stream) (r, id) = 0 := fun e => by have := Yl7.2 hm; omega
 rw [decide_eq_false h0, decide_eq_true hm, cond_false, e1, Option.bind_some, q.graph, c_at _ _ q.right.fits.up (by omega), Option.bind_some]
 obtain ⟨v1, v2, v3⟩ := u.event q hm
 have hst := (q.both.behind q.right v2).2
 rw [v3] at hst
 have hmb := Yhl (q.right.sts hst) user
 have hsg := (Yn2 q.right hst).2
 have hgd : Option.getD (mget (hiG (rmG h r)).after id) ([] : List Y91) = behI (hiG (rmG h r)).after id := rfl
 rw [hgd, hmb, Option.bind_some, hsg, Option.bind_some]
 simp only [Zh9, Zh8]
 rw [q.graph, hgd, hsg, Option.bind_some, Yn6 u user hr, Option.bind_some]
 have hev : Option.getD (evAt (rmG h r).events id) zEv = evD (rmG h r).events id := rfl
 rw [hev]
 unfold seeE
 rw [v3]
 simp only [beqd, Bool.true_and]
 cases decide (mbr (rmG h r).events (behI (hiG (rmG h r)).after id) user = 1) <;> cases decide (sgt (rmG h r).events (behI (hiG (rmG h r)).after id) = 1) <;> cases decide ((evD (rmG h r).events id).kind = 2) <;> cases decide ((evD (rmG h r).events id).key = user) <;> cases decide (sgt (rmG h r).events (behI (hiG (rmG h r)).after id) = 2) <;> rfl

theorem Yn8 {h : Y90} (u : Ymk h) (user : Int) {r : Int} (hr : 1 ≤ r ∧ r ≤ 3) {k : Nat} (hk : k < (rmG h r).events.length) : Z77 (wOf h) user r (k : Int) = some (seeB h user r (rmG h r).events[k].id) := by
 obtain ⟨j, q⟩ := u.room hr
 have hfl := q.right.fits.len
 have hkp : k < (posG (prs h.stream) (rmG h r)).length := by unfold posG; rw [List.length_map]; exact hk
 have hem := List.getElem_mem hk
 unfold Z77 seeB
 rw [q.wrap, q.pos, Option.bind_some, Ydm hkp, Option.bind_some, Ylh hk, q.room, beqd]
 by_cases hm : (r, (rmG h r).events[k].id) ∈ prs h.stream
 rotate_left
 ·
  have h0 : posP (prs h.stream) (r, (rmG h r).events[k].id) = 0 := by unfold posP; rw [if_neg hm]
  rw [decide_eq_true h0, decide_eq_false hm]; rfl
 have h0 : ¬ posP (prs h.stream) (r, (rmG h r).events[k].id) = 0 := fun e => by have := Yl7.2 hm; omega
 have hev : evD (rmG h r).events (rmG h r).events[k].id = (rmG h r).events[k] := by unfold evD; rw [(q.right.fits.up.plc hk).2]; rfl
 obtain ⟨b1, hst⟩ := q.both.behind q.right hem
 rw [(q.right.fits.up.plc hk).1] at b1
 have hmb := Yhm (q.right.sts hst) user
 have hsg := (Yn2 q.right hst).1
 have hnm := Yhm (q.right.sts (Yn4 q.right)) user
 rw [decide_eq_false h0, decide_eq_true hm, cond_false, q.gr, Option.bind_some, q.kn, Option.bind_some, b1, Option.bind_some, Ydm hk, Option.bind_some, hsg, Option.bind_some, hmb, Option.bind_some]
 simp only [Z76, Z75]
 rw [q.wrap, q.now, Option.bind_some, hnm, Option.bind_some, hev]
 unfold seeE
 simp only [beqd, Bool.true_and]
 cases decide (mbr (rmG h r).events (behI (hiG (rmG h r)).after (rmG h r).events[k].id) user = 1) <;> cases decide (sgt (rmG h r).events (behI (hiG (rmG h r)).after (rmG h r).events[k].id) = 1) <;> cases decide ((rmG h r).events[k].kind = 2) <;> cases decide ((rmG h r).events[k].key = user) <;> cases decide (sgt (rmG h r).events (behI (hiG (rmG h r)).after (rmG h r).events[k].id) = 2) <;> rfl
end Go.Proofs.YtbgichfjcnibpaaGreat
namespace Go.Proofs.YtbgichfjcnibpaaGreat
open Go Go.Abs

def spA (h : Y90) (i : Nat) : Y8y := h.stream.getD i ⟨0, 0⟩
theorem Yn9 {h : Y90} {i : Nat} (hi : i < h.stream.length) : spA h i = h.stream[i] := by
 unfold spA
 rw [List.getD_eq_getElem?_getD, List.getElem?_eq_getElem hi]; rfl
def visB (h : Y90) (user r : Int) (i : Nat) : Bool := decide ((spA h i).room = r) && seeB h user r (spA h i).id
def visI (h : Y90) (user r : Int) : List Nat := (List.range h.stream.length).filter (visB h user r)
theorem Yna {h : Y90} {user r : Int} {i : Nat} (hi : i ∈ visI h user r) : i < h.stream.length ∧ (spA h i).room = r ∧ seeB h user r (spA h i).id = true := by
 obtain ⟨h1, h2⟩ := List.mem_filter.1 hi
 unfold visB at h2
 rw [Bool.and_eq_true, decide_eq_true_eq] at h2
 exact ⟨by simpa using h1, h2.1, h2.2⟩
theorem Ynb {h : Y90} (u : Ymk h) (user r : Int) : (visI h user r).length ≤ 120 := by
 have := List.length_filter_le (visB h user r) (List.range h.stream.length)
 rw [List.length_range] at this
 have := u.slen
 unfold visI; omega

theorem Ync {α β : Type} (p : α → Bool) (f : α → β) : ∀ (l : List α) (q : List β), l.foldl (fun q x => if p x = true then q ++ [f x] else q) q = q ++ (l.filter p).map f
 | [], q => by simp
 | x :: l, q => by
  rw [List.foldl_cons, Ync p f l]
  cases h : p x with
  | true => rw [if_pos rfl, List.filter_cons_of_pos h]; simp
  | false => rw [if_neg (by simp), List.filter_cons_of_neg (by simp [h])]


theorem Ynd {h : Y90} (u : Ymk h) (user : Int) {r : Int} (lo hi' : Int) (hr : 1 ≤ r ∧ r ≤ 3) :
  Zhg (sOf h) user r lo hi' = some (((visI h user r).filter fun i : Nat => decide (lo ≤ (i : Int) + 1 ∧ (i : Int) + 1 ≤ hi')).map fun i : Nat => (i : Int) + 1) := by
 have hsl := u.slen
 unfold Zhg
 have := Ye3 (l := List.range h.stream.length) (step := fun z : List Int × Int => Zhf (sOf h) user r lo hi' z.1 z.2) (fun q j => (q, j)) (fun q => q) (fun q i => if (decide (lo ≤ (i : Int) + 1 ∧ (i : Int) + 1 ≤ hi') && visB h user r i) = true then q ++ [(i : Int) + 1] else q) (fun i q => q.length ≤ i) (by rw [List.length_range]; omega) (fun i q hi hq => by
  rw [List.length_range] at hi
  rw [List.getElem_range]
  refine ⟨?_, by split <;> first | omega | (rw [List.length_append, List.length_singleton]; omega)⟩
  have hw := Ydn hi (by omega : h.stream.length < 9223372036854775807)
  have hw' : ((i + 1 : Nat) : Int) = (i : Int) + 1 := by omega
  have hd : decide ((i : Int) < ((sOf h).hub.stream.length : Int)) = true := dlt hi
  have hg : getI (sOf h).hub.stream (i : Int) = some (spA h i) := by rw [Yn9 hi]; exact Ydm hi
  simp only [Zhf]
  rw [hd, cond_true, hg, Option.bind_some, hw, c_in, Option.bind_some, beqd, Yn7 u user _ hr, Option.bind_some]
  unfold visB
  rw [hw']
  simp only [Zhe, Zhd]
  rw [hw, hw', chk8 (by simp; omega), Option.bind_some]
  cases decide (lo ≤ (i : Int) + 1 ∧ (i : Int) + 1 ≤ hi') <;> cases decide ((spA h i).room = r) <;> cases seeB h user r (spA h i).id <;> rfl)
  (fun q _ => by
   rw [List.length_range]
   have hd : decide ((h.stream.length : Int) < ((sOf h).hub.stream.length : Int)) = false := dnlt _
   simp only [Zhf]; rw [hd, cond_false]) (s := []) (by simp)
 rw [this.1, Option.bind_some, Ync]
 simp only [Zhc, List.nil_append]
 unfold visI
 rw [List.filter_filter]


theorem Yne {x : Nat} : ∀ {l : List Nat}, l.Nodup → x ∈ l → l.filter (fun y => decide (y = x)) = [x]
 | [], _, h => by cases h
 | a :: l, hn, h => by
  simp only [List.nodup_cons] at hn
  by_cases ha : a = x
  ·
   subst ha
   rw [List.filter_cons_of_pos (by simp), List.filter_eq_nil_iff.2 fun y hy => by simp; intro e; exact hn.1 (e ▸ hy)]
  ·
   rw [List.filter_cons_of_neg (by simp [ha])]
   exact Yne hn.2 ((List.mem_cons.1 h).resolve_left fun e => ha e.symm)

theorem Ynf {h : Y90} (u : Ymk h) {i : Nat} (hi : i < h.stream.length) (y : Pr) : posP (prs h.stream) y = (i : Int) + 1 ↔ y = ((spA h i).room, (spA h i).id) := by
 have hil : i < (prs h.stream).length := by rw [Ym2]; exact hi
 have e : (prs h.stream)[i] = ((spA h i).room, (spA h i).id) := by rw [Yn9 hi]; exact Ym1 hi hil
 constructor
 ·
  intro hp
  have hm : y ∈ prs h.stream := Yl7.1 (by omega)
  have h1 := List.idxOf_lt_length_of_mem hm
  unfold posP at hp
  rw [if_pos hm] at hp
  have h2 : (prs h.stream)[(prs h.stream).idxOf y] = y := List.getElem_idxOf h1
  have h3 : (prs h.stream).idxOf y = i := by omega
  rw [← e, ← h2]
  congr 1
 ·
  rintro rfl
  rw [← e]
  unfold posP
  rw [if_pos (List.getElem_mem hil), Ylb u.nodup hil]

theorem Yng {h : Y90} (u : Ymk h) (user : Int) {r : Int} (hr : 1 ≤ r ∧ r ≤ 3) {i : Nat} (hi : i < h.stream.length) (l : List Int) (hl : l.length ≤ 10000) :
  iter (fun z : List Int × Int => Z7d (wOf h) user r ((i : Int) + 1) z.1 z.2) big (l, 0) = some (if visB h user r i = true then l ++ [plc (rmG h r).events (spA h i).id] else l) := by
 obtain ⟨k, q⟩ := u.room hr
 have hfl := q.right.fits.len
 have hpl : (posG (prs h.stream) (rmG h r)).length = (rmG h r).events.length := List.length_map _
 have := Ye3 (l := List.range (rmG h r).events.length) (step := fun z : List Int × Int => Z7d (wOf h) user r ((i : Int) + 1) z.1 z.2) (fun q j => (q, j)) (fun q => q) (fun q j => if (decide ((posG (prs h.stream) (rmG h r)).getD j 0 = (i : Int) + 1) && seeB h user r ((rmG h r).events.getD j zEv).id) = true then q ++ [(j : Int)] else q) (fun j q => q.length ≤ 10000 + j) (by rw [List.length_range]; omega) (fun j q' hj hq => by
  rw [List.length_range] at hj
  rw [List.getElem_range]
  refine ⟨?_, by split <;> first | omega | (rw [List.length_append, List.length_singleton]; omega)⟩
  have hjp : j < (posG (prs h.stream) (rmG h r)).length := by omega
  have hw := Ydn hj (by omega : (rmG h r).events.length < 9223372036854775807)
  simp only [Z7d]
  rw [q.wrap, q.pos, Option.bind_some, dlt hjp, cond_true, Ydm hjp, Option.bind_some, beqd, Yn8 u user hr hj, Option.bind_some, List.getD_eq_getElem?_getD, List.getElem?_eq_getElem hjp, List.getD_eq_getElem?_getD, List.getElem?_eq_getElem hj]
  simp only [Z7c, Z7b, Option.getD_some]
  rw [hw, chk8 (by simp; omega), Option.bind_some]
  by_cases hc : (posG (prs h.stream) (rmG h r))[j] = (i : Int) + 1
  ·
   simp only [hc, decide_true]; cases seeB h user r (rmG h r).events[j].id <;> rfl
  ·
   simp only [hc, decide_false]; cases seeB h user r (rmG h r).events[j].id <;> rfl)
  (fun q' _ => by
   rw [List.length_range]
   simp only [Z7d]
   rw [q.wrap, q.pos, Option.bind_some, hpl, dnlt, cond_false]) (s := l) (by omega)
 rw [this.1, Ync]
 congr 1
 by_cases hroom : (spA h i).room = r
 rotate_left
 ·
  have hv : visB h user r i = false := by unfold visB; rw [decide_eq_false hroom]; rfl
  rw [hv, List.filter_eq_nil_iff.2 fun j hj => ?_]
  ·
   simp
  ·
   have hj' : j < (rmG h r).events.length := by simpa using hj
   have hjp : j < (posG (prs h.stream) (rmG h r)).length := by omega
   rw [List.getD_eq_getElem?_getD, List.getElem?_eq_getElem hjp, Option.getD_some, Ylh hj', q.room]
   have : ¬ posP (prs h.stream) (r, (rmG h r).events[j].id) = (i : Int) + 1 := fun e => hroom (Prod.mk.inj ((Ynf u hi _).1 e)).1.symm
   rw [decide_eq_false this]; simp
 ·
  have hm : (r, (spA h i).id) ∈ prs h.stream := by
   have hil : i < (prs h.stream).length := by rw [Ym2]; exact hi
   have e : (prs h.stream)[i] = ((spA h i).room, (spA h i).id) := by rw [Yn9 hi]; exact Ym1 hi hil
   rw [hroom] at e
   rw [← e]; exact List.getElem_mem _
  obtain ⟨v1, v2, v3⟩ := u.event q hm
  obtain ⟨k0, hk0, p1, p2, _⟩ := Yem (l := (rmG h r).events) (id := (spA h i).id) (Yep.2 ⟨_, v2, v3⟩)
  have hcong : ∀ j ∈ List.range (rmG h r).events.length, (decide ((posG (prs h.stream) (rmG h r)).getD j 0 = (i : Int) + 1) && seeB h user r ((rmG h r).events.getD j zEv).id) = (decide (j = k0) && visB h user r i) := fun j hj => by
   have hj' : j < (rmG h r).events.length := by simpa using hj
   have hjp : j < (posG (prs h.stream) (rmG h r)).length := by omega
   rw [List.getD_eq_getElem?_getD, List.getElem?_eq_getElem hjp, Option.getD_some, Ylh hj', q.room, List.getD_eq_getElem?_getD, List.getElem?_eq_getElem hj', Option.getD_some]
   have hiff : posP (prs h.stream) (r, (rmG h r).events[j].id) = (i : Int) + 1 ↔ j = k0 := by
    rw [Ynf u hi, hroom]
    constructor
    ·
     intro e
     exact q.right.fits.up.inj hj' hk0 (by rw [p2]; exact (Prod.mk.inj e).2)
    ·
     rintro rfl
     rw [p2]
   by_cases hjk : j = k0
   ·
    subst hjk
    rw [decide_eq_true (hiff.2 rfl), decide_eq_true rfl, p2]
    unfold visB
    rw [decide_eq_true hroom]; rfl
   ·
    rw [decide_eq_false (fun e => hjk (hiff.1 e)), decide_eq_false hjk]; rfl
  rw [List.filter_congr hcong, p1]
  cases hv : visB h user r i with
  | false =>
   rw [List.filter_eq_nil_iff.2 fun j _ => by simp]
   simp
  | true =>
   rw [show (fun j => decide (j = k0) && true) = fun j => decide (j = k0) from funext fun j => Bool.and_true _, Yne List.nodup_range (by simpa using hk0)]
   rfl

def visP (h : Y90) (user r : Int) : List Int := (visI h user r).map fun i => plc (rmG h r).events (spA h i).id

theorem Ynh {h : Y90} (u : Ymk h) (user : Int) {r : Int} (hr : 1 ≤ r ∧ r ≤ 3) : Z7f (wOf h) user r = some (visP h user r) := by
 have hsl := u.slen
 unfold Z7f
 obtain ⟨o, e1, rfl⟩ := Ydk (τ := List Int × Int) (ω := List Int) (σ := List Int) (step := fun z : List Int × Int => Z7e (wOf h) user r z.1 z.2) (n := h.stream.length) (fun s j => (s, j + 1)) (fun i s => s = ((List.range i).filter (visB h user r)).map fun i => plc (rmG h r).events (spA h i).id) (fun o => o = visP h user r) (by omega) (by
  rintro i s hi rfl
  have hle := List.length_filter_le (visB h user r) (List.range i)
  rw [List.length_range] at hle
  have hd : decide ((i : Int) + 1 ≤ ((wOf h).h.stream.length : Int)) = true := decide_eq_true (by show (i : Int) + 1 ≤ (h.stream.length : Int); omega)
  have hrow := Yng u user hr hi (((List.range i).filter (visB h user r)).map fun i => plc (rmG h r).events (spA h i).id) (by rw [List.length_map]; omega)
  simp only [Z7e]
  rw [hd, cond_true, hrow, Option.bind_some]
  simp only [Z7a]
  rw [Y4i (n := (i : Int) + 1 + 1) (by omega) (by omega)]
  refine ⟨_, rfl, ?_⟩
  rw [List.range_succ, List.filter_append]
  cases hv : visB h user r i with
  | true => rw [if_pos rfl, List.filter_cons_of_pos hv]; simp
  | false => rw [if_neg (by simp), List.filter_cons_of_neg (by simp [hv])]; simp) (by
  rintro s rfl
  have hd : decide ((h.stream.length : Int) + 1 ≤ ((wOf h).h.stream.length : Int)) = false := decide_eq_false (by show ¬ (h.stream.length : Int) + 1 ≤ (h.stream.length : Int); omega)
  simp only [Z7e]
  rw [hd, cond_false]
  exact ⟨_, rfl, rfl⟩) (s := []) (by simp)
 have e1' : iter (fun z : List Int × Int => Z7e (wOf h) user r z.1 z.2) big ([], 1) = some (visP h user r) := e1
 rw [e1']; rfl


def Yni (h : Y90) (user r : Int) : List Int := (visI h user r).map fun i => (spA h i).id

theorem Ynj {h : Y90} (hf : Ylw h) (user r : Int) : ∃ v, Z7k h user r = some v ∧ Zhl h user r = some v ∧ v.length ≤ 120 := by
 obtain ⟨b, b1, b2, b3⟩ := Ymm hf
 unfold Z7k Zhl
 rw [b2, b3, Option.bind_some, Option.bind_some]
 cases b with
 | false => exact ⟨[], rfl, rfl, by simp⟩
 | true =>
  have u := b1 rfl
  have hsl := u.slen
  simp only [cond_true]
  unfold Z71
  rw [Ydq, Ydw, Ydu, Yds]
  simp only [Option.bind_some]
  by_cases hu : 1 ≤ user ∧ user ≤ 6
  rotate_left
  ·
   rw [decide_eq_false hu]
   cases decide (1 ≤ r ∧ r ≤ 3) <;> exact ⟨[], rfl, rfl, by simp⟩
  rw [decide_eq_true hu]
  by_cases hr : 1 ≤ r ∧ r ≤ 3
  rotate_left
  ·
   rw [decide_eq_false hr]; exact ⟨[], rfl, rfl, by simp⟩
  rw [decide_eq_true hr]
  simp only [cond_true, Bool.not_true, Z7j, Zhk, cond_false]
  rw [Ynh u user hr, Ynd u user _ _ hr, Option.bind_some, Option.bind_some]
  have hall : ((visI h user r).filter fun i : Nat => decide ((1 : Int) ≤ (i : Int) + 1 ∧ (i : Int) + 1 ≤ 120)) = visI h user r := List.filter_eq_self.2 fun i hi => by
   have := (Yna hi).1
   simp; omega
  rw [hall]
  obtain ⟨k, q⟩ := u.room hr
  have hvl := Ynb u user r
  have hfl := q.right.fits.len
  refine ⟨Yni h user r, ?_, ?_, by unfold Yni; rw [List.length_map]; exact hvl⟩
  ·
   have hgr : getI h.rooms (k : Int) = some (rmG h r) := q.gr
   have hPl : (visP h user r).length = (visI h user r).length := List.length_map _
   have := Ye3 (l := visP h user r) (step := fun z : List Int × Int => Z7i h r (visP h user r) z.1 z.2) (fun q j => (q, j)) (fun q => q) (fun q j => q ++ [((rmG h r).events.getD j.toNat zEv).id]) (fun i q => q.length = i) (by unfold visP; rw [List.length_map]; omega) (fun i q' hi hq => by
    have hi' : i < (visI h user r).length := by unfold visP at hi; rwa [List.length_map] at hi
    have ev : (visP h user r)[i] = plc (rmG h r).events (spA h (visI h user r)[i]).id := List.getElem_map _
    obtain ⟨m1, m2, m3⟩ := Yna (List.getElem_mem hi')
    have hm : (r, (spA h (visI h user r)[i]).id) ∈ prs h.stream := by unfold seeB at m3; rw [Bool.and_eq_true, decide_eq_true_eq] at m3; exact m3.1
    obtain ⟨v1, v2, v3⟩ := u.event q hm
    obtain ⟨k0, hk0, p1, p2, _⟩ := Yem (l := (rmG h r).events) (Yep.2 ⟨_, v2, v3⟩)
    refine ⟨?_, by simp [hq]⟩
    simp only [Z7i]
    rw [dlt hi, cond_true, q.wrap, hgr, Option.bind_some, Ydm hi, Option.bind_some, ev, p1, Ydm hk0, Option.bind_some, chk8 (by simp; omega), Option.bind_some, Ydn hi (by omega), Int.toNat_natCast, List.getD_eq_getElem?_getD, List.getElem?_eq_getElem hk0]
    rfl)
    (fun q' _ => by simp only [Z7i]; rw [dnlt, cond_false]) (s := []) rfl
   rw [this.1, Option.bind_some, Yju (fun j : Int => ((rmG h r).events.getD j.toNat zEv).id)]
   simp only [Z7h, List.nil_append]
   congr 1
   unfold visP Yni
   rw [List.map_map]
   refine List.map_congr_left fun i hi => ?_
   obtain ⟨m1, m2, m3⟩ := Yna hi
   have hm : (r, (spA h i).id) ∈ prs h.stream := by unfold seeB at m3; rw [Bool.and_eq_true, decide_eq_true_eq] at m3; exact m3.1
   obtain ⟨v1, v2, v3⟩ := u.event q hm
   obtain ⟨k0, hk0, p1, p2, _⟩ := Yem (l := (rmG h r).events) (Yep.2 ⟨_, v2, v3⟩)
   simp only [Function.comp]
   rw [p1, Int.toNat_natCast, List.getD_eq_getElem?_getD, List.getElem?_eq_getElem hk0, Option.getD_some, p2]
  ·
   have := Ye3 (l := (visI h user r).map fun i : Nat => (i : Int) + 1) (step := fun z : List Int × Int => Zhj (sOf h, true) ((visI h user r).map fun i : Nat => (i : Int) + 1) z.1 z.2) (fun q j => (q, j)) (fun q => q) (fun q j => q ++ [(spA h (j - 1).toNat).id]) (fun i q => q.length = i) (by rw [List.length_map]; omega) (fun i q' hi hq => by
    have hi' : i < (visI h user r).length := by rwa [List.length_map] at hi
    have ev : ((visI h user r).map fun i : Nat => (i : Int) + 1)[i] = ((visI h user r)[i] : Int) + 1 := List.getElem_map _
    obtain ⟨m1, _, _⟩ := Yna (List.getElem_mem hi')
    refine ⟨?_, by simp [hq]⟩
    have hgs : getI (sOf h, true).1.hub.stream (((visI h user r)[i] : Nat) : Int) = some (spA h (visI h user r)[i]) := by rw [Yn9 m1]; exact Ydm m1
    simp only [Zhj]
    rw [dlt hi, cond_true, Ydm hi, Option.bind_some, ev, Y4i (n := ((visI h user r)[i] : Int) + 1 - 1) (by omega) (by omega), show ((visI h user r)[i] : Int) + 1 - 1 = ((visI h user r)[i] : Int) by omega, hgs, Option.bind_some, chk8 (by simp; omega), Option.bind_some, Ydn hi (by rw [List.length_map]; omega), Int.toNat_natCast])
    (fun q' _ => by simp only [Zhj]; rw [dnlt, cond_false]) (s := []) rfl
   rw [this.1, Option.bind_some, Yju (fun j : Int => (spA h (j - 1).toNat).id)]
   simp only [Zhi, List.nil_append]
   congr 1
   unfold Yni
   rw [List.map_map]
   refine List.map_congr_left fun i _ => ?_
   simp only [Function.comp]
   rw [show (i : Int) + 1 - 1 = (i : Int) by omega, Int.toNat_natCast]
end Go.Proofs.YtbgichfjcnibpaaGreat
