/- Plain laws for the graphs: states are merged alike (end). -/
import Derived.Test.YtbgichfjcnibpaaGreatEGN
set_option autoImplicit false
set_option linter.unusedVariables false
set_option linter.unusedSimpArgs false
namespace Go.Proofs.YtbgichfjcnibpaaGreat
open Go Go.Abs

theorem Zjv {h : Y96} {ls : List (List Y92)} (hm : Mrg h.graph ls) {es : List Y8w} (hes : ∀ e ∈ es, e ∈ h.graph.events) (hel : es.length ≤ 1000) {s : List Y92} (hs : StOk h.graph.events s) :
  iter (fun z : List Y92 × Int => Zdz h es z.1 z.2) big (s, 0) = some (es.foldl (layE h.graph) s) := by
 have := Yei (l := es) (step := fun z : List Y92 × Int => Zdz h es z.1 z.2) (fun q j => (q, j)) (fun q => q) (layE h.graph) (fun _ q => StOk h.graph.events q) (by omega) (fun i q hi hq => by
  have he := hes _ (List.getElem_mem hi)
  refine ⟨?_, Yj4 (es := [es[i]]) hm.fits.up hq (by simpa using he)⟩
  have hql := hm.slen hq
  simp only [Zdz]
  rw [dlt hi, cond_true, Ye1 hi, Option.bind_some, (Yi9 (hm.sts hq) (hm.ev _ he).ask).2, Option.bind_some, beqd]
  simp only [Zdy, Ye2 hi (by omega : es.length < 9223372036854775807)]
  have h1 := (hm.ev _ he).id.1
  unfold layE putE
  by_cases ha : alw h.graph q es[i] = 0
  ·
   rw [decide_eq_true ha, cond_true, if_pos ha, Yht hq.up _ (by simp only; omega) (by omega)]; rfl
  ·
   rw [decide_eq_false ha, cond_false, if_neg ha])
  (fun q _ => by simp only [Zdz]; rw [dnlt, cond_false]) (s := s) hs
 exact this.1

theorem Yj5 {α : Type} (p : α → Bool) (l : List α) : l.any (fun x => !p x) = !l.all p := by simp [List.all_eq_not_any_not]

theorem Yj6 {ls : List (List Y92)} (x : Y92) (hl : ls.length ≤ 1000) (hs : ∀ s ∈ ls, s.length < 1000000) : Zdt ls x = some (!ls.all fun t => memS t x) := by
 unfold Zdt Zdr
 rw [Yek (Yef (l := ls) (step := Zdq ls x) (fun t => !memS t x) (by omega) (fun i hi => by
  simp only [Zdq, Zdn]
  rw [dlt hi, cond_true, Ye1 hi, Option.bind_some, Yik _ _ (hs _ (List.getElem_mem hi)), Option.bind_some, Option.bind_some, Ye2 hi (by omega)]
  cases memS ls[i] x <;> rfl) (by simp only [Zdq]; rw [dnlt, cond_false])) (fun _ => rfl) rfl]
 rw [Option.bind_some, Yej, Yj5]

theorem Yj7 {α : Type} (p : α → Bool) : ∀ (l q : List α), l.foldl (fun q x => if p x = true then q ++ [x] else q) q = q ++ l.filter p
 | [], q => by simp
 | x :: l, q => by
  rw [List.foldl_cons, Yj7 p l]
  cases h : p x with
  | true => rw [if_pos rfl, List.filter_cons_of_pos h]; simp
  | false => rw [if_neg (by simp), List.filter_cons_of_neg (by simp [h])]

theorem Zjw {h : Y96} {ls : List (List Y92)} (hm : Mrg h.graph ls) : ∃ r : List Y8w, Zeb h ls = some (r.foldl (layE h.graph) (Yio ls).1) ∧ r.Perm (Yj2 h.graph.events ls) ∧ r.Pairwise (Lt3 (dmI h)) := by
 have hR := (Yir hm).2
 have hlen := hm.len
 have hsl : ∀ s ∈ ls, s.length ≤ 60 := fun s hs => hm.slen (hm.ok s hs)
 obtain ⟨o1, o2, o3⟩ := Yj3 hm
 obtain ⟨r, r1, r2, r3⟩ := Zju h o1 (by omega)
 refine ⟨r, ?_, r2, r3⟩
 have hcom : Zeb h ls = Ze8 h ls (comI ls) := by
  unfold Zeb
  cases ls with
  | nil => rfl
  | cons s ls =>
   have hs := hsl s (by simp)
   rw [decide_eq_true (by simp), cond_true, show (0 : Int) = ((0 : Nat) : Int) from rfl, Ye1 (by simp), Option.bind_some]
   simp only [List.getElem_cons_zero]
   have := Yei (l := s) (step := fun z : List Y92 × Int => Zea (s :: ls) s z.1 z.2) (fun q j => (q, j)) (fun q => q) (fun q x => if ((s :: ls).all fun t => memS t x) = true then q ++ [x] else q) (fun i q => q.length ≤ i) (by omega) (fun i q hi hq => by
    refine ⟨?_, by split <;> first | omega | (rw [List.length_append, List.length_singleton]; omega)⟩
    simp only [Zea]
    rw [dlt hi, cond_true, Ye1 hi, Option.bind_some, Yj6 _ hlen (fun s hs => by have := hsl s hs; omega), Option.bind_some, Yhf (by simp; omega), Option.bind_some]
    simp only [Ze9, Ye2 hi (by omega : s.length < 9223372036854775807)]
    cases (s :: ls).all fun t => memS t s[i] <;> rfl)
    (fun q _ => by simp only [Zea]; rw [dnlt, cond_false]) (s := []) (by simp)
   rw [Yj7 (fun x => (s :: ls).all fun t => memS t x), List.nil_append] at this
   rw [show ((0 : Nat) : Int) = 0 from rfl, this.1]
   rfl
 rw [hcom]
 have hc60 : (comI ls).length ≤ 60 := by rw [Yit hm]; exact (hR.len hm.fits.len).1
 unfold Ze8
 have h2 := Yei (l := comI ls) (step := fun z : List (Int × Bool) × Int => Ze7 (comI ls) z.1 z.2) (fun q j => (q, j)) (fun q => q) (fun m x => mset m x.id true) (fun _ _ => True) (by omega) (fun i q hi _ => by
  refine ⟨?_, trivial⟩
  simp only [Ze7]
  rw [dlt hi, cond_true, Ye1 hi, Option.bind_some, Ye2 hi (by omega)])
  (fun q _ => by simp only [Ze7]; rw [dnlt, cond_false]) (s := []) trivial
 rw [h2.1, Option.bind_some]
 unfold Ze6
 have h3 := Yei (l := ls) (step := fun z : List Y8w × List (Int × Bool) × Int => Ze5 h ls z.1 z.2.1 z.2.2) (fun (q : List Y8w × List (Int × Bool)) j => (q.1, q.2, j)) (fun q => q.1) (fun q s => s.foldl (Yj0 h.graph.events) q) (fun _ q => OInv h.graph.events q) (by omega) (fun i q hi hq => by
  have hs := hm.ok _ (List.getElem_mem hi)
  have hs6 := hm.slen hs
  have hev : ∀ x ∈ ls[i], ∃ e, evAt h.graph.events x.id = some e := fun x hx => by obtain ⟨e, he, _⟩ := hs.ev x hx; exact ⟨e, he⟩
  refine ⟨?_, (OInv.fold hq hev).1⟩
  simp only [Ze5]
  have inner := Yei (l := ls[i]) (step := fun z : List Y8w × List (Int × Bool) × Int => Ze4 h ls[i] z.1 z.2.1 z.2.2) (fun (q : List Y8w × List (Int × Bool)) j => (q.1, q.2, j)) (fun q => q) (Yj0 h.graph.events) (fun _ q => OInv h.graph.events q) (by omega) (fun j q hj hq => by
   obtain ⟨e, he⟩ := hev _ (List.getElem_mem hj)
   refine ⟨?_, (hq.step he).1⟩
   have hql := hq.len
   have := hm.fits.len
   simp only [Ze4]
   rw [dlt hj, cond_true, Ye1 hj, Option.bind_some]
   simp only [Ze2, Ze3, Ye2 hj (by omega : ls[i].length < 9223372036854775807)]
   unfold Yj0
   cases Option.getD (mget q.2 ls[i][j].id) false with
   | true => rfl
   | false =>
    rw [cond_false, c_at _ _ hm.fits.up (by omega), Option.bind_some, Yiu (by simp; omega), Option.bind_some]; rfl)
   (fun q _ => by simp only [Ze4]; rw [dnlt, cond_false]) (s := q) hq
  rw [dlt hi, cond_true, Ye1 hi, Option.bind_some, inner.1, Option.bind_some]
  simp only [Ze1, Ye2 hi (by omega : ls.length < 9223372036854775807)])
  (fun q _ => by simp only [Ze5]; rw [dnlt, cond_false]) (s := ([], metI (comI ls))) ⟨.nil, fun e he => by cases he⟩
 have h3' := h3.1
 simp only at h3'
 rw [show (comI ls).foldl (fun m x => mset m x.id true) [] = metI (comI ls) from rfl, h3', Option.bind_some]
 have e4 : (ls.foldl (fun q s => s.foldl (Yj0 h.graph.events) q) ([], metI (comI ls))).1 = Yj2 h.graph.events ls := by unfold Yj2; rw [Yip]
 rw [e4]
 unfold Ze0
 rw [r1, Option.bind_some, Yit hm]
 have hrl : r.length ≤ 60 := by rw [r2.length_eq]; exact o2
 rw [Zjv hm (fun e he => ((o3 e).1 (r2.mem_iff.1 he)).1) (by omega) hR.ok]
 rfl


def dmR (l : List Y8w) (e : Y8w) : Int := dOf l (Yfj l) e.id
def evD (l : List Y8w) (id : Int) : Y8w := (evAt l id).getD zEv

theorem Yj8 {l : List Y8w} {id : Int} (h : id ∈ l.map (·.id)) (hu : Up2 l) : evAt l id = some (evD l id) ∧ evD l id ∈ l ∧ (evD l id).id = id := by
 obtain ⟨e, he, rfl⟩ := List.mem_map.1 h
 have := hu.evAt_mem he
 unfold evD
 rw [this]
 exact ⟨rfl, he, rfl⟩

theorem Yj9 {dm : Y8w → Int} {x y : Int} {ea eb : Y8w} (hx : dm ea = x) (hy : dm eb = y) :
  cond (hv ea == hv eb) (cond (x != y) (some (decide (x < y))) (cond (ea.time != eb.time) (some (decide (ea.time < eb.time))) (some (decide (ea.id < eb.id))))) ((some (hv ea)).bind fun r => some r) = some (decide (Lt3 dm ea eb)) := by
 have hnn : ∀ e, (hv e = true ∧ hn e = 0) ∨ (hv e = false ∧ hn e = 1) := fun e => by unfold hn; cases hv e <;> simp
 have hc : hn ea = hn eb → cond (x != y) (some (decide (x < y))) (cond (ea.time != eb.time) (some (decide (ea.time < eb.time))) (some (decide (ea.id < eb.id)))) = some (decide (Lt3 dm ea eb)) := fun he => by
  rw [bned, bned]
  by_cases h1 : x = y
  ·
   rw [decide_eq_true h1]
   by_cases h2 : ea.time = eb.time
   ·
    rw [decide_eq_true h2]
    exact congrArg some (decide_eq_decide.2 (by unfold Lt3; omega))
   ·
    rw [decide_eq_false h2]
    exact congrArg some (decide_eq_decide.2 (by unfold Lt3; omega))
  ·
   rw [decide_eq_false h1]
   exact congrArg some (decide_eq_decide.2 (by unfold Lt3; omega))
 rcases hnn ea with ⟨p1, p2⟩ | ⟨p1, p2⟩ <;> rcases hnn eb with ⟨q1, q2⟩ | ⟨q1, q2⟩ <;> rw [p1, q1]
 ·
  exact hc (by omega)
 ·
  exact congrArg some (decide_eq_true (by unfold Lt3; omega)).symm
 ·
  exact congrArg some (decide_eq_false (by unfold Lt3; omega)).symm
 ·
  exact hc (by omega)

theorem Yja {g : Y90} {ls : List (List Y92)} (hm : Mrg g ls) {a b : Int} (ha : a ∈ g.events.map (·.id)) (hb : b ∈ g.events.map (·.id)) : Z44 g (Yfj g.events) a b = some (decide (Lt3 (dmR g.events) (evD g.events a) (evD g.events b))) := by
 have hfl := hm.fits.len
 obtain ⟨a1, a2, a3⟩ := Yj8 ha hm.fits.up
 obtain ⟨b1, b2, b3⟩ := Yj8 hb hm.fits.up
 have hd := (Yfp hm.fits).2.len
 have da := (Yfk hd (Yf3 a2)).1
 have db := (Yfk hd (Yf3 b2)).1
 rw [a3] at da; rw [b3] at db
 unfold Z44
 rw [Yey _ _ (by omega), Option.bind_some, Yey _ _ (by omega), Option.bind_some, (Yhy a1).1, Option.bind_some, (Yhy b1).1, Option.bind_some]
 unfold Z43
 rw [show ∀ e : Y8w, Y8w.mk e.id e.room e.author e.kind e.key e.n e.text e.prev e.time = e from fun _ => rfl, show ∀ e : Y8w, Y8w.mk e.id e.room e.author e.kind e.key e.n e.text e.prev e.time = e from fun _ => rfl]
 rw [Yiw, Option.bind_some, Yiw, Option.bind_some, da, Option.bind_some, db, Option.bind_some]
 exact Yj9 (by unfold dmR; rw [a3]) (by unfold dmR; rw [b3])

theorem Yjb {g : Y90} {ls : List (List Y92)} (hm : Mrg g ls) {ids : List Int} (hids : ∀ n ∈ ids, n ∈ g.events.map (·.id)) (hup : UpI ids) (hl : ids.length ≤ 1000) :
  ∃ od : List Int, iter (fun z : List Int × Int => Z52 g (Yfj g.events) ids z.1 z.2) big ([], 0) = some od ∧ od.Perm ids ∧ od.Pairwise fun a b => Lt3 (dmR g.events) (evD g.events a) (evD g.events b) := by
 obtain ⟨o, h1, h2⟩ := Ydz (τ := List Int × Int) (ω := List Int) (σ := List Int) (step := fun z : List Int × Int => Z52 g (Yfj g.events) ids z.1 z.2) (n := ids.length) (fun s j => (s, j))
  (fun i s => s.Perm (ids.take i) ∧ s.Pairwise fun a b => Lt3 (dmR g.events) (evD g.events a) (evD g.events b)) (fun od => od.Perm ids ∧ od.Pairwise fun a b => Lt3 (dmR g.events) (evD g.events a) (evD g.events b)) (by omega) (by
  rintro i s hi ⟨hp, hs⟩
  have hsl : s.length = i := by rw [hp.length_eq]; simp; omega
  have hx := hids _ (List.getElem_mem hi)
  have hsm : ∀ n ∈ s, n ∈ g.events.map (·.id) := fun n hn => hids n (List.mem_of_mem_take (hp.mem_iff.1 hn))
  have hne : ∀ n ∈ s, n < ids[i] := fun n hn => by
   obtain ⟨j, hj, hji, rfl⟩ := Yg7 (hp.mem_iff.1 hn)
   exact List.pairwise_iff_getElem.1 hup j i hj hi hji
  obtain ⟨k, k1, k2, k3, k4⟩ := Y4l (step := Z51 g (Yfj g.events) ids s (i : Int)) (p := fun o => ∃ k : Nat, o = (k : Int) ∧ k ≤ s.length ∧ (∀ y ∈ s.take k, Lt3 (dmR g.events) (evD g.events y) (evD g.events ids[i])) ∧ ∀ y ∈ s.drop k, Lt3 (dmR g.events) (evD g.events ids[i]) (evD g.events y))
   (fun m (z : Int) => ∃ k : Nat, z = (k : Int) ∧ k ≤ s.length ∧ (∀ y ∈ s.drop k, Lt3 (dmR g.events) (evD g.events ids[i]) (evD g.events y)) ∧ m = k) (by
   rintro k z ⟨k', rfl, hk, hd, rfl⟩
   simp only [Z51, Z50]
   cases k with
   | zero =>
    left
    exact ⟨_, rfl, 0, rfl, by omega, by simp, hd⟩
   | succ k =>
    have hks : k < s.length := by omega
    rw [decide_eq_true (by omega), cond_true, Ye1 hi, Option.bind_some, Ye3 (by omega) (by omega), Nat.add_sub_cancel, Ye1 hks, Option.bind_some, Yja hm hx (hsm _ (List.getElem_mem hks)), Option.bind_some]
    by_cases hlt : Lt3 (dmR g.events) (evD g.events ids[i]) (evD g.events s[k])
    ·
     right
     rw [decide_eq_true hlt, cond_true]
     refine ⟨_, k, rfl, by omega, k, rfl, by omega, fun y hy => ?_, rfl⟩
     rw [List.drop_eq_getElem_cons hks] at hy
     rcases List.mem_cons.1 hy with rfl | hy
     ·
      exact hlt
     ·
      exact hd y hy
    ·
     left
     rw [decide_eq_false hlt, cond_false]
     refine ⟨_, rfl, k + 1, rfl, hk, fun y hy => ?_, hd⟩
     have hkx : Lt3 (dmR g.events) (evD g.events s[k]) (evD g.events ids[i]) := by
      have h4 := hne _ (List.getElem_mem hks)
      have e1 := (Yj8 hx hm.fits.up).2.2
      have e2 := (Yj8 (hsm _ (List.getElem_mem hks)) hm.fits.up).2.2
      unfold Lt3 at hlt ⊢
      omega
     obtain ⟨j, hj, hjk, rfl⟩ := Yg7 hy
     by_cases hjk2 : j = k
     ·
      subst hjk2; exact hkx
     ·
      have h5 := List.pairwise_iff_getElem.1 hs j k hj hks (by omega)
      unfold Lt3 at h5 hkx ⊢; omega) big s.length (s.length : Int) ⟨s.length, rfl, Nat.le_refl _, by simp, rfl⟩ (Ydw (by omega))
  obtain ⟨k, rfl, k5, k6⟩ : ∃ k', k = ((k' : Nat) : Int) ∧ k' = k2 ∧ True := ⟨k2, k3, rfl, trivial⟩
  subst k5
  obtain ⟨hk, hb, ha⟩ := k4
  refine ⟨s.take k ++ ids[i] :: s.drop k, ?_, ?_, ?_⟩
  ·
   simp only [Z52]
   rw [dlt hi, cond_true, k1, Option.bind_some]
   simp only [Z4z, Int.toNat_natCast]
   rw [Y4j (decide_eq_true (by omega)), Option.bind_some, Y4j (decide_eq_true (by omega)), Option.bind_some, chk8 (by simp; omega), Option.bind_some, Ye1 hi, Option.bind_some, chk8 (by simp; omega), Option.bind_some, Option.bind_some, Option.bind_some, chk8 (by simp; omega), Option.bind_some, Ye2 hi (by omega)]
   simp
  ·
   refine List.perm_middle.trans ?_
   rw [List.take_append_drop, List.take_add_one, List.getElem?_eq_getElem hi]
   refine (hp.cons _).trans ?_
   exact (List.perm_append_comm (l₁ := [ids[i]]) (l₂ := ids.take i))
  ·
   have hs' := hs
   rw [← List.take_append_drop k s] at hs'
   obtain ⟨s1, s2, s3⟩ := Yg0.1 hs'
   refine Yg0.2 ⟨s1, List.pairwise_cons.2 ⟨ha, s2⟩, fun y hy z hz => ?_⟩
   rcases List.mem_cons.1 hz with rfl | hz
   ·
    exact hb y hy
   ·
    exact s3 y hy z hz) (by
  rintro s ⟨hp, hs⟩
  simp only [Z52]
  rw [dnlt, cond_false]
  rw [List.take_length] at hp
  exact ⟨s, rfl, hp, hs⟩) (s := []) ⟨by simp, .nil⟩
 exact ⟨o, h1, h2.1, h2.2⟩

def Yjc (g : Y90) (ls : List (List Y92)) : List Y92 := (Z58 g (Yfj g.events) ls).getD []

def Yjd (h : Y96) : Prop := ∀ e ∈ h.graph.events, mget h.depth e.id = some (dmR h.graph.events e)

theorem Zjx {g : Y90} {ls : List (List Y92)} (hm : Mrg g ls) : ∃ od : List Int, Z58 g (Yfj g.events) ls = some ((od.map (evD g.events)).foldl (layE g) (Yio ls).1) ∧ od.Perm (Yio ls).2 ∧ od.Pairwise fun a b => Lt3 (dmR g.events) (evD g.events a) (evD g.events b) := by
 obtain ⟨e1, hR⟩ := Yir hm
 have hl := hR.len hm.fits.len
 have hfl := hm.fits.len
 obtain ⟨od, o1, o2, o3⟩ := Yjb hm hR.ids hR.up (by omega)
 refine ⟨od, ?_, o2, o3⟩
 unfold Z58
 rw [e1, Option.bind_some]
 simp only [Z53]
 rw [o1, Option.bind_some]
 simp only [Z4y]
 have hodl : od.length ≤ 60 := by rw [o2.length_eq]; exact hl.2
 have := Yei (l := od) (step := fun z : List Y92 × Int => Z4x g od z.1 z.2) (fun q j => (q, j)) (fun q => q) (fun q n => layE g q (evD g.events n)) (fun _ q => StOk g.events q) (by omega) (fun i q hi hq => by
  have hn := hR.ids _ (o2.mem_iff.1 (List.getElem_mem hi))
  obtain ⟨a1, a2, a3⟩ := Yj8 hn hm.fits.up
  refine ⟨?_, Yj4 (es := [evD g.events od[i]]) hm.fits.up hq (by simpa using a2)⟩
  have hql := hm.slen hq
  simp only [Z4x]
  rw [dlt hi, cond_true, Ye1 hi, Option.bind_some, Yey _ _ (by omega), Option.bind_some, (Yhy a1).1, Option.bind_some]
  simp only [Z4w]
  rw [show ∀ e : Y8w, Y8w.mk e.id e.room e.author e.kind e.key e.n e.text e.prev e.time = e from fun _ => rfl, (Yi9 (hm.sts hq) (hm.ev _ a2).ask).1, Option.bind_some, beqd]
  simp only [Z4v, Ye2 hi (by omega : od.length < 9223372036854775807)]
  unfold layE putE
  by_cases ha : alw g q (evD g.events od[i]) = 0
  ·
   rw [decide_eq_true ha, cond_true, if_pos ha, Yhi hq.up _ (by omega)]; rfl
  ·
   rw [decide_eq_false ha, cond_false, if_neg ha])
  (fun q _ => by simp only [Z4x]; rw [dnlt, cond_false]) (s := (Yio ls).1) hR.ok
 rw [this.1, Option.bind_some]
 simp only [Z4u]
 rw [List.foldl_map]

theorem Yje {h : Y96} {ls : List (List Y92)} (hm : Mrg h.graph ls) (hk : Yjd h) : Z58 h.graph (Yfj h.graph.events) ls = some (Yjc h.graph ls) ∧ Zeb h ls = some (Yjc h.graph ls) ∧ StOk h.graph.events (Yjc h.graph ls) := by
 obtain ⟨od, a1, a2, a3⟩ := Zjx hm
 obtain ⟨r, b1, b2, b3⟩ := Zjw hm
 have hR := (Yir hm).2
 obtain ⟨o1, o2, o3⟩ := Yj3 hm
 have hrm : ∀ e ∈ r, e ∈ h.graph.events := fun e he => ((o3 e).1 (b2.mem_iff.1 he)).1
 have hod : ∀ n ∈ od, n ∈ h.graph.events.map (·.id) := fun n hn => hR.ids n (a2.mem_iff.1 hn)
 have hsame : od.map (evD h.graph.events) = r := by
  refine List.Perm.eq_of_pairwise (le := Lt3 (dmR h.graph.events)) (fun a b _ _ h1 h2 => by unfold Lt3 at h1 h2; omega) (List.pairwise_map.2 a3) ?_ ?_
  ·
   refine List.Pairwise.imp_of_mem (fun {a b} ha hb hab => ?_) b3
   have e1 : ∀ e ∈ r, dmI h e = dmR h.graph.events e := fun e he => by unfold dmI; rw [hk e (hrm e he)]; rfl
   unfold Lt3 at hab ⊢
   rw [e1 a ha, e1 b hb] at hab
   exact hab
  ·
   have n1 : (od.map (evD h.graph.events)).Nodup := by
    rw [List.nodup_iff_pairwise_ne, List.pairwise_map]
    refine a3.imp fun {a b} hab he => ?_
    rw [he] at hab
    unfold Lt3 at hab; omega
   have n2 : r.Nodup := by
    rw [List.nodup_iff_pairwise_ne]
    refine b3.imp fun {a b} hab he => ?_
    rw [he] at hab
    unfold Lt3 at hab; omega
   rw [List.perm_ext_iff_of_nodup n1 n2]
   intro e
   rw [b2.mem_iff, o3, List.mem_map]
   constructor
   ·
    rintro ⟨n, hn, rfl⟩
    obtain ⟨_, c2, c3⟩ := Yj8 (hod n hn) hm.fits.up
    exact ⟨c2, by rw [c3]; exact a2.mem_iff.1 hn⟩
   ·
    rintro ⟨h1, h2⟩
    refine ⟨e.id, a2.mem_iff.2 h2, ?_⟩
    unfold evD
    rw [hm.fits.up.evAt_mem h1]; rfl
 have e : Yjc h.graph ls = r.foldl (layE h.graph) (Yio ls).1 := by unfold Yjc; rw [a1, hsame]; rfl
 rw [e]
 exact ⟨by rw [a1, hsame], b1, Yj4 hm.fits.up hR.ok hrm⟩
end Go.Proofs.YtbgichfjcnibpaaGreat
namespace Go.Proofs.YtbgichfjcnibpaaGreat
open Go Go.Abs

inductive Bf (l : List Y8w) (a : Int) : List Int → List Int → Bool → Prop
 | nil (seen : List Int) : Bf l a seen [] false
 | hit (seen r : List Int) : Bf l a seen (a :: r) true
 | skip (seen r : List Int) (id : Int) (b : Bool) : id ≠ a → id ∈ seen → Bf l a seen r b → Bf l a seen (id :: r) b
 | more (seen r : List Int) (id : Int) (b : Bool) : id ≠ a → id ∉ seen → Bf l a (id :: seen) (r ++ (evD l id).prev) b → Bf l a seen (id :: r) b

theorem Bf.det {l : List Y8w} {a : Int} {seen todo : List Int} {b1 b2 : Bool} (h1 : Bf l a seen todo b1) (h2 : Bf l a seen todo b2) : b1 = b2 := by
 induction h1 with
 | nil => cases h2; rfl
 | hit => cases h2 <;> first | rfl | contradiction
 | skip _ _ _ _ n1 m1 _ ih =>
  cases h2 with
  | hit => exact absurd rfl n1
  | skip _ _ _ _ _ _ h => exact ih h
  | more _ _ _ _ _ m2 _ => exact absurd m1 m2
 | more _ _ _ _ n1 m1 _ ih =>
  cases h2 with
  | hit => exact absurd rfl n1
  | skip _ _ _ _ _ m2 _ => exact absurd m2 m1
  | more _ _ _ _ _ _ h => exact ih h

def Yjf (l : List Y8w) (seen : List Int) : Nat := l.countP fun e => !decide (e.id ∈ seen)
theorem Yjg {l : List Y8w} {seen : List Int} {id : Int} (hi : id ∈ l.map (·.id)) (hn : id ∉ seen) : Yjf l (id :: seen) < Yjf l seen := by
 have key : ∀ l : List Y8w, Yjf l (id :: seen) ≤ Yjf l seen ∧ (id ∈ l.map (·.id) → Yjf l (id :: seen) < Yjf l seen) := by
  intro l
  unfold Yjf
  induction l with
  | nil => simp
  | cons e l ih =>
   obtain ⟨i1, i2⟩ := ih
   by_cases he : e.id = id
   ·
    rw [List.countP_cons_of_neg (by simp [he]), List.countP_cons_of_pos (by simp [he, hn])]
    exact ⟨by omega, fun _ => by omega⟩
   ·
    by_cases hs : e.id ∈ seen
    ·
     rw [List.countP_cons_of_neg (by simp [hs]), List.countP_cons_of_neg (by simp [hs])]
     refine ⟨i1, fun h => i2 ?_⟩
     simp only [List.map_cons, List.mem_cons] at h
     exact h.resolve_left fun h => he h.symm
    ·
     rw [List.countP_cons_of_pos (by simp [hs, he]), List.countP_cons_of_pos (by simp [hs])]
     refine ⟨by omega, fun h => ?_⟩
     simp only [List.map_cons, List.mem_cons] at h
     have := i2 (h.resolve_left fun h => he h.symm)
     omega
 exact (key l).2 hi
theorem Yjh (l : List Y8w) (seen : List Int) : Yjf l seen ≤ l.length := List.countP_le_length

structure Walk (g : Y90) : Prop where
 fits : Fits g.events
 ev : ∀ e ∈ g.events, EvOk e

theorem Walk.prev {g : Y90} (h : Walk g) {id : Int} (hi : id ∈ g.events.map (·.id)) : (evD g.events id).prev.length ≤ 4 ∧ ∀ p ∈ (evD g.events id).prev, p ∈ g.events.map (·.id) := by
 obtain ⟨_, h2, _⟩ := Yj8 hi h.fits.up
 refine ⟨(h.ev _ h2).prev.1, fun p hp => ?_⟩
 obtain ⟨e, he, hid⟩ := Yf4.1 (h.fits.whole _ h2 p hp)
 exact List.mem_map.2 ⟨e, he, hid⟩

theorem Yji {l : List Y8w} {id : Int} : hasE l id = true ↔ id ∈ l.map (·.id) := by rw [Yf4, List.mem_map]

theorem Zjy {g : Y90} (h : Walk g) (a : Int) {e : Y8w} (he : e ∈ g.events) : ∃ b, Zei g a e = some b ∧ Bf g.events a [] e.prev b := by
 have hfl := h.fits.len
 have hev : evD g.events e.id = e := by unfold evD; rw [h.fits.up.evAt_mem he]; rfl
 have hpe := h.prev (List.mem_map.2 ⟨e, he, rfl⟩)
 rw [hev] at hpe
 unfold Zei
 have hcl : Zed e.prev = some e.prev := by unfold Zed; rw [chk8 (by omega)]; rfl
 rw [hcl, Option.bind_some]
 obtain ⟨o, h1, h2⟩ := Y4l (step := fun z : List (Int × Bool) × List Int × Int => Zeh g a z.1 z.2.1 z.2.2) (p := fun o : Bool ⊕ Unit => ∃ b, Bf g.events a [] e.prev b ∧ ((o = .inl true ∧ b = true) ∨ (o = .inr () ∧ b = false)))
  (fun k (z : List (Int × Bool) × List Int × Int) => ∃ (seen : List Int) (at_ : Nat), z.2.2 = (at_ : Int) ∧ at_ ≤ z.2.1.length ∧ (∀ id, Option.getD (mget z.1 id) false = true ↔ id ∈ seen) ∧ (∀ id ∈ z.2.1, id ∈ g.events.map (·.id)) ∧ z.2.1.length + 5 * Yjf g.events seen ≤ 400 ∧ (∀ b, Bf g.events a seen (z.2.1.drop at_) b → Bf g.events a [] e.prev b) ∧ k = (z.2.1.length - at_) + 5 * Yjf g.events seen) (by
  rintro k ⟨m, q, x⟩ ⟨seen, at_, hx, hat, hm, hq, hb, hB, hk⟩
  simp only at hx hat hm hq hb hB hk
  subst hx
  simp only [Zeh]
  by_cases hlt : at_ < q.length
  ·
   rw [dlt hlt, cond_true, Ye1 hlt, Option.bind_some, beqd]
   rw [List.drop_eq_getElem_cons hlt] at hB
   have hqi := hq _ (List.getElem_mem hlt)
   generalize q[at_] = id at hB hqi
   by_cases ha : id = a
   ·
    left
    rw [decide_eq_true ha, cond_true]
    subst ha
    exact ⟨_, rfl, true, hB _ (.hit _ _), .inl ⟨rfl, rfl⟩⟩
   ·
    right
    rw [decide_eq_false ha, cond_false]
    simp only [Zeg, Ye2 hlt (by omega : q.length < 9223372036854775807)]
    by_cases hs : Option.getD (mget m id) false = true
    ·
     rw [hs, cond_true]
     exact ⟨_, k - 1, rfl, by omega, seen, at_ + 1, rfl, by simp only; omega, hm, hq, hb, fun b h => hB b (.skip _ _ _ _ ha ((hm id).1 hs) h), by simp only; omega⟩
    ·
     rw [Bool.eq_false_iff.2 hs, cond_false, c_at _ _ h.fits.up (by omega), Option.bind_some]
     have hns : id ∉ seen := fun h => hs ((hm id).2 h)
     have hp := h.prev hqi
     have hu := Yjg hqi hns
     have e1 : (evAt g.events id).getD zEv = evD g.events id := rfl
     rw [e1, chk8 (by show q.length + (evD g.events id).prev.length < 1000000000; omega), Option.bind_some]
     refine ⟨_, (q.length + (evD g.events id).prev.length - (at_ + 1)) + 5 * Yjf g.events (id :: seen), rfl, by omega, id :: seen, at_ + 1, rfl, by simp; omega, fun id' => ?_, fun id' hid => ?_, by simp; omega, fun b h => hB b ?_, by simp⟩
     ·
      rw [Y67]
      by_cases h3 : id' = id
      ·
       rw [if_pos h3]; simp [h3]
      ·
       rw [if_neg h3, hm]; simp [h3]
     ·
      rcases List.mem_append.1 hid with hid | hid
      ·
       exact hq _ hid
      ·
       exact hp.2 _ hid
     ·
      refine .more _ _ _ _ ha hns ?_
      simp only at h
      rwa [List.drop_append_of_le_length (by omega)] at h
  ·
   left
   obtain rfl : at_ = q.length := by omega
   rw [dnlt, cond_false]
   rw [List.drop_length] at hB
   exact ⟨_, rfl, false, hB _ (.nil _), .inr ⟨rfl, rfl⟩⟩) big (e.prev.length + 5 * Yjf g.events []) ([], e.prev, 0) ⟨[], 0, rfl, by simp, by simp [mget], hpe.2, by have := Yjh g.events []; simp only; omega, by simp, by simp⟩ (Ydw (by have := Yjh g.events []; omega))
 obtain ⟨b, hb, h2⟩ := h2
 rw [h1, Option.bind_some]
 rcases h2 with ⟨rfl, rfl⟩ | ⟨rfl, rfl⟩
 ·
  exact ⟨true, rfl, hb⟩
 ·
  exact ⟨false, rfl, hb⟩

theorem Yjj (e : Y8w) (h : e.prev.length < 1000000) : Z5a e = some e := by
 unfold Z5a
 rw [chk8 (by simp; omega), Option.bind_some]
 rfl

theorem Yjk {g : Y90} (hl : g.events.length < 1000000) {e : Y8w} {id : Int} (he : evAt g.events id = some e) (hp : e.prev.length < 1000000) : Z5c g id = some e := by
 unfold Z5c
 obtain ⟨h1, h2⟩ := Yhy he
 rw [Yey _ _ (by omega), Option.bind_some, decide_eq_false (by omega), cond_false, h1, Option.bind_some, Yjj _ hp]; rfl

theorem Zjz {g : Y90} (h : Walk g) (a : Int) (ha : a ∈ g.events.map (·.id)) {e : Y8w} (he : e ∈ g.events) : ∃ b, Z5h g a e.id = some b ∧ Bf g.events a [] e.prev b := by
 have hfl := h.fits.len
 have hee := h.fits.up.evAt_mem he
 have hev : evD g.events e.id = e := by unfold evD; rw [hee]; rfl
 have hpe := h.prev (List.mem_map.2 ⟨e, he, rfl⟩)
 rw [hev] at hpe
 unfold Z5h
 rw [Yey _ _ (by omega), Option.bind_some, Yf0, Yji.2 ha, Yey _ _ (by omega), Option.bind_some, Yf0, Yf3 he]
 simp only [Bool.not_true, cond_false, Z5g]
 rw [Y4j (decide_eq_true ⟨by omega, by omega⟩), Option.bind_some, Yjk (by omega) hee (by omega), Option.bind_some, chk8 (by simp; omega), Option.bind_some, Int.toNat_natCast, List.nil_append]
 obtain ⟨o, h1, h2⟩ := Y4l (step := fun z : List Bool × List Int => Z5f g a z.1 z.2) (p := fun o : Bool ⊕ Unit => ∃ b, Bf g.events a [] e.prev b ∧ ((o = .inl true ∧ b = true) ∨ (o = .inr () ∧ b = false)))
  (fun k (z : List Bool × List Int) => ∃ (seen : List Int), z.1.length = g.events.length ∧ (∀ id ∈ g.events.map (·.id), getI z.1 (plc g.events id) = some (decide (id ∈ seen))) ∧ (∀ id ∈ z.2, id ∈ g.events.map (·.id)) ∧ z.2.length + 5 * Yjf g.events seen ≤ 400 ∧ (∀ b, Bf g.events a seen z.2 b → Bf g.events a [] e.prev b) ∧ k = z.2.length + 5 * Yjf g.events seen) (by
  rintro k ⟨m, q⟩ ⟨seen, hml, hm, hq, hb, hB, hk⟩
  simp only at hml hm hq hb hB hk
  simp only [Z5f]
  cases q with
  | nil =>
   left
   exact ⟨_, rfl, false, hB _ (.nil _), .inr ⟨rfl, rfl⟩⟩
  | cons id r =>
   have hqi := hq id (by simp)
   obtain ⟨i1, i2, i3⟩ := Yj8 hqi h.fits.up
   rw [decide_eq_true (by simp <;> omega), cond_true, show (0 : Int) = ((0 : Nat) : Int) from rfl, Ye1 (by simp), Option.bind_some, Y4j (decide_eq_true (by simp <;> omega)), Option.bind_some, Yey _ _ (by omega), Option.bind_some]
   simp only [List.getElem_cons_zero, List.length_cons] at hk hb ⊢
   rw [beqd]
   by_cases ha : id = a
   ·
    left
    rw [decide_eq_true ha, cond_true]
    subst ha
    exact ⟨_, rfl, true, hB _ (.hit _ _), .inl ⟨rfl, rfl⟩⟩
   ·
    right
    rw [decide_eq_false ha, cond_false, hm id hqi, Option.bind_some]
    by_cases hs : id ∈ seen
    ·
     rw [decide_eq_true hs, cond_true]
     exact ⟨_, k - 1, rfl, by omega, seen, hml, hm, fun id' h => hq id' (by simp at h; simp [h]), by simp; omega, fun b h => hB b (.skip _ _ _ _ ha hs (by simpa using h)), by simp; omega⟩
    ·
     have hp := h.prev hqi
     have hu := Yjg hqi hs
     rw [decide_eq_false hs, cond_false, (Yhy i1).1, Option.bind_some, chk8 (by simp; omega), Option.bind_some]
     refine ⟨_, r.length + (evD g.events id).prev.length + 5 * Yjf g.events (id :: seen), rfl, by omega, id :: seen, by simp [hml], fun id' hid => ?_, fun id' hid => ?_, by simp; omega, fun b h => hB b (.more _ _ _ _ ha hs (by simpa using h)), by simp⟩
     ·
      obtain ⟨p, hpl, p1, p2, p3⟩ := Yf1 (Yji.2 hid)
      obtain ⟨p', hpl', p1', p2', p3'⟩ := Yf1 (Yji.2 hqi)
      rw [p1, p1', Int.toNat_natCast]
      have hm' := hm id' hid
      rw [p1] at hm'
      by_cases h3 : id' = id
      ·
       subst h3
       obtain rfl : p = p' := by omega
       rw [Ye1 (by simp; omega)]
       simp
      ·
       have hne : p' ≠ p := fun h => by subst h; exact h3 (p2.symm.trans p2')
       rw [Ye1 (by omega)] at hm'
       rw [Ye1 (by simp; omega), List.getElem_set_ne hne]
       rw [hm']
       simp [h3]
     ·
      simp at hid
      rcases hid with hid | hid
      ·
       exact hq _ (by simp [hid])
      ·
       exact hp.2 _ hid) big (e.prev.length + 5 * Yjf g.events []) (List.replicate g.events.length false, e.prev) ⟨[], by simp, fun id hid => by
   obtain ⟨p, hpl, p1, _, _⟩ := Yf1 (Yji.2 hid)
   rw [p1, Ye1 (by simpa using hpl)]; simp, hpe.2, by have := Yjh g.events []; simp only; omega, by simp, by simp⟩ (Ydw (by have := Yjh g.events []; omega))
 obtain ⟨b, hb, h2⟩ := h2
 rw [h1, Option.bind_some]
 rcases h2 with ⟨rfl, rfl⟩ | ⟨rfl, rfl⟩
 ·
  exact ⟨true, rfl, hb⟩
 ·
  exact ⟨false, rfl, hb⟩

theorem Bf.none {g : Y90} (h : Walk g) {a : Int} (ha : a ∉ g.events.map (·.id)) {seen todo : List Int} {b : Bool} (hb : Bf g.events a seen todo b) (ht : ∀ id ∈ todo, id ∈ g.events.map (·.id)) : b = false := by
 induction hb with
 | nil => rfl
 | hit => exact absurd (ht a (by simp)) ha
 | skip _ _ _ _ _ _ _ ih => exact ih fun id hid => ht id (by simp [hid])
 | more _ r id _ _ _ _ ih =>
  refine ih fun id' hid => ?_
  rcases List.mem_append.1 hid with hid | hid
  ·
   exact ht id' (by simp [hid])
  ·
   exact (h.prev (ht id (by simp))).2 _ hid

theorem Yjl {g : Y90} (h : Walk g) (a : Int) {e : Y8w} (he : e ∈ g.events) : ∃ b, Z5h g a e.id = some b ∧ Zei g a e = some b := by
 obtain ⟨b, h1, h2⟩ := Zjy h a he
 by_cases ha : a ∈ g.events.map (·.id)
 ·
  obtain ⟨b', h3, h4⟩ := Zjz h a ha he
  have := h2.det h4
  subst this
  exact ⟨b, h3, h1⟩
 ·
  have hpe := h.prev (List.mem_map.2 ⟨e, he, rfl⟩)
  have hev : evD g.events e.id = e := by unfold evD; rw [h.fits.up.evAt_mem he]; rfl
  rw [hev] at hpe
  have := h2.none h ha hpe.2
  subst this
  refine ⟨false, ?_, h1⟩
  have hfl := h.fits.len
  unfold Z5h
  rw [Yey _ _ (by omega), Option.bind_some, Yf0, Bool.eq_false_iff.2 (fun hh => ha (Yji.1 hh))]
  rfl


def Cons (l : List Y8w) (d : List Int) : Prop := ∀ (i : Nat) (hi : i < l.length), d.getD i 0 > 0 → own l d l[i] = d.getD i 0

theorem Yjm {l : List Y8w} {d : List Int} {e : Y8w} (h : own l d e > 0) : e.prev.all (fun p => decide (dOf l d p > 0)) = true := by
 unfold own at h
 split at h
 ·
  assumption
 ·
  omega

theorem Yjn {f g : Int → Int → Int} : ∀ {l : List Int} {m : Int}, (∀ m, ∀ p ∈ l, f m p = g m p) → l.foldl f m = l.foldl g m
 | [], _, _ => rfl
 | p :: l, m, h => by rw [List.foldl_cons, List.foldl_cons, h m p (by simp)]; exact Yjn fun m q hq => h m q (by simp [hq])

theorem Yjo {l : List Y8w} {d : List Int} (hd : d.length = l.length) (hw : Yfh l) {i : Nat} {v : Int} (h0 : d.getD i 0 = 0) {e : Y8w} (he : e ∈ l) (h : own l d e > 0) : own l (d.set i v) e = own l d e := by
 have hp := Yjm h
 have hsame : ∀ p ∈ e.prev, dOf l (d.set i v) p = dOf l d p := fun p hp' => by
  have h1 := of_decide_eq_true (List.all_eq_true.1 hp p hp')
  obtain ⟨k, hk, k1, _, _⟩ := Yf1 (hw e he p hp')
  unfold dOf at h1 ⊢
  rw [k1] at h1 ⊢
  have hkd : k < d.length := by omega
  rw [Ye1 hkd] at h1
  rw [Ye1 (by simpa using hkd), Ye1 hkd]
  by_cases hik : i = k
  ·
   subst hik
   simp only [List.getD_eq_getElem?_getD, List.getElem?_eq_getElem hkd, Option.getD_some] at h0
   simp only [Option.getD_some] at h1
   omega
  ·
   rw [List.getElem_set_ne hik]
 unfold own
 have e1 : e.prev.all (fun p => decide (dOf l (d.set i v) p > 0)) = e.prev.all (fun p => decide (dOf l d p > 0)) := by
  rw [Bool.eq_iff_iff, List.all_eq_true, List.all_eq_true]
  constructor
  ·
   intro h2 p hp'; have := h2 p hp'; rwa [hsame p hp'] at this
  ·
   intro h2 p hp'; rw [hsame p hp']; exact h2 p hp'
 rw [e1, Yjn fun m p hp' => by rw [hsame p hp']]

theorem Cons.upd {l : List Y8w} {d : List Int} {c i : Nat} (hw : Yfh l) (hb : Bd l c d) (hi : i < l.length) (h : Cons l d) : Cons l (updD l d i) := by
 rcases Yfr hb hi with h1 | ⟨h1, h2, h3, _⟩
 ·
  rw [h1]; exact h
 ·
  rw [h3]
  have e2 : l.getD i zEv = l[i] := by simp [hi]
  rw [e2] at h2 ⊢
  intro j hj hpos
  have hjd : j < d.length := by rw [hb.len]; exact hj
  have hid : i < d.length := by rw [hb.len]; exact hi
  by_cases hij : i = j
  ·
   subst hij
   rw [Yjo hb.len hw h1 (List.getElem_mem hi) h2]
   simp [hid]
  ·
   have e3 : (d.set i (own l d l[i])).getD j 0 = d.getD j 0 := by
    simp only [List.getD_eq_getElem?_getD, List.getElem?_set_ne hij]
   rw [e3] at hpos ⊢
   have h4 := h j hj hpos
   rw [Yjo hb.len hw h1 (List.getElem_mem hj) (by omega)]
   exact h4

theorem Cons.sweep {l : List Y8w} {d : List Int} {c : Nat} (hw : Yfh l) (hb : Bd l c d) (h : Cons l d) : Cons l (sweep l d) := by
 unfold Go.Proofs.YtbgichfjcnibpaaGreat.sweep
 suffices key : ∀ (r : List Nat) (c : Nat) (d : List Int), (∀ i ∈ r, i < l.length) → Bd l c d → Cons l d → Cons l (r.foldl (updD l) d) from key _ c d (fun i hi => by simpa using hi) hb h
 intro r
 induction r with
 | nil => intro c d _ _ h; exact h
 | cons i r ih =>
  intro c d hr hb h
  rw [List.foldl_cons]
  exact ih (c + 1) _ (fun j hj => hr j (by simp [hj])) (Yfn hw hb (hr i (by simp))) (h.upd hw hb (hr i (by simp)))

theorem Yjp {l : List Y8w} (hf : Fits l) : Cons l (Yfj l) := by
 unfold Yfj
 have hz : Bd l 0 (List.replicate l.length 0) := ⟨by simp, fun x hx => by rw [List.eq_of_mem_replicate hx]; simp⟩
 have key : ∀ k, k ≤ l.length → Cons l (Yfi l k (List.replicate l.length 0)) := by
  intro k
  induction k with
  | zero =>
   intro _ i hi h
   simp [Yfi, hi] at h
  | succ k ih =>
   intro hk
   exact (ih (by omega)).sweep hf.whole (Yfv hf hz k (by omega))
 exact key _ (Nat.le_refl _)

theorem Yjq (a b : Int) : a ≤ mx2 a b ∧ b ≤ mx2 a b := by unfold mx2; split <;> omega
theorem Yjr {l : List Y8w} (hf : Fits l) (hd : Deep l) {e : Y8w} (he : e ∈ l) {p : Int} (hp : p ∈ e.prev) : dOf l (Yfj l) p < dOf l (Yfj l) e.id := by
 obtain ⟨i, hi, rfl⟩ := List.mem_iff_getElem.1 he
 have hb := (Yfp hf).2
 have hid : i < (Yfj l).length := by rw [hb.len]; exact hi
 have e1 : dOf l (Yfj l) l[i].id = (Yfj l)[i] := by
  unfold dOf
  rw [(hf.up.plc hi).1, Ye1 hid]; rfl
 have e2 : (Yfj l).getD i 0 = (Yfj l)[i] := by simp [hid]
 have hpos := hd _ (List.getElem_mem hid)
 have hc := Yjp hf i hi (by rw [e2]; exact hpos)
 rw [e2] at hc
 rw [e1]
 have ha := Yjm (l := l) (d := Yfj l) (e := l[i]) (by omega)
 unfold own at hc
 rw [if_pos ha] at hc
 have hmx : ∀ (ps : List Int) (m : Int), p ∈ ps → dOf l (Yfj l) p ≤ ps.foldl (fun m p => mx2 m (dOf l (Yfj l) p)) m := by
  intro ps
  have hmono : ∀ (ps : List Int) (m : Int), m ≤ ps.foldl (fun m p => mx2 m (dOf l (Yfj l) p)) m := by
   intro ps
   induction ps with
   | nil => intro m; exact Int.le_refl _
   | cons q ps ih => intro m; rw [List.foldl_cons]; have := ih (mx2 m (dOf l (Yfj l) q)); have := (Yjq m (dOf l (Yfj l) q)).1; omega
  induction ps with
  | nil => intro m h; cases h
  | cons q ps ih =>
   intro m h
   rw [List.foldl_cons]
   rcases List.mem_cons.1 h with rfl | h
   ·
    have := hmono ps (mx2 m (dOf l (Yfj l) p)); have := (Yjq m (dOf l (Yfj l) p)).2; omega
   ·
    exact ih _ h
 have := hmx _ 0 hp
 omega
end Go.Proofs.YtbgichfjcnibpaaGreat
namespace Go.Proofs.YtbgichfjcnibpaaGreat
open Go Go.Abs

theorem Yjs {τ1 τ2 ω1 ω2 σ1 σ2 : Type} {step1 : τ1 → Option (τ1 ⊕ ω1)} {step2 : τ2 → Option (τ2 ⊕ ω2)} {n : Nat} (emb1 : σ1 → Int → τ1) (emb2 : σ2 → Int → τ2) (I : Nat → σ1 → σ2 → Prop) (Q : ω1 → ω2 → Prop) (hn : n < 9223372036854775807)
  (h1 : ∀ (i : Nat) (s : σ1) (t : σ2), i < n → I i s t → ∃ s' t', step1 (emb1 s i) = some (.inl (emb1 s' ((i + 1 : Nat) : Int))) ∧ step2 (emb2 t i) = some (.inl (emb2 t' ((i + 1 : Nat) : Int))) ∧ I (i + 1) s' t')
  (h2 : ∀ s t, I n s t → ∃ o o', step1 (emb1 s n) = some (.inr o) ∧ step2 (emb2 t n) = some (.inr o') ∧ Q o o') {s : σ1} {t : σ2} (h0 : I 0 s t) :
  ∃ o o', iter step1 big (emb1 s 0) = some o ∧ iter step2 big (emb2 t 0) = some o' ∧ Q o o' := by
 have key : ∀ m i k : Nat, ∀ s t, i + m = n → m < k → I i s t → ∃ o o', iter step1 k (emb1 s i) = some o ∧ iter step2 k (emb2 t i) = some o' ∧ Q o o' := by
  intro m
  induction m with
  | zero =>
   intro i k s t hm hk hi
   obtain ⟨k, rfl⟩ : ∃ k', k = k' + 1 := ⟨k - 1, by omega⟩
   obtain rfl : i = n := by omega
   obtain ⟨o, o', e1, e2, hq⟩ := h2 s t hi
   exact ⟨o, o', by rw [iter, e1]; rfl, by rw [iter, e2]; rfl, hq⟩
  | succ m ih =>
   intro i k s t hm hk hi
   obtain ⟨k, rfl⟩ : ∃ k', k = k' + 1 := ⟨k - 1, by omega⟩
   obtain ⟨s', t', e1, e2, hi'⟩ := h1 i s t (by omega) hi
   obtain ⟨o, o', f1, f2, hq⟩ := ih (i + 1) k s' t' (by omega) (by omega) hi'
   exact ⟨o, o', by rw [iter, e1]; exact f1, by rw [iter, e2]; exact f2, hq⟩
 exact key n 0 big s t (by omega) (Ydw (by omega)) h0


theorem Yjt {l : List Y8w} {k : Nat} (hk : k < l.length) : idPl l (k : Int) = l[k].id := by unfold idPl; simp [hk]
theorem Yju {l : List Y8w} (hf : Fits l) {k : Nat} (hk : k < l.length) : dd (Yfj l) (k : Int) = dOf l (Yfj l) l[k].id := by
 have hb := (Yfp hf).2
 have hkd : k < (Yfj l).length := by rw [hb.len]; exact hk
 unfold dd dOf
 rw [(hf.up.plc hk).1, Ye1 hkd]
 simp [hkd]

theorem Yjv {l : List Y8w} (hf : Fits l) {k : Nat} (hk : k < l.length) : (k : Int) ∈ Ygr l := by
 refine (Ygt hf).2.1.mem_iff.2 ?_
 unfold idt
 exact List.mem_map.2 ⟨k, List.mem_range'_1.2 ⟨by omega, by omega⟩, rfl⟩

theorem Yjw {l : List Y8w} (hf : Fits l) : (Ygs l).length = l.length := by unfold Ygs; rw [List.length_map, Ygv hf]
theorem Yjx {l : List Y8w} (hf : Fits l) {id : Int} : id ∈ Ygs l ↔ id ∈ l.map (·.id) := by
 unfold Ygs
 rw [List.mem_map, List.mem_map]
 constructor
 ·
  rintro ⟨x, hx, rfl⟩
  obtain ⟨k, rfl, hk⟩ := Ygu hf hx
  exact ⟨l[k], List.getElem_mem hk, (Yjt hk).symm⟩
 ·
  rintro ⟨e, he, rfl⟩
  obtain ⟨k, hk, rfl⟩ := List.mem_iff_getElem.1 he
  exact ⟨(k : Int), Yjv hf hk, Yjt hk⟩
theorem Yjy {l : List Y8w} (hf : Fits l) : (Ygs l).Nodup := by
 unfold Ygs
 rw [List.nodup_iff_pairwise_ne, List.pairwise_map]
 refine List.Pairwise.imp_of_mem (fun {a b} ha hb hab he => ?_) (Ygt hf).2.2
 obtain ⟨i, rfl, hi⟩ := Ygu hf ha
 obtain ⟨j, rfl, hj⟩ := Ygu hf hb
 rw [Yjt hi, Yjt hj] at he
 obtain rfl := hf.up.inj hi hj he
 unfold Lt2 at hab; omega

theorem Yjz {l : List Y8w} {i : Nat} (h1 : i < (Ygr l).length) (h2 : i < (Ygs l).length) : (Ygs l)[i] = idPl l (Ygr l)[i] := List.getElem_map _
theorem Yk0 {l : List Y8w} (hf : Fits l) (hd : Deep l) {i : Nat} (hi : i < (Ygs l).length) {e : Y8w} (he : evAt l (Ygs l)[i] = some e) {p : Int} (hp : p ∈ e.prev) : p ∈ (Ygs l).take i := by
 obtain ⟨hel, hid⟩ := Yf5 he
 obtain ⟨f, hfl, hfid⟩ := Yf4.1 (hf.whole e hel p hp)
 obtain ⟨k, hk, rfl⟩ := List.mem_iff_getElem.1 hfl
 obtain ⟨u, hu, huk⟩ := List.mem_iff_getElem.1 (Yjv hf hk)
 have hlt := Yjr hf hd hel hp
 have hil : i < (Ygr l).length := by rw [Ygv hf]; rw [Yjw hf] at hi; exact hi
 obtain ⟨x, hx, hxl⟩ := Ygu hf (List.getElem_mem hil)
 have e1 : (Ygs l)[i] = l[x].id := by
  rw [Yjz hil hi, hx, Yjt hxl]
 have d1 := Yju hf hxl
 have d2 := Yju hf hk
 rw [← e1, ← hid] at d1
 rw [hfid] at d2
 have hui : u < i := by
  rcases Nat.lt_trichotomy u i with h | h | h
  ·
   exact h
  ·
   subst h
   rw [hx] at huk
   have : x = k := by omega
   subst this
   omega
  ·
   have := List.pairwise_iff_getElem.1 (Ygt hf).2.2 i u hil hu h
   rw [hx, huk] at this
   unfold Lt2 at this; omega
 have hul : u < (Ygs l).length := by omega
 have e2 : (Ygs l)[u] = p := by
  rw [Yjz hu hul, huk, Yjt hk, hfid]
 have : ((Ygs l).take i)[u]'(by simp; omega) = p := by simp [e2]
 rw [← this]
 exact List.getElem_mem _


def Yk1 (g : Y90) (a : Int) (e : Y8w) : Bool := (Zei g a e).getD false
def Yk2 (g : Y90) (s : List Y92) (e : Y8w) : Int := if alw g s e = 0 ∧ e.kind = 8 ∧ Yk1 g e.key e = false then 6 else alw g s e
def Yk3 (g : Y90) (s : List Y92) (e : Y8w) : List Y92 := if Yk2 g s e = 0 ∧ e.kind ≤ 6 then putE s e else s

theorem Yk4 {g : Y90} (hu : Up2 g.events) {s : List Y92} (hs : StOk g.events s) {e : Y8w} (he : e ∈ g.events) : StOk g.events (Yk3 g s e) := by
 unfold Yk3
 split
 ·
  exact hs.put (hu.evAt_mem he)
 ·
  exact hs

structure Yk5 (g : Y90) (ls : Int → List Y92) (B A : List (Int × List Y92)) (R : List (Int × Int)) (ah bh : List (List Y92)) (cd : List Int) (e : Y8w) : Prop where
 ok : StOk g.events (Yjc g (e.prev.map ls))
 mB : mget B e.id = some (Yjc g (e.prev.map ls))
 mR : mget R e.id = some (Yk2 g (Yjc g (e.prev.map ls)) e)
 mA : mget A e.id = some (Yk3 g (Yjc g (e.prev.map ls)) e)
 ga : getI ah (plc g.events e.id) = some (Yjc g (e.prev.map ls))
 gc : getI cd (plc g.events e.id) = some (Yk2 g (Yjc g (e.prev.map ls)) e)
 gb : getI bh (plc g.events e.id) = some (Yk3 g (Yjc g (e.prev.map ls)) e)

def behI (A : List (Int × List Y92)) (id : Int) : List Y92 := Option.getD (mget A id) []

structure Yk6 (g : Y90) : Prop where
 fits : Fits g.events
 ev : ∀ e ∈ g.events, EvOk e
 deep : Deep g.events
theorem GOk.right {g : Y90} (h : GOk g) : Yk6 g := ⟨h.fits, fun e he => (h.ev e he).1, h.deep⟩
theorem Yk6.walk {g : Y90} (h : Yk6 g) : Walk g := ⟨h.fits, h.ev⟩

theorem Yk7 {g : Y90} (h : Yk6 g) (a : Int) {e : Y8w} (he : e ∈ g.events) : Z5h g a e.id = some (Yk1 g a e) ∧ Zei g a e = some (Yk1 g a e) := by
 obtain ⟨b, h1, h2⟩ := Yjl h.walk a he
 unfold Yk1
 rw [h1, h2]
 exact ⟨rfl, rfl⟩

theorem Yk8 {α : Type} {l : List α} {k j : Nat} {v : α} (hk : k < l.length) : getI (l.set k v) (j : Int) = if j = k then some v else getI l (j : Int) := by
 have h0 : (0 : Int) ≤ (j : Int) := by omega
 simp only [getI, h0, if_true, Int.toNat_natCast]
 by_cases h : j = k
 ·
  subst h; rw [if_pos rfl, List.getElem?_set_self hk]
 ·
  rw [if_neg h, List.getElem?_set_ne (by omega)]

theorem Zk0 {h : Y96} (hr : Yk6 h.graph) (hk : Yjd h) {e : Y8w} (he : e ∈ h.graph.events) (hpl : ∀ p ∈ e.prev, StOk h.graph.events (behI h.after p)) :
  Zen h e = some (mset h.before e.id (Yjc h.graph (e.prev.map (behI h.after))), mset h.after e.id (Yk3 h.graph (Yjc h.graph (e.prev.map (behI h.after))) e), mset h.refused e.id (Yk2 h.graph (Yjc h.graph (e.prev.map (behI h.after))) e)) := by
 have hp4 := (hr.ev e he).prev.1
 have hst : Zby h e.prev = some (e.prev.map (behI h.after)) := by
  unfold Zby
  have := Yei (l := e.prev) (step := fun z : List (List Y92) × Int => Zbx h e.prev z.1 z.2) (fun q j => (q, j)) (fun q => q) (fun q p => q ++ [behI h.after p]) (fun i q => q.length = i) (by omega) (fun i q hi hq => by
   refine ⟨?_, by simp [hq]⟩
   simp only [Zbx]
   rw [dlt hi, cond_true, Ye1 hi, Option.bind_some, Yhf (by simp; omega), Option.bind_some, Ye2 hi (by omega)]; rfl)
   (fun q _ => by simp only [Zbx]; rw [dnlt, cond_false]) (s := []) rfl
  have e1 : ∀ (r : List Int) (q : List (List Y92)), r.foldl (fun q p => q ++ [behI h.after p]) q = q ++ r.map (behI h.after) := by
   intro r
   induction r with
   | nil => intro q; simp
   | cons p r ih => intro q; rw [List.foldl_cons, ih]; simp
  rw [this.1, e1]; rfl
 have hm : Mrg h.graph (e.prev.map (behI h.after)) := ⟨hr.fits, hr.ev, hr.deep, fun s hs => by obtain ⟨p, hp, rfl⟩ := List.mem_map.1 hs; exact hpl p hp, by simp; omega⟩
 obtain ⟨_, c2, c3⟩ := Yje hm hk
 unfold Zen
 rw [hst, Option.bind_some, c2, Option.bind_some, (Yi9 (hm.sts c3) (hr.ev e he).ask).2, Option.bind_some, (Yk7 hr _ he).2, beqd, beqd]
 have hsl := hm.slen c3
 generalize Yjc h.graph (e.prev.map (behI h.after)) = s at c3 hsl
 have hid := (hr.ev e he).id.1
 have hput := Yht c3.up (Y92.mk e.kind e.key e.id) (by simp only; omega) (by omega)
 simp only [Zem, Zel, Zek, Option.bind_some, hput, Y68, beqd]
 unfold Yk3 Yk2 putE
 by_cases h1 : alw h.graph s e = 0
 ·
  by_cases h2 : e.kind = 8
  ·
   cases h3 : Yk1 h.graph e.key e with
   | false => simp [h1, h2]
   | true => simp [h1, h2]
  ·
   by_cases h4 : e.kind ≤ 6
   ·
    simp [h1, h2, h4]
   ·
    simp [h1, h2, h4]
 ·
  simp [h1]
end Go.Proofs.YtbgichfjcnibpaaGreat
namespace Go.Proofs.YtbgichfjcnibpaaGreat
open Go Go.Abs

theorem Yk9 {α β : Type} (f : α → β) : ∀ (r : List α) (q : List β), r.foldl (fun q p => q ++ [f p]) q = q ++ r.map f
 | [], q => by simp
 | p :: r, q => by rw [List.foldl_cons, Yk9 f r]; simp

theorem Zk1 {g : Y90} (hr : Yk6 g) {od : List Int} {ah bh : List (List Y92)} {cd : List Int} (ls : Int → List Y92) {i : Nat} (hi : i < od.length) (hil : i < g.events.length) {k : Nat} (hk : k < g.events.length) (hid : od[i] = g.events[k].id)
  (la : ah.length = g.events.length) (lb : bh.length = g.events.length) (lc : cd.length = g.events.length) (hpl : ∀ p ∈ g.events[k].prev, StOk g.events (ls p) ∧ getI bh (plc g.events p) = some (ls p)) :
  Z5q g (Yfj g.events) od ah bh cd (i : Int) = some (.inl (ah.set k (Yjc g (g.events[k].prev.map ls)), bh.set k (Yk3 g (Yjc g (g.events[k].prev.map ls)) g.events[k]), cd.set k (Yk2 g (Yjc g (g.events[k].prev.map ls)) g.events[k]), ((i + 1 : Nat) : Int))) := by
 have hfl := hr.fits.len
 have he : g.events[k] ∈ g.events := List.getElem_mem hk
 have hev := hr.ev _ he
 have hp4 := hev.prev.1
 have hplc := (hr.fits.up.plc hk).1
 simp only [Z5q]
 rw [dlt hil, cond_true, Ye1 hi, Option.bind_some, hid, Yey _ _ (by omega), Option.bind_some, hplc, Ye1 hk, Option.bind_some]
 generalize g.events[k] = e at *
 have h7 := Yei (l := e.prev) (step := fun z : List (List Y92) × Int => Z5p g bh e z.1 z.2) (fun q j => (q, j)) (fun q => q) (fun q p => q ++ [ls p]) (fun i q => q.length = i) (by omega) (fun i q hi hq => by
  refine ⟨?_, by simp [hq]⟩
  simp only [Z5p]
  rw [dlt hi, cond_true, Ye1 hi, Option.bind_some, Yey _ _ (by omega), Option.bind_some, (hpl _ (List.getElem_mem hi)).2, Option.bind_some, Yhf (by simp; omega), Option.bind_some, Ye2 hi (by omega)])
  (fun q _ => by simp only [Z5p]; rw [dnlt, cond_false]) (s := []) rfl
 rw [h7.1, Yk9, Option.bind_some, List.nil_append]
 have hm : Mrg g (e.prev.map ls) := ⟨hr.fits, hr.ev, hr.deep, fun s hs => by obtain ⟨p, hp, rfl⟩ := List.mem_map.1 hs; exact (hpl p hp).1, by simp; omega⟩
 -- any history that knows the depths
 have hkn : Yjd (Y96.mk g (g.events.map fun e => (e.id, dmR g.events e)) [] [] []) := by
  intro e' he'
  have key : ∀ l : List Y8w, e' ∈ l → mget (l.map fun e => (e.id, dmR g.events e)) e'.id = some (dmR g.events e') := by
   intro l
   induction l with
   | nil => intro h; cases h
   | cons f l ih =>
    intro h
    simp only [List.map_cons, mget]
    by_cases hf : e'.id = f.id
    ·
     rw [if_pos hf]
     unfold dmR
     rw [hf]
    ·
     rw [if_neg hf]
     rcases List.mem_cons.1 h with rfl | h
     ·
      exact absurd rfl hf
     ·
      exact ih h
  exact key _ he'
 obtain ⟨c1, _, c3⟩ := Yje (h := Y96.mk g (g.events.map fun e => (e.id, dmR g.events e)) [] [] []) hm hkn
 simp only at c1 c3
 simp only [Z5o]
 rw [c1, Option.bind_some, Ye1 (by omega : k < ah.length), Option.bind_some, Int.toNat_natCast, Yk8 (by omega), if_pos rfl, Option.bind_some, (Yi9 (hm.sts c3) hev.ask).1, Option.bind_some, Ye1 (by omega : k < cd.length), Option.bind_some, Yk8 (by omega), if_pos rfl, Option.bind_some, (Yk7 hr _ he).1, beqd, beqd]
 have hsl := hm.slen c3
 generalize Yjc g (e.prev.map ls) = s at c3 hsl
 have hput := Yhi c3.up (Y92.mk e.kind e.key e.id) (by omega)
 have w1 : IntKind.i64.wrap ((i : Int) + 1) = ((i + 1 : Nat) : Int) := Ye2 hil (by omega)
 simp only [Z5n, Z5m, Z5l, Z5k, Int.toNat_natCast, hput, List.nil_append]
 rw [Yhf (by simp; omega)]
 have hgb : ∀ v : List Y92, getI (bh.set k v) (k : Int) = some v := fun v => by rw [Yk8 (by omega), if_pos rfl]
 have hgc : ∀ v : Int, getI (cd.set k v) (k : Int) = some v := fun v => by rw [Yk8 (by omega), if_pos rfl]
 have hgb0 := Ye1 (by omega : k < bh.length)
 simp only [Option.bind_some, hgb, hgc, hgb0, w1, List.set_set, beqd]
 unfold Yk3 Yk2 putE
 by_cases h1 : alw g s e = 0
 ·
  by_cases h2 : e.kind = 8
  ·
   cases h3 : Yk1 g e.key e with
   | false => simp [h1, h2, hgc]
   | true => simp [h1, h2, hgc]
  ·
   by_cases h4 : e.kind ≤ 6
   ·
    simp [h1, h2, h4, hgc]
   ·
    simp [h1, h2, h4, hgc]
 ·
  simp [h1, hgc]

structure Both (g : Y90) (h : Y96) (w : Y93) : Prop where
 graph : h.graph = g
 depth : Yjd h
 depths : w.depths = Yfj g.events
 la : w.ahead.length = g.events.length
 lb : w.behind.length = g.events.length
 lc : w.code.length = g.events.length
 all : ∀ e ∈ g.events, Yk5 g (behI h.after) h.before h.after h.refused w.ahead w.behind w.code e

theorem Yka {A : List (Int × List Y92)} {id p : Int} {t : List Y92} (h : p ≠ id) : behI (mset A id t) p = behI A p := by
 unfold behI; rw [Y67, if_neg h]

theorem Ykb {g : Y90} (hr : Yk6 g) : ∃ h w, Zet g = some h ∧ Z5s g = some w ∧ Both g h w := by
 have hfl := hr.fits.len
 obtain ⟨e0, hb⟩ := Yfp hr.fits
 have hol := Yjw hr.fits
 -- the depths
 obtain ⟨m, hm1, hm2⟩ : ∃ m, iter (fun z : List (Int × Int) × Int => Zes g (Yfj g.events, decide (Yfq (Yfj g.events) = 0)) z.1 z.2) big ([], 0) = some m ∧ ∀ e ∈ g.events, mget m e.id = some (dmR g.events e) := by
  obtain ⟨o, h1, h2⟩ := Ydz (τ := List (Int × Int) × Int) (ω := List (Int × Int)) (σ := List (Int × Int)) (step := fun z : List (Int × Int) × Int => Zes g (Yfj g.events, decide (Yfq (Yfj g.events) = 0)) z.1 z.2) (n := g.events.length) (fun s j => (s, j))
   (fun i s => ∀ (j : Nat) (hj : j < g.events.length), j < i → mget s g.events[j].id = some (dmR g.events g.events[j])) (fun o => ∀ (j : Nat) (hj : j < g.events.length), mget o g.events[j].id = some (dmR g.events g.events[j])) (by omega) (by
   intro i s hi hI
   have hid : i < (Yfj g.events).length := by rw [hb.len]; exact hi
   refine ⟨mset s g.events[i].id (Yfj g.events)[i], ?_, fun j hj hji => ?_⟩
   ·
    simp only [Zes]
    rw [dlt hi, cond_true, Ye1 hi, Option.bind_some, Ye1 hid, Option.bind_some, Ye2 hi (by omega)]
   ·
    rw [Y67]
    by_cases he : g.events[j].id = g.events[i].id
    ·
     rw [if_pos he]
     obtain rfl := hr.fits.up.inj hj hi he
     unfold dmR dOf
     rw [(hr.fits.up.plc hj).1, Ye1 hid]; rfl
    ·
     rw [if_neg he]
     exact hI j hj (by
      rcases Nat.lt_or_ge j i with h | h
      ·
       exact h
      ·
       obtain rfl : j = i := by omega
       exact absurd rfl he)) (by
   intro s hI
   simp only [Zes]
   rw [dnlt, cond_false]
   exact ⟨s, rfl, fun j hj => hI j hj hj⟩) (s := []) (fun j hj h => by omega)
  refine ⟨o, h1, fun e he => ?_⟩
  obtain ⟨j, hj, rfl⟩ := List.mem_iff_getElem.1 he
  exact h2 j hj
 -- the states
 have hpos : ∀ i, (hi : i < (Ygs g.events).length) → ∃ k, ∃ hk : k < g.events.length, (Ygs g.events)[i] = g.events[k].id := fun i hi => by
  obtain ⟨e, he, h1⟩ := List.mem_map.1 ((Yjx hr.fits).1 (List.getElem_mem hi))
  obtain ⟨k, hk, rfl⟩ := List.mem_iff_getElem.1 he
  exact ⟨k, hk, h1.symm⟩
 obtain ⟨⟨B, A, R⟩, ⟨ah, bh, cd⟩, q1, q2, la, lb, lc, hall⟩ := Yjs (step1 := fun z : List (Int × List Y92) × List (Int × List Y92) × List (Int × Int) × Int => Zeq g m (Ygs g.events) z.1 z.2.1 z.2.2.1 z.2.2.2) (step2 := fun z : List (List Y92) × List (List Y92) × List Int × Int => Z5q g (Yfj g.events) (Ygs g.events) z.1 z.2.1 z.2.2.1 z.2.2.2) (n := g.events.length)
  (fun (s : List (Int × List Y92) × List (Int × List Y92) × List (Int × Int)) j => (s.1, s.2.1, s.2.2, j)) (fun (s : List (List Y92) × List (List Y92) × List Int) j => (s.1, s.2.1, s.2.2, j))
  (fun i s t => t.1.length = g.events.length ∧ t.2.1.length = g.events.length ∧ t.2.2.length = g.events.length ∧ ∀ e ∈ g.events, e.id ∈ (Ygs g.events).take i → Yk5 g (behI s.2.1) s.1 s.2.1 s.2.2 t.1 t.2.1 t.2.2 e)
  (fun (s : List (Int × List Y92) × List (Int × List Y92) × List (Int × Int)) (t : List (List Y92) × List (List Y92) × List Int) => t.1.length = g.events.length ∧ t.2.1.length = g.events.length ∧ t.2.2.length = g.events.length ∧ ∀ e ∈ g.events, Yk5 g (behI s.2.1) s.1 s.2.1 s.2.2 t.1 t.2.1 t.2.2 e) (by omega) (by
  rintro i ⟨B, A, R⟩ ⟨ah, bh, cd⟩ hi ⟨la, lb, lc, hI⟩
  simp only at la lb lc hI ⊢
  have hio : i < (Ygs g.events).length := by omega
  obtain ⟨k, hk, hid⟩ := hpos i hio
  have he : g.events[k] ∈ g.events := List.getElem_mem hk
  have hevat : evAt g.events (Ygs g.events)[i] = some g.events[k] := by rw [hid]; exact (hr.fits.up.plc hk).2
  have hprev : ∀ p ∈ g.events[k].prev, ∃ f ∈ g.events, f.id = p ∧ p ∈ (Ygs g.events).take i := fun p hp => by
   obtain ⟨f, hf, hfid⟩ := Yf4.1 (hr.fits.whole _ he p hp)
   exact ⟨f, hf, hfid, Yk0 hr.fits hr.deep hio hevat hp⟩
  have hknow : ∀ p ∈ g.events[k].prev, StOk g.events (behI A p) ∧ getI bh (plc g.events p) = some (behI A p) := fun p hp => by
   obtain ⟨f, hf, hfid, ht⟩ := hprev p hp
   subst hfid
   have hk := hI f hf ht
   have e1 : behI A f.id = Yk3 g (Yjc g (f.prev.map (behI A))) f := by
    show Option.getD (mget A f.id) [] = _
    rw [hk.mA]; rfl
   rw [e1]
   exact ⟨Yk4 hr.fits.up hk.ok hf, hk.gb⟩
  have hks : Yjd (Y96.mk g m B A R) := hm2
  have s1 := Zk0 (h := Y96.mk g m B A R) hr hks he (fun p hp => (hknow p hp).1)
  have s2 := Zk1 hr (od := Ygs g.events) (ah := ah) (bh := bh) (cd := cd) (behI A) hio hi hk hid la lb lc hknow
  have hm : Mrg g (g.events[k].prev.map (behI A)) := ⟨hr.fits, hr.ev, hr.deep, fun s hs => by obtain ⟨p, hp, rfl⟩ := List.mem_map.1 hs; exact (hknow p hp).1, by have := (hr.ev _ he).prev.1; simp; omega⟩
  have hsok := (Yje (h := Y96.mk g m B A R) hm hks).2.2
  simp only at s1 hsok
  refine ⟨(mset B g.events[k].id (Yjc g (g.events[k].prev.map (behI A))), mset A g.events[k].id (Yk3 g (Yjc g (g.events[k].prev.map (behI A))) g.events[k]), mset R g.events[k].id (Yk2 g (Yjc g (g.events[k].prev.map (behI A))) g.events[k])), (ah.set k (Yjc g (g.events[k].prev.map (behI A))), bh.set k (Yk3 g (Yjc g (g.events[k].prev.map (behI A))) g.events[k]), cd.set k (Yk2 g (Yjc g (g.events[k].prev.map (behI A))) g.events[k])), ?_, s2, by simp [la], by simp [lb], by simp [lc], ?_⟩
  ·
   simp only [Zeq]
   rw [dlt hio, cond_true, Ye1 hio, Option.bind_some, c_at _ _ hr.fits.up (by omega), hevat, Option.bind_some]
   simp only [Option.getD_some]
   rw [s1, Option.bind_some, Ye2 hio (by omega)]
  ·
   intro e hem het
   have hself : ∀ p ∈ g.events[k].prev, p ≠ g.events[k].id := fun p hp => ((hr.ev _ he).prev.2.1 p hp).2.2
   have hpk := (hr.fits.up.plc hk).1
   by_cases hek : e = g.events[k]
   ·
    subst hek
    have e1 : g.events[k].prev.map (behI (mset A g.events[k].id (Yk3 g (Yjc g (g.events[k].prev.map (behI A))) g.events[k]))) = g.events[k].prev.map (behI A) := List.map_congr_left fun p hp => Yka (hself p hp)
    refine ⟨?_, ?_, ?_, ?_, ?_, ?_, ?_⟩
    ·
     simp only [e1]; exact hsok
    ·
     simp only [e1]; rw [Y67, if_pos rfl]
    ·
     simp only [e1]; rw [Y67, if_pos rfl]
    ·
     simp only [e1]; rw [Y67, if_pos rfl]
    ·
     simp only [e1]; rw [hpk, Yk8 (by omega), if_pos rfl]
    ·
     simp only [e1]; rw [hpk, Yk8 (by omega), if_pos rfl]
    ·
     simp only [e1]; rw [hpk, Yk8 (by omega), if_pos rfl]
   ·
    have hne : e.id ≠ g.events[k].id := fun h => hek (by
     obtain ⟨j, hj, rfl⟩ := List.mem_iff_getElem.1 hem
     obtain rfl := hr.fits.up.inj hj hk h
     rfl)
    have het' : e.id ∈ (Ygs g.events).take i := by
     rw [List.take_add_one, List.getElem?_eq_getElem hio, hid] at het
     rcases List.mem_append.1 het with h | h
     ·
      exact h
     ·
      simp at h; exact absurd h hne
    obtain ⟨j, hj, hji, hje⟩ := Yg7 het'
    have hpn : ∀ p ∈ e.prev, p ≠ g.events[k].id := fun p hp hpe => by
     have h1 := Yk0 hr.fits hr.deep hj (e := e) (by rw [hje]; exact hr.fits.up.evAt_mem hem) hp
     obtain ⟨u, hu, huj, hue⟩ := Yg7 h1
     have : u = i := by
      have hnd := Yjy hr.fits
      exact (List.getElem_inj (h₀ := hu) (h₁ := hio) hnd).1 (by rw [hue, hpe, hid])
     omega
    have e1 : e.prev.map (behI (mset A g.events[k].id (Yk3 g (Yjc g (g.events[k].prev.map (behI A))) g.events[k]))) = e.prev.map (behI A) := List.map_congr_left fun p hp => Yka (hpn p hp)
    have hK := hI e hem het'
    obtain ⟨ke, hke, hkp, _, _⟩ := Yf1 (Yf3 hem)
    have hkk : ke ≠ k := fun h => by
     subst h
     have := hr.fits.up.plc hke
     obtain ⟨j2, hj2, hje2⟩ := List.mem_iff_getElem.1 hem
     have h3 := (hr.fits.up.plc hj2).1
     rw [hje2, hkp] at h3
     have : j2 = ke := by omega
     subst this
     exact hek hje2.symm
    refine ⟨?_, ?_, ?_, ?_, ?_, ?_, ?_⟩
    ·
     simp only [e1]; exact hK.ok
    ·
     simp only [e1]; rw [Y67, if_neg hne]; exact hK.mB
    ·
     simp only [e1]; rw [Y67, if_neg hne]; exact hK.mR
    ·
     simp only [e1]; rw [Y67, if_neg hne]; exact hK.mA
    ·
     simp only [e1]; rw [hkp, Yk8 (by omega), if_neg hkk, ← hkp]; exact hK.ga
    ·
     simp only [e1]; rw [hkp, Yk8 (by omega), if_neg hkk, ← hkp]; exact hK.gc
    ·
     simp only [e1]; rw [hkp, Yk8 (by omega), if_neg hkk, ← hkp]; exact hK.gb) (by
  rintro ⟨B, A, R⟩ ⟨ah, bh, cd⟩ ⟨la, lb, lc, hI⟩
  simp only at la lb lc hI
  refine ⟨(B, A, R), (ah, bh, cd), ?_, ?_, la, lb, lc, fun e he => hI e he ?_⟩
  ·
   simp only [Zeq]
   rw [hol, dnlt, cond_false]
  ·
   simp only [Z5q]
   rw [dnlt, cond_false]
  ·
   rw [List.take_of_length_le (by omega)]
   exact (Yjx hr.fits).2 (List.mem_map.2 ⟨e, he, rfl⟩)) (s := ([], [], [])) (t := (List.replicate g.events.length [], List.replicate g.events.length [], List.replicate g.events.length 0)) ⟨by simp, by simp, by simp, fun e _ h => by simp at h⟩
 simp only at q1 q2 la lb lc hall
 refine ⟨Y96.mk g m B A R, Y93.mk (Yfj g.events) ah bh cd, ?_, ?_, rfl, hm2, rfl, la, lb, lc, hall⟩
 ·
  unfold Zet
  rw [Yfw hr.fits, Option.bind_some, hm1, Option.bind_some]
  simp only [Zer, Zep]
  rw [Ygw hr.fits, Option.bind_some, q1]; rfl
 ·
  unfold Z5s
  rw [e0, Option.bind_some, Y4j (decide_eq_true ⟨by omega, by omega⟩), Option.bind_some, Option.bind_some, Y4j (decide_eq_true ⟨by omega, by omega⟩), Option.bind_some]
  simp only [Z5r, Z5j, Int.toNat_natCast]
  rw [Yh4 hr.fits hr.deep, Option.bind_some, q2]; rfl
end Go.Proofs.YtbgichfjcnibpaaGreat
namespace Go.Proofs.YtbgichfjcnibpaaGreat
open Go Go.Abs

def refB (h : Y96) (id : Int) : Bool := decide (Option.getD (mget h.refused id) 0 = 0)

theorem Both.code {g : Y90} {h : Y96} {w : Y93} (hb : Both g h w) {e : Y8w} (he : e ∈ g.events) : ∃ c, getI w.code (plc g.events e.id) = some c ∧ Option.getD (mget h.refused e.id) 0 = c := by
 have hk := hb.all e he
 exact ⟨_, hk.gc, by rw [hk.mR]; rfl⟩
theorem Both.behind {g : Y90} {h : Y96} {w : Y93} (hb : Both g h w) (hr : Yk6 g) {e : Y8w} (he : e ∈ g.events) : getI w.behind (plc g.events e.id) = some (behI h.after e.id) ∧ StOk g.events (behI h.after e.id) := by
 have hk := hb.all e he
 have e1 : behI h.after e.id = Yk3 g (Yjc g (e.prev.map (behI h.after))) e := by
  show Option.getD (mget h.after e.id) [] = _
  rw [hk.mA]; rfl
 rw [e1]
 exact ⟨hk.gb, Yk4 hr.fits.up hk.ok he⟩
theorem Both.ahead {g : Y90} {h : Y96} {w : Y93} (hb : Both g h w) {e : Y8w} (he : e ∈ g.events) : getI w.ahead (plc g.events e.id) = some (behI h.before e.id) ∧ StOk g.events (behI h.before e.id) := by
 have hk := hb.all e he
 have e1 : behI h.before e.id = Yjc g (e.prev.map (behI h.after)) := by
  show Option.getD (mget h.before e.id) [] = _
  rw [hk.mB]; rfl
 rw [e1]
 exact ⟨hk.ga, hk.ok⟩

theorem Yk6.sts {g : Y90} (hr : Yk6 g) {s : List Y92} (hs : StOk g.events s) : Sts g s := (Mrg.mk (ls := []) hr.fits hr.ev hr.deep (fun s hs => by cases hs) (by simp)).sts hs

end Go.Proofs.YtbgichfjcnibpaaGreat
namespace Go.Proofs.YtbgichfjcnibpaaGreat
open Go Go.Abs


theorem Ykc (p : List Int) (n : Int) (hp : p.length ≤ maxLen) (h0 : 0 ≤ n) (hn : n ≤ 1048576) : ∃ r, Z1 p n = some r ∧ ((0 ≤ r ∧ r ≤ n ∧ p.length ≤ 1048576) ∨ r = -1) := by
 simp only [maxLen] at hp
 unfold Z1
 rw [Y4i (by omega) (by omega)]
 by_cases h : n - (p.length : Int) < 0
 ·
  rw [decide_eq_true h]; exact ⟨_, rfl, .inr rfl⟩
 ·
  rw [decide_eq_false h]; exact ⟨_, rfl, .inl ⟨by omega, by omega, by omega⟩⟩

structure EvIn (e : Y8w) : Prop where
 text : e.text.size ≤ maxLen
 prev : e.prev.length ≤ maxLen

theorem Ykd (e : Y8w) (n : Int) (he : EvIn e) (h0 : 0 ≤ n) (hn : n ≤ 1048576) : ∃ r, Z3 e n = some r ∧ ((0 ≤ r ∧ r ≤ n ∧ e.prev.length ≤ 1048576 ∧ e.text.size ≤ 1048576) ∨ r = -1) := by
 have ht := he.text
 simp only [maxLen] at ht
 unfold Z3
 rw [Y4i (by omega) (by omega)]
 by_cases h : n - (e.text.size : Int) < 0
 ·
  rw [decide_eq_true h]; exact ⟨_, rfl, .inr rfl⟩
 ·
  rw [decide_eq_false h, cond_false]
  obtain ⟨r, h1, h2⟩ := Ykc e.prev (n - (e.text.size : Int)) he.prev (by omega) (by omega)
  rw [h1, Option.bind_some]
  rcases h2 with ⟨h2, h3, h4⟩ | rfl
  ·
   rw [decide_eq_false (by omega)]; exact ⟨_, rfl, .inl ⟨h2, by omega, h4, by omega⟩⟩
  ·
   exact ⟨_, rfl, .inr rfl⟩

def Yke (l : List Y8w) : Prop := l.length ≤ 1048576 ∧ ∀ e ∈ l, e.prev.length ≤ 1048576 ∧ e.text.size ≤ 1048576

theorem Ykf (p : List Y8w) (n : Int) (hl : p.length ≤ maxLen) (hp : ∀ e ∈ p, EvIn e) (h0 : 0 ≤ n) (hn : n ≤ 1048576) : ∃ r, Z7 p n = some r ∧ ((0 ≤ r ∧ r + p.length ≤ n ∧ Yke p) ∨ r = -1) := by
 simp only [maxLen] at hl
 unfold Z7
 rw [Y4i (by omega) (by omega)]
 by_cases h : n - (p.length : Int) < 0
 ·
  rw [decide_eq_true h]; exact ⟨_, rfl, .inr rfl⟩
 ·
  rw [decide_eq_false h, cond_false]
  obtain ⟨o, h1, h2⟩ := Ye0 (τ := Int × Int) (ω := Int ⊕ Int) (σ := Int) (step := fun z : Int × Int => Z6 p z.1 z.2) (n := p.length) (fun s j => (s, j))
   (fun i s => 0 ≤ s ∧ s + p.length ≤ n ∧ ∀ (j : Nat) (hj : j < p.length), j < i → p[j].prev.length ≤ 1048576 ∧ p[j].text.size ≤ 1048576) (fun o => o = .inl (-1) ∨ ∃ r, o = .inr r ∧ 0 ≤ r ∧ r + p.length ≤ n ∧ Yke p) (by omega) (by
   rintro i s hi ⟨hs0, hsn, hI⟩
   obtain ⟨r, e1, e2⟩ := Ykd p[i] s (hp _ (List.getElem_mem hi)) hs0 (by omega)
   simp only [Z6]
   rw [dlt hi, cond_true, Ye1 hi, Option.bind_some, e1, Option.bind_some, Ye2 hi (by omega)]
   rcases e2 with ⟨e2, e3, e4⟩ | rfl
   ·
    rw [decide_eq_false (by omega), cond_false]
    refine .inl ⟨r, rfl, e2, by omega, fun j hj hji => ?_⟩
    rcases Nat.lt_or_ge j i with h | h
    ·
     exact hI j hj h
    ·
     obtain rfl : j = i := by omega
     exact e4
   ·
    exact .inr ⟨_, rfl, .inl rfl⟩) (by
   rintro s ⟨hs0, hsn, hI⟩
   simp only [Z6]
   rw [dnlt, cond_false]
   refine ⟨_, rfl, .inr ⟨s, rfl, hs0, hsn, by omega, fun e he => ?_⟩⟩
   obtain ⟨j, hj, rfl⟩ := List.mem_iff_getElem.1 he
   exact hI j hj hj) (s := n - (p.length : Int)) ⟨by omega, by omega, fun j hj h => by omega⟩
  rw [h1, Option.bind_some]
  rcases h2 with rfl | ⟨r, rfl, h3⟩
  ·
   exact ⟨_, rfl, .inr rfl⟩
  ·
   exact ⟨_, rfl, .inl h3⟩

structure GIn (g : Y8x) : Prop where
 el : g.events.length ≤ maxLen
 pl : g.parked.length ≤ maxLen
 ev : ∀ e ∈ g.events, EvIn e
 pv : ∀ e ∈ g.parked, EvIn e

theorem Ykg (g : Y8x) (n : Int) (hg : GIn g) (h0 : 0 ≤ n) (hn : n ≤ 1048576) : ∃ r, Z9 g n = some r ∧ ((0 ≤ r ∧ r + (g.events.length + g.parked.length : Nat) ≤ n ∧ Yke g.events ∧ Yke g.parked) ∨ r = -1) := by
 unfold Z9
 obtain ⟨r, h1, h2⟩ := Ykf g.events n hg.el hg.ev h0 hn
 rw [h1, Option.bind_some]
 rcases h2 with ⟨h2, h3, h4⟩ | rfl
 ·
  rw [decide_eq_false (by omega), cond_false]
  obtain ⟨r', h5, h6⟩ := Ykf g.parked r hg.pl hg.pv h2 (by omega)
  rw [h5, Option.bind_some]
  rcases h6 with ⟨h6, h7, h8⟩ | rfl
  ·
   rw [decide_eq_false (by omega)]; exact ⟨_, rfl, .inl ⟨h6, by omega, h4, h8⟩⟩
  ·
   exact ⟨_, rfl, .inr rfl⟩
 ·
  exact ⟨_, rfl, .inr rfl⟩


theorem Ykh {α β : Type} {xs : List α} {z : β} (f : α → β) {step : List β × Int → Option ((List β × Int) ⊕ List β)} (hl : xs.length < 9223372036854775807)
  (h1 : ∀ (i : Nat) (s : List β) (hi : i < xs.length), s.length = xs.length → step (s, (i : Int)) = some (.inl (s.set i (f xs[i]), ((i + 1 : Nat) : Int)))) (h2 : ∀ s : List β, step (s, (xs.length : Int)) = some (.inr s)) :
  iter step big (List.replicate xs.length z, 0) = some (xs.map f) := by
 obtain ⟨o, e1, rfl⟩ := Ydz (τ := List β × Int) (ω := List β) (σ := List β) (step := step) (n := xs.length) (fun s j => (s, j)) (fun i s => s = (xs.take i).map f ++ List.replicate (xs.length - i) z) (fun o => o = xs.map f) hl (by
  rintro i s hi rfl
  refine ⟨_, h1 i _ hi (by simp; omega), ?_⟩
  have e0 : List.replicate (xs.length - i) z = z :: List.replicate (xs.length - (i + 1)) z := by
   rw [show xs.length - i = (xs.length - (i + 1)) + 1 by omega, List.replicate_succ]
  have e1 : xs.take (i + 1) = xs.take i ++ [xs[i]] := by rw [List.take_add_one, List.getElem?_eq_getElem hi]; rfl
  rw [e0, Yfy (X := (xs.take i).map f) (u := z) (Y := List.replicate (xs.length - (i + 1)) z) rfl (by simp; omega), e1, List.map_append, List.append_assoc]
  rfl) (by
  rintro s rfl
  exact ⟨_, h2 _, by simp⟩) (s := List.replicate xs.length z) (by simp)
 exact e1

theorem Yki (p : List Int) (hp : p.length ≤ 1048576) : Zn p = some p := by
 unfold Zn
 rw [Y4j (decide_eq_true ⟨by omega, by omega⟩), Option.bind_some, Int.toNat_natCast]
 rw [Ykh (xs := p) (fun x => x) (by omega) (fun i s hi hs => by
  simp only [Zm]
  rw [dlt hi, cond_true, Ye1 hi, Option.bind_some, Ye1 (by omega : i < s.length), Option.bind_some, Ye2 hi (by omega), Int.toNat_natCast]) (fun s => by simp only [Zm]; rw [dnlt, cond_false])]
 simp [Zl]

theorem Ykj (e : Y8w) (hp : e.prev.length ≤ 1048576) : Zp e = some e := by
 unfold Zp
 rw [Yki _ hp]; rfl

theorem Ykk (p : List Y8w) (hp : Yke p) : Zt p = some p := by
 have hl := hp.1
 unfold Zt
 rw [Y4j (decide_eq_true ⟨by omega, by omega⟩), Option.bind_some, Int.toNat_natCast]
 rw [Ykh (xs := p) (fun x => x) (by omega) (fun i s hi hs => by
  simp only [Zs]
  rw [dlt hi, cond_true, Ye1 hi, Option.bind_some, Ykj _ (hp.2 _ (List.getElem_mem hi)).1, Option.bind_some, Ye1 (by omega : i < s.length), Option.bind_some, Ye2 hi (by omega), Int.toNat_natCast]) (fun s => by simp only [Zs]; rw [dnlt, cond_false])]
 simp [Zr]

def toG (g : Y8x) : Y90 := Y90.mk g.room g.events g.parked
theorem Ykl (g : Y8x) (he : Yke g.events) (hp : Yke g.parked) : Zv g = some (toG g) := by
 unfold Zv
 rw [Ykk _ he, Option.bind_some, Ykk _ hp]; rfl

theorem Ykm {g : Y8x} (he : Yke g.events) (hp : Yke g.parked) : Fine (toG g) := ⟨he.1, hp.1, fun e h => (he.2 e h).1, fun e h => (hp.2 e h).1⟩


theorem Ykn (p : List Int) (hp : p.length ≤ 1048576) : Zhv p p = some true := by
 unfold Zhv
 rw [bned, decide_eq_true rfl]
 simp only [Bool.not_true, cond_false]
 rw [Yeh (l := p) (fun _ => true) (.inl false) (.inr ()) (by omega) (fun i hi => by
  simp only [Zhu]
  rw [dlt hi, cond_true, Ye1 hi, Option.bind_some, Option.bind_some, bned, decide_eq_true rfl, Ye2 hi (by omega)]; rfl) (by simp only [Zhu]; rw [dnlt, cond_false])]
 rw [show (p.all fun _ => true) = true by simp]; rfl

theorem Yko (e : Y8w) (hp : e.prev.length ≤ 1048576) : Zi1 e e = some true := by
 unfold Zi1
 rw [Ykn _ hp]
 simp

theorem Ykp (p : List Y8w) (hp : Yke p) : Zi5 p p = some true := by
 have hl := hp.1
 unfold Zi5
 rw [bned, decide_eq_true rfl]
 simp only [Bool.not_true, cond_false]
 rw [Yeh (l := p) (fun _ => true) (.inl false) (.inr ()) (by omega) (fun i hi => by
  simp only [Zi4]
  rw [dlt hi, cond_true, Ye1 hi, Option.bind_some, Option.bind_some, Yko _ (hp.2 _ (List.getElem_mem hi)).1, Option.bind_some, Ye2 hi (by omega)]; rfl) (by simp only [Zi4]; rw [dnlt, cond_false])]
 rw [show (p.all fun _ => true) = true by simp]; rfl

theorem Ykq (g : Y90) (he : Yke g.events) (hp : Yke g.parked) : Zi7 g g = some true := by
 unfold Zi7
 rw [Ykp _ he, Ykp _ hp]
 simp


def Ykr (n : Int) : Nat → List Int
 | 0 => []
 | k + 1 => n :: Ykr (n + 1) k
theorem Yks : ∀ (k : Nat) (n : Int), (Ykr n k).length = k
 | 0, _ => rfl
 | k + 1, n => by simp [Ykr, Yks k]
theorem Ykt : ∀ (k : Nat) (n : Int) (i : Nat) (hi : i < (Ykr n k).length), (Ykr n k)[i] = n + i
 | 0, _, i, hi => by simp [Ykr] at hi
 | k + 1, n, 0, hi => by simp [Ykr]
 | k + 1, n, i + 1, hi => by
  simp only [Ykr, List.getElem_cons_succ]
  rw [Ykt k]; omega
theorem Yku : ∀ (k : Nat) (n : Int), Ykr n (k + 1) = Ykr n k ++ [n + k]
 | 0, n => by simp [Ykr]
 | k + 1, n => by
  rw [Ykr, Yku k (n + 1)]
  simp [Ykr]; omega

theorem Ykv (p : List Int) (n : Int) (hp : p.length ≤ 1048576) (h0 : 0 ≤ n) (hn : n ≤ 1000000000000000) : Zir p n = some (n + p.length, Ykr n p.length) := by
 unfold Zir
 obtain ⟨o, e1, rfl⟩ := Ydz (τ := List Int × Int × Int) (ω := Int × List Int) (σ := List Int × Int) (step := fun z : List Int × Int × Int => Ziq z.1 z.2.1 z.2.2) (n := p.length) (fun s j => (s.1, s.2, j)) (fun i s => s = (Ykr n i ++ p.drop i, n + i)) (fun o => o = (n + p.length, Ykr n p.length)) (by omega) (by
  rintro i s hi rfl
  have e0 : p.drop i = p[i] :: p.drop (i + 1) := List.drop_eq_getElem_cons hi
  generalize hR : p.drop (i + 1) = R at e0
  generalize p[i] = u at e0
  refine ⟨(Ykr n (i + 1) ++ R, n + i + 1), ?_, by simp; omega⟩
  have hlen : (Ykr n i ++ p.drop i).length = p.length := by rw [List.length_append, Yks, List.length_drop]; omega
  simp only [Ziq]
  rw [hlen, dlt hi, cond_true, e0, Yfx (X := Ykr n i) (u := u) (Y := R) rfl (Yks i n).symm, Option.bind_some, Int.toNat_natCast, Yfy (X := Ykr n i) (u := u) (Y := R) rfl (Yks i n).symm, Ye2 hi (by omega), Y4i (by omega) (by omega), Yku]
  simp) (by
  rintro s rfl
  simp only [Ziq]
  rw [show (Ykr n p.length ++ p.drop p.length).length = p.length by simp [Yks], dnlt, cond_false]
  exact ⟨_, rfl, by simp⟩) (s := (p, n)) (by simp [Ykr])
 rw [e1, Option.bind_some]; rfl

theorem Ykw (k : Nat) (n : Int) (hk : k ≤ 1048576) (h0 : 0 ≤ n) (hn : n ≤ 1000000000000000) : Zjd (Ykr n k) n = some (n + k) := by
 unfold Zjd
 obtain ⟨o, e1, rfl⟩ := Ydz (τ := Int × Int) (ω := Int ⊕ Int) (σ := Int) (step := fun z : Int × Int => Zjc (Ykr n k) z.1 z.2) (n := k) (fun s j => (s, j)) (fun i s => s = n + i) (fun o => o = .inr (n + k)) (by omega) (by
  rintro i s hi rfl
  refine ⟨n + i + 1, ?_, by omega⟩
  simp only [Zjc, Yks]
  have hi' : i < (Ykr n k).length := by rw [Yks]; exact hi
  rw [dlt hi, cond_true, Ye1 hi', Option.bind_some, Ykt, bned, decide_eq_true rfl, Ye2 hi (by omega), Y4i (by omega) (by omega)]; rfl) (by
  rintro s rfl
  simp only [Zjc, Yks]
  rw [dnlt, cond_false]
  exact ⟨_, rfl, rfl⟩) (s := n) (by simp)
 rw [e1, Option.bind_some]; rfl

theorem Ykx (n : Int) (h0 : 0 ≤ n) (hn : n ≤ 1000000000000000) : ∃ t, Zin n = some t := by
 unfold Zin
 by_cases h : n ≤ 0
 ·
  rw [decide_eq_true h]; exact ⟨_, rfl⟩
 ·
  rw [decide_eq_false h, cond_false]
  obtain ⟨o, e1, e2⟩ := Y4l (step := fun z : Int × ByteArray => Zim z.1 z.2) (p := fun o : ByteArray => (o.size : Int) ≤ 1000000000000000) (fun m (z : Int × ByteArray) => 0 ≤ z.1 ∧ z.1 + z.2.size ≤ 1000000000000000 ∧ m = z.1.toNat) (by
   rintro m ⟨x, t⟩ ⟨hx, hs, rfl⟩
   simp only at hx hs
   simp only [Zim]
   by_cases hp : x > 0
   ·
    right
    have hsz : ∀ k : Int, (Y6w [k]).size = 1 := fun k => rfl
    have hd : 0 ≤ Int.tdiv x 10 ∧ Int.tdiv x 10 < x := by
     rw [Int.tdiv_eq_ediv_of_nonneg hx]; omega
    rw [decide_eq_true hp, cond_true, Y4j (decide_eq_true (by rw [hsz]; omega)), Option.bind_some, Y4i (n := Int.tdiv x 10) (by omega) (by omega)]
    refine ⟨_, (Int.tdiv x 10).toNat, rfl, by omega, hd.1, ?_, rfl⟩
    simp only [ByteArray.size_append, hsz]; omega
   ·
    left
    rw [decide_eq_false hp, cond_false]
    exact ⟨_, rfl, by omega⟩) big n.toNat (n, ByteArray.empty) ⟨h0, by simp; omega, rfl⟩ (Ydw (by omega))
  rw [e1, Option.bind_some]
  unfold Zil
  rw [Y4j (decide_eq_true (by show 1 + o.size ≤ _; omega))]
  exact ⟨_, rfl⟩

theorem Yky {α : Type} {l : List α} {k : Nat} {v : α} (hk : k < l.length) : getI (l.set k v) (k : Int) = some v := by rw [Yk8 hk, if_pos rfl]

theorem Ykz (p : List Y8w) (n : Int) (hp : Yke p) (h0 : 0 ≤ n) (hn : n ≤ 100000000000000) : ∃ r, Ziv p n = some r ∧ 0 ≤ r.1 ∧ r.1 ≤ n + p.length * 2000000 := by
 have hl := hp.1
 unfold Ziv
 obtain ⟨o, e1, e2⟩ := Ydz (τ := List Y8w × Int × Int) (ω := Int × List Y8w) (σ := List Y8w × Int) (step := fun z : List Y8w × Int × Int => Ziu z.1 z.2.1 z.2.2) (n := p.length) (fun s j => (s.1, s.2, j)) (fun i s => s.1.length = p.length ∧ (∀ e ∈ s.1, e.prev.length ≤ 1048576) ∧ 0 ≤ s.2 ∧ s.2 ≤ n + i * 2000000) (fun o => 0 ≤ o.1 ∧ o.1 ≤ n + p.length * 2000000) (by omega) (by
  rintro i ⟨l, k⟩ hi ⟨hll, hpl, hk0, hk⟩
  simp only at hll hpl hk0 hk
  have hil : i < l.length := by omega
  have w : ∀ x : Int, 0 ≤ x → x ≤ 1000000000000000 → IntKind.i64.wrap (x + 1) = x + 1 := fun x h1 h2 => Y4i (by omega) (by omega)
  obtain ⟨t, ht⟩ := Ykx (k + 1 + 1 + 1 + 1 + 1 + 1) (by omega) (by omega)
  have hmk := Ykv l[i].prev (k + 1 + 1 + 1 + 1 + 1 + 1 + 1) (hpl _ (List.getElem_mem hil)) (by omega) (by omega)
  have hpi := hpl _ (List.getElem_mem hil)
  have hw := Ye2 hi (by omega : p.length < 9223372036854775807)
  simp only [Ziu]
  rw [w k hk0 (by omega), w (k + 1) (by omega) (by omega), w (k + 1 + 1) (by omega) (by omega), w (k + 1 + 1 + 1) (by omega) (by omega), w (k + 1 + 1 + 1 + 1) (by omega) (by omega), w (k + 1 + 1 + 1 + 1 + 1) (by omega) (by omega), w (k + 1 + 1 + 1 + 1 + 1 + 1) (by omega) (by omega)]
  rw [decide_eq_true (by omega : (i : Int) < (l.length : Int)), cond_true, Ye1 hil, Option.bind_some]
  simp only [Int.toNat_natCast, Yky, List.length_set, hil, Option.bind_some, ht, List.set_set, hmk, hw]
  rw [w _ (by omega) (by omega)]
  refine ⟨(_, _), rfl, by simp [hll], fun e he => ?_, by simp only; omega, by simp only; omega⟩
  simp only at he
  rcases List.mem_or_eq_of_mem_set he with h | h
  ·
   exact hpl e h
  ·
   subst h; simp only [Yks]; exact hpi) (by
  rintro ⟨l, k⟩ ⟨hll, _, hk0, hk⟩
  simp only at hll hk0 hk
  simp only [Ziu]
  rw [hll, dnlt, cond_false]
  exact ⟨_, rfl, hk0, hk⟩) (s := (p, n)) ⟨rfl, fun e he => (hp.2 e he).1, h0, by simp⟩
 rw [e1, Option.bind_some]
 exact ⟨_, rfl, e2⟩

end Go.Proofs.YtbgichfjcnibpaaGreat
namespace Go.Proofs.YtbgichfjcnibpaaGreat
open Go Go.Abs


def accT (l : List Y8w) (T : Int → Bool) : List Int := (l.map (·.id)).filter T
def endT (l : List Y8w) (T : Int → Bool) (x : Int) : Bool := (accT l T).all fun id => !decide (x ∈ (evD l id).prev)
def endsT (l : List Y8w) (T : Int → Bool) : List Int := (accT l T).filter (endT l T)

theorem Yl0 {l : List Y8w} (h : Up2 l) : UpI (l.map (·.id)) := by
 show (l.map (·.id)).Pairwise (· < ·)
 rw [List.pairwise_map]; exact h

theorem Yl1 {h : Y96} (hr : Yk6 h.graph) : Zey h = some (accT h.graph.events (refB h)) := by
 have hfl := hr.fits.len
 unfold Zey
 have := Yei (l := h.graph.events) (step := fun z : List Int × Int => Zex h z.1 z.2) (fun q j => (q, j)) (fun q => q) (fun q e => if refB h e.id = true then q ++ [e.id] else q) (fun i q => q.length ≤ i) (by omega) (fun i q hi hq => by
  refine ⟨?_, by split <;> first | omega | (rw [List.length_append, List.length_singleton]; omega)⟩
  simp only [Zex, Zew]
  rw [dlt hi, cond_true, Ye1 hi, Option.bind_some, Ye2 hi (by omega), chk8 (by simp; omega), beqd]
  unfold refB
  by_cases hc : Option.getD (mget h.refused h.graph.events[i].id) 0 = 0
  ·
   rw [decide_eq_true hc]; rfl
  ·
   rw [decide_eq_false hc]; rfl)
  (fun q _ => by simp only [Zex]; rw [dnlt, cond_false]) (s := []) (by simp)
 rw [this.1, Option.bind_some]
 have key : ∀ (l : List Y8w) (q : List Int), l.foldl (fun q e => if refB h e.id = true then q ++ [e.id] else q) q = q ++ (l.map (·.id)).filter (refB h) := by
  intro l
  induction l with
  | nil => intro q; simp
  | cons e l ih =>
   intro q
   rw [List.foldl_cons, ih]
   cases hc : refB h e.id with
   | true => rw [if_pos rfl, List.map_cons, List.filter_cons_of_pos hc]; simp
   | false => rw [if_neg (by simp), List.map_cons, List.filter_cons_of_neg (by simp [hc])]
 rw [key]; rfl

theorem Yl2 {l : List Int} (hl : UpI l) (hn : l.length < 1000000) : Zg8 l = some l := by
 unfold Zg8
 by_cases h2 : (l.length : Int) < 2
 ·
  rw [decide_eq_true h2]; rfl
 ·
  rw [decide_eq_false h2, cond_false, Y4m (o := .inr ()) (fun m (x : Int) => ∃ i : Nat, x = i ∧ 1 ≤ i ∧ i ≤ l.length ∧ m = l.length - i) ?_ (m := l.length - 1) (x := 1) ⟨1, rfl, by omega, by omega, rfl⟩ (Ydw (by omega))]
  ·
   rfl
  ·
   rintro m x ⟨i, rfl, h1, hi, rfl⟩
   simp only [Zg7]
   by_cases hil : i < l.length
   ·
    right
    have hm : i - 1 < l.length := by omega
    have := List.pairwise_iff_getElem.1 hl (i - 1) i hm hil (by omega)
    rw [dlt hil, cond_true, Ye1 hil, Option.bind_some, Ye3 (by omega) (by omega), Ye1 hm, Option.bind_some, beqd, decide_eq_false (by omega), cond_false, Ye2 hil (by omega)]
    exact ⟨_, l.length - (i + 1), rfl, by omega, i + 1, rfl, by omega, by omega, rfl⟩
   ·
    left
    obtain rfl : i = l.length := by omega
    rw [dnlt, cond_false]

theorem Zk2 {l ids : List Int} (hl : UpI l) (hn : ids.Nodup) (hm : ∀ x, x ∈ ids ↔ x ∈ l) : List.mergeSort ids (fun x y => decide (x ≤ y)) = l := by
 have hp : ids.Perm l := (List.perm_ext_iff_of_nodup hn (hl.imp fun {a b} h => by omega)).2 hm
 exact List.Perm.eq_of_pairwise (le := fun a b => decide (a ≤ b) = true) (fun a b _ _ h1 h2 => by simp at h1 h2; omega) (List.pairwise_mergeSort (fun a b c h1 h2 => by simp at h1 h2 ⊢; omega) (fun a b => by simp; omega) ids) (hl.imp fun {a b} h => by simp; omega) ((List.mergeSort_perm ids _).trans hp)

theorem Yl3 {l ids : List Int} (hl : UpI l) (hn : ids.Nodup) (hm : ∀ x, x ∈ ids ↔ x ∈ l) (hlen : l.length < 1000000) : Zga ids = some l := by
 have hpl : ids.length = l.length := ((List.perm_ext_iff_of_nodup hn (hl.imp fun {a b} h => by omega)).2 hm).length_eq
 unfold Zga
 rw [Y4j (decide_eq_true (by omega)), Option.bind_some, Zk2 hl hn hm, Yl2 hl hlen]; rfl

theorem Yl4 (e : Y8w) (l : List Int) (hl : l.length < 1000000) (he : e.prev.length < 1000000) : Zgl l e = some (l.filter fun x => !decide (x ∈ e.prev)) := by
 have hc : ∀ x, Zgc x e = some (decide (x ∈ e.prev)) := fun x => by unfold Zgc; rw [Yen _ _ (by omega)]; rfl
 unfold Zgl Zgg
 rw [Yek (Yef (l := l) (step := Zgf l e) (fun x => decide (x ∈ e.prev)) (by omega) (fun i hi => by
  simp only [Zgf]
  rw [dlt hi, cond_true, Ye1 hi, Option.bind_some, hc, Option.bind_some, Ye2 hi (by omega)]
  cases decide (l[i] ∈ e.prev) <;> rfl) (by simp only [Zgf]; rw [dnlt, cond_false])) (fun _ => rfl) rfl, Option.bind_some]
 unfold idxP
 cases hf : l.findIdx? (fun x => decide (x ∈ e.prev)) with
 | none =>
  rw [List.findIdx?_eq_none_iff] at hf
  rw [beqd, decide_eq_true rfl, cond_true]
  exact congrArg some (List.filter_eq_self.2 fun x hx => by simp [hf x hx]).symm
 | some k =>
  obtain ⟨hk, hkp, hkn⟩ := List.findIdx?_eq_some_iff_getElem.1 hf
  simp only
  rw [beqd, decide_eq_false (by omega), cond_false, Ye2 hk (by omega)]
  -- the rest
  have hpre : (l.take k).filter (fun x => !decide (x ∈ e.prev)) = l.take k := List.filter_eq_self.2 fun x hx => by
   obtain ⟨j, hj, hjk, rfl⟩ := Yg7 hx
   have := hkn j hjk
   simpa using this
  obtain ⟨⟨o1, o2⟩, e1, w, hw1, hw2, hw3, hw4⟩ := Y4l (step := fun z : List Int × Int × Int => Zgk e z.1 z.2.1 z.2.2) (p := fun o : List Int × Int => ∃ w : Nat, o.2 = (w : Int) ∧ w ≤ l.length ∧ o.1.length = l.length ∧ o.1.take w = l.filter fun x => !decide (x ∈ e.prev))
   (fun m (z : List Int × Int × Int) => ∃ (w i : Nat), z.2.1 = (w : Int) ∧ z.2.2 = (i : Int) ∧ w < i ∧ i ≤ l.length ∧ z.1.length = l.length ∧ z.1.take w = (l.take i).filter (fun x => !decide (x ∈ e.prev)) ∧ z.1.drop i = l.drop i ∧ m = l.length - i) (by
   rintro m ⟨q, x, y⟩ ⟨w, i, hx, hy, hwi, hi, hq, ht, hd, rfl⟩
   simp only at hx hy hq ht hd
   subst hx hy
   simp only [Zgk, Zgj]
   by_cases hil : i < l.length
   ·
    right
    have hiq : i < q.length := by omega
    have hwq : w < q.length := by omega
    have hqi : q[i] = l[i] := by
     have h1 : (q.drop i)[0]? = (l.drop i)[0]? := by rw [hd]
     simpa [hiq, hil] using h1
    have etk : l.take (i + 1) = l.take i ++ [l[i]] := by rw [List.take_add_one, List.getElem?_eq_getElem hil]; rfl
    rw [dlt hiq, cond_true, Ye1 hiq, Option.bind_some, hc, Option.bind_some, hqi, Ye1 hwq, Ye2 hiq (by omega)]
    have hd' : ∀ v : Int, (q.set w v).drop (i + 1) = l.drop (i + 1) := fun v => by
     rw [List.drop_set_of_lt (by omega)]
     have := congrArg (List.drop 1) hd
     rwa [List.drop_drop, List.drop_drop] at this
    by_cases hp : l[i] ∈ e.prev
    ·
     rw [decide_eq_true hp, cond_true]
     refine ⟨_, l.length - (i + 1), rfl, by omega, w, i + 1, rfl, rfl, by omega, by omega, hq, ?_, ?_, rfl⟩
     ·
      rw [etk, List.filter_append, List.filter_cons_of_neg (by simp [hp]), List.filter_nil, List.append_nil]; exact ht
     ·
      have := congrArg (List.drop 1) hd
      rwa [List.drop_drop, List.drop_drop] at this
    ·
     rw [decide_eq_false hp, cond_false, Option.bind_some, Int.toNat_natCast, Ye2 hwq (by omega)]
     refine ⟨_, l.length - (i + 1), rfl, by omega, w + 1, i + 1, rfl, rfl, by omega, by omega, by simp [hq], ?_, hd' _, rfl⟩
     simp only
     rw [etk, List.filter_append, List.filter_cons_of_pos (by simp [hp]), List.filter_nil, ← ht, List.take_add_one, List.getElem?_set_self hwq]
     rw [List.take_set_of_le (Nat.le_refl _)]; rfl
   ·
    left
    obtain rfl : i = l.length := by omega
    rw [decide_eq_false (by omega), cond_false]
    refine ⟨_, rfl, w, rfl, by omega, hq, ?_⟩
    rw [List.take_length] at ht
    exact ht) big (l.length - (k + 1)) (l, (k : Int), ((k + 1 : Nat) : Int)) ⟨k, k + 1, rfl, rfl, by omega, by omega, rfl, by
    rw [List.take_add_one, List.getElem?_eq_getElem hk, List.filter_append, hpre]
    simp at hkp
    simp [hkp], rfl, rfl⟩ (Ydw (by omega))
  rw [e1, Option.bind_some]
  simp only at hw1 hw2 hw3 hw4
  subst hw1
  simp only [Zgi, Int.toNat_natCast]
  rw [Y4j (decide_eq_true (by omega)), Option.bind_some, Y4j (decide_eq_true (by omega)), Option.bind_some, Y4j (decide_eq_true (by simp; omega)), Option.bind_some]
  congr 1
  rw [← hw4, List.take_append_of_le_length (by simp; omega), List.take_take, Nat.min_self]

theorem Yl5 {l : List Y8w} (hf : Fits l) (T : Int → Bool) : UpI (accT l T) := (Yl0 hf.up).filter _
theorem Yl6 {l : List Y8w} (hf : Fits l) (T : Int → Bool) : (accT l T).length ≤ 60 := by
 have := List.length_filter_le T (l.map (·.id))
 rw [List.length_map] at this
 have := hf.len
 unfold accT; omega
theorem Yl7 {l : List Y8w} {T : Int → Bool} {id : Int} (hi : id ∈ endsT l T) : id ∈ l.map (·.id) := (List.mem_filter.1 (List.mem_filter.1 hi).1).1
theorem Yl8 {l : List Y8w} (hf : Fits l) (T : Int → Bool) : (endsT l T).length ≤ 60 := Nat.le_trans (List.length_filter_le _ _) (Yl6 hf T)

theorem Yl9 {h : Y96} (hr : Yk6 h.graph) {ids : List Int} {T : Int → Bool} (hn : ids.Nodup) (hm : ∀ x, x ∈ ids ↔ x ∈ accT h.graph.events T) : Zgp h ids = some (endsT h.graph.events T) := by
 have hfl := hr.fits.len
 have hup := Yl5 hr.fits T
 have hal := Yl6 hr.fits T
 have hil : ids.length = (accT h.graph.events T).length := ((List.perm_ext_iff_of_nodup hn (hup.imp fun {a b} h => by omega)).2 hm).length_eq
 unfold Zgp
 have hcl : Zed ids = some ids := by unfold Zed; rw [chk8 (by omega)]; rfl
 rw [hcl, Option.bind_some, Yl3 hup hn hm (by omega), Option.bind_some]
 have := Yei (l := ids) (step := fun z : List Int × Int => Zgo h ids z.1 z.2) (fun q j => (q, j)) (fun q => q) (fun q id => q.filter fun x => !decide (x ∈ (evD h.graph.events id).prev)) (fun _ q => q.length ≤ 60) (by omega) (fun i q hi hq => by
  refine ⟨?_, Nat.le_trans (List.length_filter_le _ _) hq⟩
  have hmi : ids[i] ∈ h.graph.events.map (·.id) := (List.mem_filter.1 ((hm _).1 (List.getElem_mem hi))).1
  have hp := (hr.walk.prev hmi).1
  simp only [Zgo]
  rw [dlt hi, cond_true, Ye1 hi, Option.bind_some, c_at _ _ hr.fits.up (by omega), Option.bind_some]
  show (Zgl q (evD h.graph.events ids[i])).bind _ = _
  rw [Yl4 _ _ (by omega) (by omega), Option.bind_some, Ye2 hi (by omega)])
  (fun q _ => by simp only [Zgo]; rw [dnlt, cond_false]) (s := accT h.graph.events T) hal
 rw [this.1, Option.bind_some]
 simp only [Zgn]
 congr 1
 have key : ∀ (r q : List Int), r.foldl (fun q id => q.filter fun x => !decide (x ∈ (evD h.graph.events id).prev)) q = q.filter fun x => r.all fun id => !decide (x ∈ (evD h.graph.events id).prev) := by
  intro r
  induction r with
  | nil => intro q; exact (List.filter_eq_self.2 fun x _ => rfl).symm
  | cons id r ih =>
   intro q
   rw [List.foldl_cons, ih, List.filter_filter]
   congr 1
   funext x
   simp [Bool.and_comm]
 rw [key]
 unfold endsT
 congr 1
 funext x
 unfold endT
 rw [Bool.eq_iff_iff, List.all_eq_true, List.all_eq_true]
 exact ⟨fun h id hid => h id ((hm id).2 hid), fun h id hid => h id ((hm id).1 hid)⟩

def Yla (l : List Y8w) (T : Int → Bool) : List Bool := l.map fun e => T e.id

theorem Ylb {g : Y90} {h : Y96} {w : Y93} (hb : Both g h w) (hr : Yk6 g) : w.code.map (fun c => decide (c = 0)) = Yla h.graph.events (refB h) := by
 unfold Yla
 rw [hb.graph]
 refine List.ext_getElem (by simp [hb.lc]) fun i h1 h2 => ?_
 simp only [List.length_map] at h1 h2
 simp only [List.getElem_map]
 obtain ⟨c, k1, k2⟩ := hb.code (List.getElem_mem h2)
 rw [(hr.fits.up.plc h2).1, Ye1 h1] at k1
 cases k1
 unfold refB
 rw [k2]

theorem Ylc {w : Y93} {step : List Bool × Int → Option ((List Bool × Int) ⊕ List Bool)} (hl : w.code.length < 1000000)
  (h1 : ∀ (l : List Bool) (i : Nat), step (l, (i : Int)) = cond (decide ((i : Int) < (l.length : Int))) ((getI w.code (i : Int)).bind fun e12 => (getI l (i : Int)).bind fun e14 => some (.inl ((List.set l (Int.toNat (i : Int)) (e12 == 0)), (IntKind.i64.wrap ((i : Int) + 1))))) (some (.inr l))) :
  iter step big (List.replicate w.code.length false, 0) = some (w.code.map fun c => decide (c = 0)) := by
 obtain ⟨o, e1, rfl⟩ := Ydz (τ := List Bool × Int) (ω := List Bool) (σ := List Bool) (step := step) (n := w.code.length) (fun s j => (s, j)) (fun i s => s = (w.code.take i).map (fun c => decide (c = 0)) ++ List.replicate (w.code.length - i) false) (fun o => o = w.code.map fun c => decide (c = 0)) (by omega) (by
  rintro i s hi rfl
  have e0 : List.replicate (w.code.length - i) false = false :: List.replicate (w.code.length - (i + 1)) false := by
   rw [show w.code.length - i = (w.code.length - (i + 1)) + 1 by omega, List.replicate_succ]
  have etk : w.code.take (i + 1) = w.code.take i ++ [w.code[i]] := by rw [List.take_add_one, List.getElem?_eq_getElem hi]; rfl
  refine ⟨_, ?_, rfl⟩
  rw [h1, decide_eq_true (by simp; omega), cond_true, Ye1 hi, Option.bind_some, e0, Yfx (X := (w.code.take i).map fun c => decide (c = 0)) rfl (by simp; omega), Option.bind_some, Int.toNat_natCast, Yfy (X := (w.code.take i).map fun c => decide (c = 0)) rfl (by simp; omega), Ye2 hi (by omega), etk, beqd, List.map_append, List.append_assoc]
  rfl) (by
  rintro s rfl
  refine ⟨_, ?_, rfl⟩
  rw [h1, decide_eq_false (by simp), cond_false]
  simp) (s := List.replicate w.code.length false) (by simp)
 exact e1

theorem Yld {α β : Type} (f : α → β) {l : List α} {i : Nat} (hi : i < l.length) : getI (l.map f) (i : Int) = some (f l[i]) := by
 rw [Ye1 (by simpa using hi)]; simp

theorem Yle {g : Y90} (hr : Yk6 g) (T : Int → Bool) : Z63 g (Yla g.events T) = some (endsT g.events T) := by
 have hfl := hr.fits.len
 unfold Z63
 -- whether one stands behind an event
 have inner1 : ∀ (i k : Nat) (hi : i < g.events.length) (hk : k < g.events.length) (b : Bool), iter (fun z : Bool × Int => Z60 g (Yla g.events T) (i : Int) (k : Int) z.1 z.2) big (b, 0) = some (b && (!T g.events[k].id || !decide (g.events[i].id ∈ g.events[k].prev))) := by
  intro i k hi hk b
  have hpl := hr.fits.plen _ (List.getElem_mem hk)
  have ht : getI (Yla g.events T) (k : Int) = some (T g.events[k].id) := Yld _ hk
  cases hrk : T g.events[k].id with
  | false =>
   rw [Y4m (o := b) (fun m (z : Bool × Int) => z = (b, 0)) ?_ (m := 0) rfl (Ydw (by omega))]
   ·
    simp
   ·
    rintro m z rfl
    left
    simp only [Z60, Z5z]
    rw [ht, Option.bind_some, hrk]; rfl
  | true =>
   have := Yei (l := g.events[k].prev) (step := fun z : Bool × Int => Z60 g (Yla g.events T) (i : Int) (k : Int) z.1 z.2) (fun q j => (q, j)) (fun q => q) (fun q p => q && !decide (p = g.events[i].id)) (fun _ _ => True) hpl (fun j q hj _ => by
    refine ⟨?_, trivial⟩
    simp only [Z60, Z5z, Z5y]
    rw [ht, Option.bind_some, hrk, cond_true, Ye1 hk, Option.bind_some, dlt hj, cond_true, Ye1 hi, Ye2 hj hpl]
    cases q with
    | false => rfl
    | true =>
     simp only [cond_true, Option.bind_some]
     rw [Ye1 hj, Option.bind_some, bned]; rfl)
    (fun q _ => by
     simp only [Z60, Z5z]
     rw [ht, Option.bind_some, hrk, cond_true, Ye1 hk, Option.bind_some, dnlt, cond_false]) (s := b) trivial
   rw [this.1]
   congr 1
   have key : ∀ (ps : List Int) (q : Bool), ps.foldl (fun q p => q && !decide (p = g.events[i].id)) q = (q && !decide (g.events[i].id ∈ ps)) := by
    intro ps
    induction ps with
    | nil => intro q; simp
    | cons p ps ih =>
     intro q
     rw [List.foldl_cons, ih]
     by_cases hp : p = g.events[i].id
     ·
      simp [hp]
     ·
      simp [hp, show ¬ g.events[i].id = p from fun h => hp h.symm]
   rw [key]; simp
 have inner2 : ∀ (i : Nat) (hi : i < g.events.length) (b : Bool), iter (fun z : Bool × Int => Z61 g (Yla g.events T) (i : Int) z.1 z.2) big (b, 0) = some (b && endT g.events T g.events[i].id) := by
  intro i hi b
  have := Yei (l := g.events) (step := fun z : Bool × Int => Z61 g (Yla g.events T) (i : Int) z.1 z.2) (fun q j => (q, j)) (fun q => q) (fun q e => q && (!T e.id || !decide (g.events[i].id ∈ e.prev))) (fun _ _ => True) (by omega) (fun k q hk _ => by
   refine ⟨?_, trivial⟩
   simp only [Z61]
   rw [dlt hk, cond_true, inner1 i k hi hk, Option.bind_some]
   simp only [Z5x]
   rw [Ye2 hk (by omega)])
   (fun q _ => by simp only [Z61]; rw [dnlt, cond_false]) (s := b) trivial
  rw [this.1]
  congr 1
  have key : ∀ (l : List Y8w) (q : Bool), l.foldl (fun q e => q && (!T e.id || !decide (g.events[i].id ∈ e.prev))) q = (q && l.all fun e => (!T e.id || !decide (g.events[i].id ∈ e.prev))) := by
   intro l
   induction l with
   | nil => intro q; simp
   | cons e l ih => intro q; rw [List.foldl_cons, ih, List.all_cons, Bool.and_assoc]
  rw [key]
  congr 1
  unfold endT accT
  rw [Bool.eq_iff_iff, List.all_eq_true, List.all_eq_true]
  constructor
  ·
   intro h1 id hid
   obtain ⟨h2, h3⟩ := List.mem_filter.1 hid
   obtain ⟨_, e2, e3⟩ := Yj8 h2 hr.fits.up
   have := h1 _ e2
   rw [e3, h3] at this
   simpa using this
  ·
   intro h1 e he
   cases h3 : T e.id with
   | false => rfl
   | true =>
    have := h1 e.id (List.mem_filter.2 ⟨List.mem_map.2 ⟨e, he, rfl⟩, h3⟩)
    have e1 : evD g.events e.id = e := by unfold evD; rw [hr.fits.up.evAt_mem he]; rfl
    rw [e1] at this
    simpa using this
 have := Yei (l := g.events) (step := fun z : List Int × Int => Z62 g (Yla g.events T) z.1 z.2) (fun q j => (q, j)) (fun q => q) (fun q e => if (T e.id && endT g.events T e.id) = true then q ++ [e.id] else q) (fun i q => q.length ≤ i) (by omega) (fun i q hi hq => by
  refine ⟨?_, by split <;> first | omega | (rw [List.length_append, List.length_singleton]; omega)⟩
  have ht : getI (Yla g.events T) (i : Int) = some (T g.events[i].id) := Yld _ hi
  simp only [Z62]
  rw [dlt hi, cond_true, ht, Option.bind_some, inner2 i hi, Option.bind_some]
  simp only [Z5w, Z5v]
  rw [Ye1 hi, Ye2 hi (by omega), Option.bind_some, chk8 (by simp; omega)]
  cases (T g.events[i].id && endT g.events T g.events[i].id) <;> rfl)
  (fun q _ => by simp only [Z62]; rw [dnlt, cond_false]) (s := []) (by simp)
 rw [this.1, Option.bind_some]
 simp only [Z5u]
 congr 1
 unfold endsT accT
 rw [List.filter_filter]
 have key : ∀ (l : List Y8w) (q : List Int), l.foldl (fun q e => if (T e.id && endT g.events T e.id) = true then q ++ [e.id] else q) q = q ++ (l.map (·.id)).filter fun x => endT g.events T x && T x := by
  intro l
  induction l with
  | nil => intro q; simp
  | cons e l ih =>
   intro q
   rw [List.foldl_cons, ih]
   cases hc : T e.id && endT g.events T e.id with
   | true => rw [if_pos rfl, List.map_cons, List.filter_cons_of_pos (by rw [Bool.and_comm]; exact hc)]; simp
   | false => rw [if_neg (by simp), List.map_cons, List.filter_cons_of_neg (by rw [Bool.and_comm, hc]; simp)]
 rw [key]; rfl


def nowT (g : Y90) (h : Y96) (T : Int → Bool) : List Y92 := Yjc g ((endsT g.events T).map (behI h.after))

theorem Ylf {h : Y96} (l : List Int) (hl : l.length < 1000000) : Zgv h l = some (l.map (behI h.after)) := by
 unfold Zgv
 have := Yei (l := l) (step := fun z : List (List Y92) × Int => Zgu h l z.1 z.2) (fun q j => (q, j)) (fun q => q) (fun q p => q ++ [behI h.after p]) (fun i q => q.length = i) (by omega) (fun i q hi hq => by
  refine ⟨?_, by simp [hq]⟩
  simp only [Zgu]
  rw [dlt hi, cond_true, Ye1 hi, Option.bind_some, Yhf (by simp; omega), Option.bind_some, Ye2 hi (by omega)]; rfl)
  (fun q _ => by simp only [Zgu]; rw [dnlt, cond_false]) (s := []) rfl
 rw [this.1, Yk9]; rfl

theorem Both.endsT {g : Y90} {h : Y96} {w : Y93} (hb : Both g h w) (hr : Yk6 g) (T : Int → Bool) : Mrg g ((endsT g.events T).map (behI h.after)) := by
 refine ⟨hr.fits, hr.ev, hr.deep, fun s hs => ?_, by have := Yl8 hr.fits T; simp; omega⟩
 obtain ⟨id, hid, rfl⟩ := List.mem_map.1 hs
 have hm := Yl7 hid
 obtain ⟨_, e2, e3⟩ := Yj8 hm hr.fits.up
 have := (hb.behind hr e2).2
 rwa [e3] at this

theorem Ylg : @Zhb = @Zeb := rfl

theorem Ylh {g : Y90} {h : Y96} {w : Y93} (hb : Both g h w) (hr : Yk6 g) (T : Int → Bool) : (Zgv h (endsT g.events T)).bind (fun r => (Zhb h r).bind fun r' => some r') = some (nowT g h T) ∧ StOk g.events (nowT g h T) := by
 have hgr := hb.graph
 have hm := hb.endsT hr T
 have hel := Yl8 hr.fits T
 rw [Ylf _ (by omega), Option.bind_some]
 have hm' : Mrg h.graph ((endsT g.events T).map (behI h.after)) := by rw [hgr]; exact hm
 obtain ⟨_, c2, c3⟩ := Yje hm' hb.depth
 rw [Ylg, c2, hgr]
 rw [hgr] at c3
 exact ⟨rfl, c3⟩

theorem Yli {g : Y90} {h : Y96} {w : Y93} (hb : Both g h w) (hr : Yk6 g) (T : Int → Bool) : Z6b g w (Yla g.events T) = some (nowT g h T) := by
 have hgr := hb.graph
 have hel := Yl8 hr.fits T
 have hfl := hr.fits.len
 unfold Z6b
 rw [Yle hr, Option.bind_some]
 have := Yei (l := endsT g.events T) (step := fun z : List (List Y92) × Int => Z6a g w (endsT g.events T) z.1 z.2) (fun q j => (q, j)) (fun q => q) (fun q p => q ++ [behI h.after p]) (fun i q => q.length = i) (by omega) (fun i q hi hq => by
  refine ⟨?_, by simp [hq]⟩
  have hm := Yl7 (List.getElem_mem hi)
  obtain ⟨_, e2, e3⟩ := Yj8 hm hr.fits.up
  have hbe := (hb.behind hr e2).1
  rw [e3] at hbe
  simp only [Z6a]
  rw [dlt hi, cond_true, Ye1 hi, Option.bind_some, Yey _ _ (by omega), Option.bind_some, hbe, Option.bind_some, Yhf (by simp; omega), Option.bind_some, Ye2 hi (by omega)])
  (fun q _ => by simp only [Z6a]; rw [dnlt, cond_false]) (s := []) rfl
 rw [this.1, Yk9, Option.bind_some]
 simp only [Z69, List.nil_append]
 have hm' : Mrg h.graph ((endsT g.events T).map (behI h.after)) := by rw [hgr]; exact hb.endsT hr T
 obtain ⟨c1, _, _⟩ := Yje hm' hb.depth
 rw [hb.depths, ← hgr]
 rw [hgr] at c1 ⊢
 rw [c1]
 rfl

theorem Ylj {g : Y90} {h : Y96} {w : Y93} (hb : Both g h w) (hr : Yk6 g) : Z67 w = some (Yla g.events (refB h)) := by
 have hfl := hr.fits.len
 have hlc := hb.lc
 unfold Z67
 rw [Y4j (decide_eq_true (by omega)), Option.bind_some, Int.toNat_natCast]
 rw [Ylc (by omega) (fun l i => by simp only [Z66]), Option.bind_some]
 have := Ylb hb hr
 rw [hb.graph] at this
 rw [this]; rfl
end Go.Proofs.YtbgichfjcnibpaaGreat
namespace Go.Proofs.YtbgichfjcnibpaaGreat
open Go Go.Abs


theorem Ylk {α σ τ ω : Type} {l : List α} {step : τ → Option (τ ⊕ ω)} (emb : σ → Int → τ) (fin : σ → ω) (bad : ω) (p : Nat → Bool) (g : σ → α → σ) (I : Nat → σ → Prop) (hl : l.length < 9223372036854775807)
  (h1 : ∀ (i : Nat) (s : σ) (hi : i < l.length), I i s → (∀ j, j < i → p j = true) → step (emb s i) = some (cond (p i) (.inl (emb (g s l[i]) ((i + 1 : Nat) : Int))) (.inr bad)) ∧ (p i = true → I (i + 1) (g s l[i])))
  (h2 : ∀ s, I l.length s → step (emb s l.length) = some (.inr (fin s))) {s : σ} (h0 : I 0 s) :
  ((∀ i, i < l.length → p i = true) ∧ iter step big (emb s 0) = some (fin (l.foldl g s)) ∧ I l.length (l.foldl g s)) ∨ ((∃ i, i < l.length ∧ p i = false) ∧ iter step big (emb s 0) = some bad) := by
 have key : ∀ m i k : Nat, ∀ s, i + m = l.length → m < k → I i s → (∀ j, j < i → p j = true) →
   ((∀ i, i < l.length → p i = true) ∧ iter step k (emb s i) = some (fin ((l.drop i).foldl g s)) ∧ I l.length ((l.drop i).foldl g s)) ∨ ((∃ i, i < l.length ∧ p i = false) ∧ iter step k (emb s i) = some bad) := by
  intro m
  induction m with
  | zero =>
   intro i k s hm hk hi hp
   obtain ⟨k, rfl⟩ : ∃ k', k = k' + 1 := ⟨k - 1, by omega⟩
   obtain rfl : i = l.length := by omega
   rw [iter, h2 s hi, List.drop_length]
   exact .inl ⟨hp, rfl, hi⟩
  | succ m ih =>
   intro i k s hm hk hi hp
   obtain ⟨k, rfl⟩ : ∃ k', k = k' + 1 := ⟨k - 1, by omega⟩
   have hil : i < l.length := by omega
   obtain ⟨e1, e2⟩ := h1 i s hil hi hp
   cases hpi : p i with
   | false =>
    rw [hpi] at e1
    exact .inr ⟨⟨i, hil, hpi⟩, by rw [iter, e1]; rfl⟩
   | true =>
    rw [hpi] at e1
    rw [iter, e1, List.drop_eq_getElem_cons hil, List.foldl_cons]
    exact ih (i + 1) k _ (by omega) (by omega) (e2 hpi) fun j hj => by
     rcases Nat.lt_or_ge j i with h | h
     ·
      exact hp j h
     ·
      obtain rfl : j = i := by omega
      exact hpi
 have := key l.length 0 big s (by omega) (Ydw (by omega)) h0 fun j hj => by omega
 simpa using this


abbrev Pr := Int × Int
def pr (x : Y8y) : Pr := (x.room, x.id)
def prs (l : List Y8y) : List Pr := l.map pr
def posP (l : List Pr) (y : Pr) : Int := if y ∈ l then (l.idxOf y : Int) + 1 else 0

theorem Yll (l : List Pr) (a y : Pr) : posP (l ++ [a]) y = if y ∈ l then posP l y else if y = a then (l.length : Int) + 1 else 0 := by
 unfold posP
 by_cases h : y ∈ l
 ·
  rw [if_pos h, if_pos h, if_pos (by simp [h]), List.idxOf_append, if_pos h]
 ·
  rw [if_neg h]
  by_cases ha : y = a
  ·
   subst ha
   rw [if_pos (by simp), if_pos rfl, List.idxOf_append, if_neg h]
   simp
  ·
   rw [if_neg (by simp [h, ha]), if_neg ha]
theorem Ylm {l : List Pr} {y : Pr} : 0 < posP l y ↔ y ∈ l := by
 unfold posP
 by_cases h : y ∈ l
 ·
  rw [if_pos h]; exact ⟨fun _ => h, fun _ => by omega⟩
 ·
  rw [if_neg h]; exact ⟨fun x => by omega, fun x => absurd x h⟩
theorem Yln {l : List Pr} {y : Pr} {i : Nat} (hi : i ≤ l.length) : y ∈ l.take i ↔ y ∈ l ∧ l.idxOf y < i := by
 constructor
 ·
  intro h
  refine ⟨List.mem_of_mem_take h, ?_⟩
  have e : l = l.take i ++ l.drop i := (List.take_append_drop i l).symm
  have h2 := List.idxOf_lt_length_of_mem h
  rw [List.length_take] at h2
  rw [e, List.idxOf_append, if_pos h]
  omega
 ·
  rintro ⟨h, hlt⟩
  have h1 := List.idxOf_lt_length_of_mem h
  have : l[l.idxOf y] = y := List.getElem_idxOf h1
  rw [List.mem_take_iff_getElem]
  exact ⟨l.idxOf y, by omega, this⟩
theorem Ylo {l : List Pr} {y : Pr} {i : Nat} (hi : i ≤ l.length) : y ∈ l.take i ↔ 0 < posP l y ∧ posP l y ≤ i := by
 rw [Yln hi, Ylm]
 unfold posP
 constructor
 ·
  rintro ⟨h, hlt⟩; rw [if_pos h]; exact ⟨h, by omega⟩
 ·
  rintro ⟨h, hlt⟩; rw [if_pos h] at hlt; exact ⟨h, by omega⟩
theorem Ylp {α : Type} {l : List α} (h : l.Nodup) {i j : Nat} (hi : i < l.length) (hj : j < l.length) (e : l[i] = l[j]) : i = j := by
 have hp := List.pairwise_iff_getElem.1 (List.nodup_iff_pairwise_ne.1 h)
 rcases Nat.lt_trichotomy i j with h1 | h1 | h1
 ·
  exact absurd e (hp i j hi hj h1)
 ·
  exact h1
 ·
  exact absurd e.symm (hp j i hj hi h1)
theorem Ylq {l : List Pr} (h : l.Nodup) {i : Nat} (hi : i < l.length) : l.idxOf l[i] = i := by
 have hm : l[i] ∈ l := List.getElem_mem hi
 have h1 := List.idxOf_lt_length_of_mem hm
 have e : l[l.idxOf l[i]] = l[i] := List.getElem_idxOf h1
 exact Ylp h h1 hi e
theorem Ylr {l : List Pr} : l.Nodup ↔ ∀ (i : Nat) (hi : i < l.length), l[i] ∉ l.take i := by
 constructor
 ·
  intro h i hi hm
  have := (Yln (by omega)).1 hm
  rw [Ylq h hi] at this
  omega
 ·
  intro h
  rw [List.nodup_iff_pairwise_ne, List.pairwise_iff_getElem]
  intro i j hi hj hij e
  exact h j hj (by rw [List.mem_take_iff_getElem]; exact ⟨i, by omega, e⟩)

theorem Yls : ∀ {a l : List Pr}, a.Nodup → (∀ x ∈ a, x ∈ l) → a.length ≤ l.length
 | [], _, _, _ => Nat.zero_le _
 | x :: a, l, hn, hs => by
  simp only [List.nodup_cons] at hn
  have hx : x ∈ l := hs x (by simp)
  have := Yls (l := l.erase x) hn.2 fun y hy => (List.mem_erase_of_ne (fun e => hn.1 (by rw [← e]; exact hy))).2 (hs y (by simp [hy]))
  rw [List.length_erase_of_mem hx] at this
  have : 0 < l.length := List.length_pos_of_mem hx
  simp only [List.length_cons]; omega
theorem Ylt {a l : List Pr} (hn : a.Nodup) (hs : ∀ x ∈ a, x ∈ l) (hl : l.length ≤ a.length) : ∀ x ∈ l, x ∈ a := by
 intro x hx
 by_cases h : x ∈ a
 ·
  exact h
 ·
  have := Yls (a := x :: a) (l := l) (List.nodup_cons.2 ⟨h, hn⟩) fun y hy => by
   rcases List.mem_cons.1 hy with rfl | hy
   ·
    exact hx
   ·
    exact hs y hy
  simp only [List.length_cons] at this
  omega


def Ylu : Y96 := ⟨⟨0, [], []⟩, [], [], [], []⟩
def hiG (g : Y90) : Y96 := (Zet g).getD Ylu
def knG (g : Y90) : Y93 := (Z5s g).getD ⟨[], [], [], []⟩
theorem Ylv {g : Y90} (hr : Yk6 g) : Zet g = some (hiG g) ∧ Z5s g = some (knG g) ∧ Both g (hiG g) (knG g) := by
 obtain ⟨h, w, h1, h2, h3⟩ := Ykb hr
 unfold hiG knG
 rw [h1, h2]
 exact ⟨rfl, rfl, h3⟩

def okB (g : Y90) (id : Int) : Bool := refB (hiG g) id
def posG (s : List Pr) (g : Y90) : List Int := g.events.map fun e => posP s (g.room, e.id)
def nowG (g : Y90) : List Y92 := nowT g (hiG g) (okB g)
def wOf (h : Y91) : Y94 := ⟨h, h.rooms.map knG, h.rooms.map (posG (prs h.stream)), h.rooms.map nowG⟩

theorem Ylw {s : List Pr} {g : Y90} {j : Nat} (hj : j < g.events.length) (h2 : j < (posG s g).length) : (posG s g)[j] = posP s (g.room, g.events[j].id) := List.getElem_map _

theorem Ylx {h : Y91} {g : Y90} (hr : Yk6 g) (hn : (prs h.stream).Nodup) (hl : h.stream.length ≤ 120) :
  iter (fun z : List Int × Int => Z6h h g z.1 z.2) big (List.replicate g.events.length 0, 0) = some (posG (prs h.stream) g) := by
 have hfl := hr.fits.len
 obtain ⟨o, e1, rfl⟩ := Ydz (τ := List Int × Int) (ω := List Int) (σ := List Int) (step := fun z : List Int × Int => Z6h h g z.1 z.2) (n := h.stream.length) (fun s j => (s, j)) (fun i s => s = posG ((prs h.stream).take i) g) (fun o => o = posG (prs h.stream) g) (by omega) (by
  rintro i s hi rfl
  have hil : i < (prs h.stream).length := by unfold prs; rw [List.length_map]; exact hi
  have eL : (prs h.stream)[i] = (h.stream[i].room, h.stream[i].id) := List.getElem_map pr
  have etk : (prs h.stream).take (i + 1) = (prs h.stream).take i ++ [(h.stream[i].room, h.stream[i].id)] := by rw [List.take_add_one, List.getElem?_eq_getElem hil, eL]; rfl
  have hnot := Ylr.1 hn i hil
  rw [eL] at hnot
  have hw := Ye2 hi (by omega : h.stream.length < 9223372036854775807)
  have hlt : ((prs h.stream).take i).length = i := by rw [List.length_take]; omega
  have hskip : (∀ e ∈ g.events, (g.room, e.id) ≠ (h.stream[i].room, h.stream[i].id)) → posG ((prs h.stream).take i) g = posG ((prs h.stream).take (i + 1)) g := fun hx => by
   unfold posG
   refine List.map_congr_left fun e he => ?_
   rw [etk, Yll]
   by_cases hm : (g.room, e.id) ∈ (prs h.stream).take i
   ·
    rw [if_pos hm]
   ·
    rw [if_neg hm, if_neg (hx e he)]
    unfold posP; rw [if_neg hm]
  simp only [Z6h]
  rw [dlt hi, cond_true, Ye1 hi, Option.bind_some, Yey _ _ (by omega), Option.bind_some, beqd]
  by_cases hroom : h.stream[i].room = g.room
  ·
   rw [decide_eq_true hroom, cond_true, Yez]
   cases hh : hasE g.events h.stream[i].id with
   | false =>
    refine ⟨_, by simp only [Z6g, Z6f, cond_false]; rw [hw], hskip fun e he ee => ?_⟩
    have : e.id = h.stream[i].id := (Prod.mk.inj ee).2
    have := Yf4.2 ⟨e, he, this⟩
    rw [hh] at this; cases this
   | true =>
    obtain ⟨k, hk, h1, h2, h3⟩ := Yf1 hh
    have hkl : k < (posG ((prs h.stream).take i) g).length := by unfold posG; rw [List.length_map]; exact hk
    refine ⟨(posG ((prs h.stream).take i) g).set k ((i + 1 : Nat) : Int), by simp only [Z6g, Z6f, cond_true]; rw [h1, Ye1 hkl, Option.bind_some, Int.toNat_natCast, hw], ?_⟩
    refine List.ext_getElem (by simp [posG]) fun j hj1 hj2 => ?_
    have hj : j < g.events.length := by simpa [posG] using hj2
    have hj0 : j < (posG ((prs h.stream).take i) g).length := by simpa [posG] using hj
    rw [List.getElem_set, Ylw hj hj2, Ylw hj hj0]
    simp only [etk]
    rw [Yll]
    by_cases hjk : k = j
    ·
     subst hjk
     have ee : (g.room, g.events[k].id) = (h.stream[i].room, h.stream[i].id) := by rw [h2, hroom]
     rw [if_pos rfl, ee, if_neg hnot, if_pos rfl, hlt]; omega
    ·
     rw [if_neg hjk]
     by_cases hm : (g.room, g.events[j].id) ∈ (prs h.stream).take i
     ·
      rw [if_pos hm]
     ·
      rw [if_neg hm, if_neg (fun ee => hjk (hr.fits.up.inj hk hj (by rw [h2]; exact (Prod.mk.inj ee).2.symm)))]
      unfold posP; rw [if_neg hm]
  ·
   rw [decide_eq_false hroom, cond_false]
   exact ⟨_, by simp only [Z6g, Z6f, cond_false]; rw [hw], hskip fun e he ee => hroom (Prod.mk.inj ee).1.symm⟩) (by
  rintro s rfl
  simp only [Z6h]
  rw [dnlt, cond_false]
  exact ⟨_, rfl, by rw [show h.stream.length = (prs h.stream).length by simp [prs], List.take_length]⟩) (s := List.replicate g.events.length 0) (by
  show List.replicate g.events.length 0 = posG [] g
  exact List.ext_getElem (by simp [posG]) fun j h1 h2 => by simp [posG, posP])
 exact e1

theorem Yly {h : Y91} (hr : ∀ g ∈ h.rooms, Yk6 g) (hn : (prs h.stream).Nodup) (hl : h.stream.length ≤ 120) (h3 : h.rooms.length = 3) : Z6j h = some (wOf h) := by
 unfold Z6j
 have := Yei (l := h.rooms) (step := fun z : List Y93 × List (List Int) × List (List Y92) × Int => Z6i h z.1 z.2.1 z.2.2.1 z.2.2.2) (fun (q : List Y93 × List (List Int) × List (List Y92)) j => (q.1, q.2.1, q.2.2, j)) (fun q => q)
  (fun q g => (q.1 ++ [knG g], q.2.1 ++ [posG (prs h.stream) g], q.2.2 ++ [nowG g])) (fun i q => q.1.length = i ∧ q.2.1.length = i ∧ q.2.2.length = i) (by omega) (fun i q hi ⟨q1, q2, q3⟩ => by
  refine ⟨?_, by simp [q1], by simp [q2], by simp [q3]⟩
  have hg := hr _ (List.getElem_mem hi)
  have hfl := hg.fits.len
  obtain ⟨b1, b2, b3⟩ := Ylv hg
  have hp := Ylx hg hn hl
  simp only [Z6i]
  rw [dlt hi, cond_true, Ye1 hi, Option.bind_some, b2, Option.bind_some, Y4j (decide_eq_true (by simp; omega)), Option.bind_some, Ylj b3 hg, Option.bind_some, Yli b3 hg, Option.bind_some, Yhf (by simp; omega), Option.bind_some, Y4j (decide_eq_true (by omega)), Option.bind_some, Int.toNat_natCast, hp, Option.bind_some]
  simp only [Z6e]
  rw [Yhf (by simp; omega), Option.bind_some, Ye2 hi (by omega)]
  rfl)
  (fun q _ => by simp only [Z6i]; rw [dnlt, cond_false]) (s := ([], [], [])) ⟨rfl, rfl, rfl⟩
 rw [this.1, Option.bind_some]
 have key : ∀ (l : List Y90) (q : List Y93 × List (List Int) × List (List Y92)), l.foldl (fun q g => (q.1 ++ [knG g], q.2.1 ++ [posG (prs h.stream) g], q.2.2 ++ [nowG g])) q = (q.1 ++ l.map knG, q.2.1 ++ l.map (posG (prs h.stream)), q.2.2 ++ l.map nowG) := by
  intro l
  induction l with
  | nil => intro q; simp
  | cons g l ih => intro q; rw [List.foldl_cons, ih]; simp
 rw [key]
 simp only [List.nil_append, Z6d]
 rfl
end Go.Proofs.YtbgichfjcnibpaaGreat
namespace Go.Proofs.YtbgichfjcnibpaaGreat
open Go Go.Abs

def inS (s : List Pr) (g : Y90) (e : Y8w) : Bool := decide (0 < posP s (g.room, e.id))
def strE (s : List Pr) (g : Y90) (e : Y8w) : Bool := (okB g e.id == inS s g e) && (!inS s g e || e.prev.all fun p => decide (posP s (g.room, p) < posP s (g.room, e.id)))
def Ylz (s : List Pr) (g : Y90) : Nat := (g.events.filter (inS s g)).length
def Ym0 (s : List Pr) (l : List Y90) : Nat := (l.map (Ylz s)).sum

theorem Ym1 (s : List Pr) (g : Y90) : ∀ (l : List Y8w) (m : Int), l.foldl (fun m e => if inS s g e = true then m + 1 else m) m = m + (l.filter (inS s g)).length
 | [], m => by simp
 | e :: l, m => by
  rw [List.foldl_cons, Ym1 s g l]
  cases h : inS s g e with
  | true => rw [if_pos rfl, List.filter_cons_of_pos h, List.length_cons]; omega
  | false => rw [if_neg (by simp), List.filter_cons_of_neg (by simp [h])]
theorem Ym2 (s : List Pr) : ∀ (l : List Y90) (m : Int), l.foldl (fun m g => m + (Ylz s g : Int)) m = m + (Ym0 s l : Nat)
 | [], m => by simp [Ym0]
 | g :: l, m => by
  rw [List.foldl_cons, Ym2 s l]
  unfold Ym0
  rw [List.map_cons, List.sum_cons]
  omega

def atB {α : Type} (l : List α) (p : α → Bool) (i : Nat) : Bool := if h : i < l.length then p l[i] else true
theorem Ym3 {α : Type} {l : List α} {p : α → Bool} {i : Nat} (h : i < l.length) : atB l p i = p l[i] := by unfold atB; rw [dif_pos h]
theorem Ym4 {α : Type} {l : List α} {p : α → Bool} : (∀ i, i < l.length → atB l p i = true) ↔ l.all p = true := Yeg
theorem Ym5 {α : Type} {l : List α} {p : α → Bool} (h : ∃ i, i < l.length ∧ atB l p i = false) : l.all p = false := by
 obtain ⟨i, hi, hb⟩ := h
 rw [Bool.eq_false_iff]
 intro ha
 have := Ym4.2 ha i hi
 rw [hb] at this; cases this

theorem Ym6 {s : List Pr} {g : Y90} (hr : Yk6 g) {k : Nat} (hk : k < g.events.length) :
  iter (Z6q g (k : Int) (posG s g) (posP s (g.room, g.events[k].id))) big 0 = some (cond (!inS s g g.events[k] || g.events[k].prev.all fun p => decide (posP s (g.room, p) < posP s (g.room, g.events[k].id))) (.inr ()) (.inl false)) := by
 have hpl := hr.fits.plen _ (List.getElem_mem hk)
 have hfl := hr.fits.len
 cases hin : inS s g g.events[k] with
 | false =>
  have h0 : decide (posP s (g.room, g.events[k].id) > 0) = false := hin
  rw [Y4m (o := .inr ()) (fun m (x : Int) => x = 0 ∧ m = 0) ?_ (m := 0) ⟨rfl, rfl⟩ (Ydw (by omega))]
  ·
   rfl
  ·
   rintro m x ⟨rfl, rfl⟩
   left
   simp only [Z6q]
   rw [Ye1 hk, Option.bind_some, h0]
   cases decide ((0 : Int) < (g.events[k].prev.length : Int)) <;> rfl
 | true =>
  have h0 : decide (posP s (g.room, g.events[k].id) > 0) = true := hin
  rw [Yeh (l := g.events[k].prev) (fun p => decide (posP s (g.room, p) < posP s (g.room, g.events[k].id))) (.inl false) (.inr ()) hpl (fun i hi => by
   obtain ⟨j, hj, j1, j2, _⟩ := Yf1 (hr.fits.whole _ (List.getElem_mem hk) _ (List.getElem_mem hi))
   have hjl : j < (posG s g).length := by unfold posG; rw [List.length_map]; exact hj
   simp only [Z6q]
   rw [Ye1 hk, Option.bind_some, dlt hi, cond_true, h0]
   simp only [Z6p]
   rw [Ye1 hk, cond_true, Option.bind_some, Ye1 hi, Option.bind_some, Yey _ _ (by omega), Option.bind_some, j1, Ye1 hjl, Option.bind_some, Ylw hj, j2, Ye2 hi hpl]
   by_cases hc : posP s (g.room, g.events[k].prev[i]) < posP s (g.room, g.events[k].id)
   ·
    rw [decide_eq_true hc, decide_eq_false (by omega)]; rfl
   ·
    rw [decide_eq_false hc, decide_eq_true (by omega)]; rfl) (by
   simp only [Z6q]
   rw [Ye1 hk, Option.bind_some, dnlt, cond_false]; rfl)]
  rfl

theorem Ym7 {g : Y90} (hr : Yk6 g) {k : Nat} (hk : k < g.events.length) : ∃ c, getI (knG g).code (k : Int) = some c ∧ (c == 0) = okB g g.events[k].id := by
 obtain ⟨c, h1, h2⟩ := (Ylv hr).2.2.code (List.getElem_mem hk)
 rw [(hr.fits.up.plc hk).1] at h1
 refine ⟨c, h1, ?_⟩
 unfold okB refB
 rw [h2, beqd]

theorem Ym8 {h : Y91} {i : Nat} (hi : i < h.rooms.length) (hr : Yk6 h.rooms[i]) {m : Int} (hm : 0 ≤ m ∧ m ≤ 1000) :
  iter (fun z : Int × Int => Z6r (wOf h) (i : Int) h.rooms[i] z.1 z.2) big (m, 0) = some (cond (h.rooms[i].events.all (strE (prs h.stream) h.rooms[i])) (.inr (m + (Ylz (prs h.stream) h.rooms[i] : Int))) (.inl false)) := by
 have hfl := hr.fits.len
 have g1 : getI (wOf h).rooms (i : Int) = some (knG h.rooms[i]) := Yld knG hi
 have g2 : getI (wOf h).pos (i : Int) = some (posG (prs h.stream) h.rooms[i]) := Yld _ hi
 have := Ylk (l := h.rooms[i].events) (step := fun z : Int × Int => Z6r (wOf h) (i : Int) h.rooms[i] z.1 z.2) (fun q j => (q, j)) (fun q => Sum.inr q) (Sum.inl false) (atB h.rooms[i].events (strE (prs h.stream) h.rooms[i])) (fun m e => if inS (prs h.stream) h.rooms[i] e = true then m + 1 else m) (fun k q => 0 ≤ q ∧ q ≤ 1000 + k) (by omega) (fun k q hk ⟨q1, q2⟩ _ => by
  refine ⟨?_, fun _ => by split <;> omega⟩
  obtain ⟨c, c1, c2⟩ := Ym7 hr hk
  have hkl : k < (posG (prs h.stream) h.rooms[i]).length := by unfold posG; rw [List.length_map]; exact hk
  have hp := Ym6 (s := prs h.stream) hr hk
  have hw := Ye2 hk (by omega : h.rooms[i].events.length < 9223372036854775807)
  have hin : decide (posP (prs h.stream) (h.rooms[i].room, h.rooms[i].events[k].id) > 0) = inS (prs h.stream) h.rooms[i] h.rooms[i].events[k] := rfl
  simp only [Z6r]
  rw [dlt hk, cond_true, g1, Option.bind_some, c1, Option.bind_some, g2, Option.bind_some, Ye1 hkl, Option.bind_some, Ylw hk, c2, hin, hp, Option.bind_some, Ym3 hk]
  unfold strE
  cases ho : okB h.rooms[i] h.rooms[i].events[k].id == inS (prs h.stream) h.rooms[i] h.rooms[i].events[k] with
  | false => rfl
  | true =>
   rw [cond_true, Bool.true_and]
   cases hc : (!inS (prs h.stream) h.rooms[i] h.rooms[i].events[k] || h.rooms[i].events[k].prev.all fun p => decide (posP (prs h.stream) (h.rooms[i].room, p) < posP (prs h.stream) (h.rooms[i].room, h.rooms[i].events[k].id))) with
   | false => rfl
   | true =>
    simp only [cond_true, Z6o, Z6n]
    rw [hin, hw, Y4i (n := q + 1) (by omega) (by omega)]
    cases inS (prs h.stream) h.rooms[i] h.rooms[i].events[k] <;> rfl)
  (fun q _ => by simp only [Z6r]; rw [dnlt, cond_false]) (s := m) ⟨hm.1, by omega⟩
 rcases this with ⟨a1, a2, _⟩ | ⟨a1, a2⟩
 ·
  rw [a2, Ym4.1 a1, Ym1]; rfl
 ·
  rw [a2, Ym5 a1]; rfl

theorem Ym9 {s : List Pr} {g : Y90} (hr : Yk6 g) : Ylz s g ≤ 60 := Nat.le_trans (List.length_filter_le _ _) hr.fits.len

theorem Yma {h : Y91} (hr : ∀ g ∈ h.rooms, Yk6 g) (h3 : h.rooms.length = 3) (hl : h.stream.length ≤ 120) :
  Z6t (wOf h) = some ((h.rooms.all fun g => g.events.all (strE (prs h.stream) g)) && decide (Ym0 (prs h.stream) h.rooms = h.stream.length)) := by
 unfold Z6t
 have := Ylk (l := h.rooms) (step := fun z : Int × Int => Z6s (wOf h) z.1 z.2) (fun q j => (q, j)) (fun q => Sum.inr q) (Sum.inl false) (atB h.rooms fun g => g.events.all (strE (prs h.stream) g)) (fun m g => m + (Ylz (prs h.stream) g : Int)) (fun k q => 0 ≤ q ∧ q ≤ 60 * k) (by omega) (fun k q hk ⟨q1, q2⟩ _ => by
  have hg := hr _ (List.getElem_mem hk)
  have hml := Ym9 (s := prs h.stream) hg
  refine ⟨?_, fun _ => by omega⟩
  have hev := Ym8 (h := h) hk hg (m := q) ⟨q1, by omega⟩
  have g0 : getI (wOf h).h.rooms (k : Int) = some h.rooms[k] := Ye1 hk
  have hw := Ye2 hk (by omega : h.rooms.length < 9223372036854775807)
  have hd : decide ((k : Int) < ((wOf h).h.rooms.length : Int)) = true := dlt hk
  simp only [Z6s]
  rw [hd, cond_true, g0, Option.bind_some, hev, Option.bind_some, Ym3 hk]
  cases h.rooms[k].events.all (strE (prs h.stream) h.rooms[k]) with
  | false => rfl
  | true => simp only [cond_true, Z6m]; rw [hw])
  (fun q _ => by
   have hd : decide ((h.rooms.length : Int) < ((wOf h).h.rooms.length : Int)) = false := dnlt _
   simp only [Z6s]; rw [hd, cond_false]) (s := 0) ⟨by omega, by omega⟩
 rcases this with ⟨a1, a2, _⟩ | ⟨a1, a2⟩
 ·
  rw [a2, Ym4.1 a1, Ym2, Option.bind_some]
  simp only [Z6l]
  rw [beqd, Bool.true_and]
  congr 1
  rw [Bool.eq_iff_iff]
  simp only [decide_eq_true_eq]
  show (0 + ((Ym0 (prs h.stream) h.rooms : Nat) : Int) = (h.stream.length : Int)) ↔ _
  omega
 ·
  rw [a2, Ym5 a1]; rfl
end Go.Proofs.YtbgichfjcnibpaaGreat
namespace Go.Proofs.YtbgichfjcnibpaaGreat
open Go Go.Abs

structure Ymb (h : Y91) : Prop where
 rl : h.rooms.length ≤ 1048576
 sl : h.stream.length ≤ 1048576
 fine : ∀ g ∈ h.rooms, Fine g

def gB (g : Y90) : Bool := (Z2y g).getD false
theorem Ymc {g : Y90} (hg : Fine g) : Z2y g = some (gB g) ∧ Zab g = some (gB g) ∧ (gB g = true ↔ GOk g) := by
 obtain ⟨b, h1, h2, h3⟩ := Yha hg
 unfold gB
 rw [h1]
 exact ⟨rfl, h2, h3⟩
def rB (l : List Y90) (i : Nat) : Bool := if h : i < l.length then gB l[i] && decide (l[i].room = (i : Int) + 1) else true
theorem Ymd {l : List Y90} {i : Nat} (h : i < l.length) : rB l i = (gB l[i] && decide (l[i].room = (i : Int) + 1)) := by unfold rB; rw [dif_pos h]
def Yme (h : Y91) : Prop := ∀ (i : Nat) (hi : i < h.rooms.length), GOk h.rooms[i] ∧ h.rooms[i].room = (i : Int) + 1
theorem Ymf {h : Y91} (hf : Ymb h) : (∀ i, i < h.rooms.length → rB h.rooms i = true) ↔ Yme h := by
 constructor
 ·
  intro k i hi
  have := k i hi
  rw [Ymd hi, Bool.and_eq_true] at this
  exact ⟨(Ymc (hf.fine _ (List.getElem_mem hi))).2.2.1 this.1, by simpa using this.2⟩
 ·
  intro k i hi
  rw [Ymd hi, Bool.and_eq_true]
  exact ⟨(Ymc (hf.fine _ (List.getElem_mem hi))).2.2.2 (k i hi).1, by simpa using (k i hi).2⟩
theorem Yme.right {h : Y91} (k : Yme h) : ∀ g ∈ h.rooms, Yk6 g := fun g hg => by
 obtain ⟨i, hi, rfl⟩ := List.mem_iff_getElem.1 hg
 exact (k i hi).1.right


def zW : Y94 := ⟨⟨[], []⟩, [], [], []⟩
def OkS (h : Y91) : Prop := h.rooms.length = 3 ∧ h.stream.length ≤ 120 ∧ Yme h ∧ (prs h.stream).Nodup ∧ (∀ g ∈ h.rooms, ∀ e ∈ g.events, strE (prs h.stream) g e = true) ∧ Ym0 (prs h.stream) h.rooms = h.stream.length

theorem Ymg {l : List Y8y} {i : Nat} (hi : i < l.length) (h2 : i < (prs l).length) : (prs l)[i] = (l[i].room, l[i].id) := List.getElem_map pr
theorem Ymh (l : List Y8y) : (prs l).length = l.length := List.length_map pr

theorem eqSp (a b c d : Int) : ((a == b) && ((c == d) && true)) = decide ((b, d) = (a, c)) := by
 rw [Bool.eq_iff_iff]
 simp only [Bool.and_eq_true, beq_iff_eq, and_true, decide_eq_true_eq, Prod.mk.injEq]
 exact ⟨fun x => ⟨x.1.symm, x.2.symm⟩, fun x => ⟨x.1.symm, x.2.symm⟩⟩

theorem Ymi {h : Y91} (hl : h.stream.length ≤ 120) {i : Nat} (hi : i < h.stream.length) :
  iter (Z6x h (i : Int)) big 0 = some (cond (!decide ((h.stream[i].room, h.stream[i].id) ∈ (prs h.stream).take i)) (.inr ()) (.inl (zW, false))) := by
 have hlt : ((prs h.stream).take i).length = i := by rw [List.length_take, Ymh]; omega
 have hgt : ∀ (k : Nat) (hk : k < ((prs h.stream).take i).length), ((prs h.stream).take i)[k] = (h.stream[k].room, h.stream[k].id) := fun k hk => by
  rw [List.getElem_take]; exact Ymg _ _
 rw [Yeh (l := (prs h.stream).take i) (step := Z6x h (i : Int)) (fun y => !decide (y = (h.stream[i].room, h.stream[i].id))) (.inl (zW, false)) (.inr ()) (by omega) (fun k hk => by
  have hki : k < i := by omega
  simp only [Z6x]
  rw [dlt hki, cond_true, Ye1 hi, Option.bind_some, Ye1 (by omega : k < h.stream.length), Option.bind_some, hgt k hk, Ye2 hki (by omega)]
  rw [eqSp]
  cases decide ((h.stream[k].room, h.stream[k].id) = (h.stream[i].room, h.stream[i].id)) <;> rfl) (by
  simp only [Z6x]
  rw [hlt, dnlt, cond_false])]
 congr 2
 rw [Bool.eq_iff_iff, List.all_eq_true]
 simp only [Bool.not_eq_true', decide_eq_false_iff_not]
 constructor
 ·
  exact fun k hm => k _ hm rfl
 ·
  exact fun k y hy e => k (e ▸ hy)

theorem Ymj {h : Y91} (hf : Ymb h) : ∃ b : Bool, (b = true ↔ OkS h) ∧ Z73 h = some (cond b (wOf h, true) (zW, false)) := by
 have hrl := hf.rl
 have hsl := hf.sl
 unfold Z73
 by_cases h3 : (h.rooms.length : Int) = 3
 rotate_left
 ·
  refine ⟨false, ⟨fun x => (by cases x), fun x => absurd x.1 (by omega)⟩, ?_⟩
  rw [bned, decide_eq_false h3]; rfl
 by_cases hl : (h.stream.length : Int) > 120
 ·
  refine ⟨false, ⟨fun x => (by cases x), fun x => absurd x.2.1 (by omega)⟩, ?_⟩
  rw [bned, decide_eq_true h3, decide_eq_true hl]; rfl
 rw [bned, decide_eq_true h3, decide_eq_false hl]
 simp only [Bool.not_true, cond_false, Z72]
 have hl' : h.stream.length ≤ 120 := by omega
 have h3' : h.rooms.length = 3 := by omega
 have := Ylk (l := h.rooms) (step := fun z : Int => Z71 h z) (fun (_ : Unit) j => j) (fun _ => Sum.inr ()) (Sum.inl (zW, false)) (rB h.rooms) (fun q _ => q) (fun _ _ => True) (by omega) (fun k q hk _ _ => by
  refine ⟨?_, fun _ => trivial⟩
  obtain ⟨b1, _, _⟩ := Ymc (hf.fine _ (List.getElem_mem hk))
  have hw := Ye2 hk (by omega : h.rooms.length < 9223372036854775807)
  simp only [Z71]
  rw [dlt hk, cond_true, Ye1 hk, Option.bind_some, b1, Option.bind_some, Ymd hk, hw, bned]
  cases gB h.rooms[k] with
  | false => rfl
  | true =>
   simp only [cond_true, Bool.true_and, Z70, hw]
   by_cases hc : h.rooms[k].room = (k : Int) + 1
   ·
    rw [decide_eq_true hc, decide_eq_true (by omega)]; rfl
   ·
    rw [decide_eq_false hc, decide_eq_false (by omega)]; rfl)
  (fun q _ => by simp only [Z71]; rw [dnlt, cond_false]) (s := ()) trivial
 rcases this with ⟨a1, a2, _⟩ | ⟨⟨i, hi, a1⟩, a2⟩
 rotate_left
 ·
  refine ⟨false, ⟨fun x => (by cases x), fun x => ?_⟩, ?_⟩
  ·
   have := (Ymf hf).2 x.2.2.1 i hi
   rw [a1] at this; cases this
  ·
   have a2' : iter (Z71 h) big 0 = some (Sum.inl (zW, false)) := a2
   rw [a2']; rfl
 have hro := (Ymf hf).1 a1
 have a2' : iter (Z71 h) big 0 = some (Sum.inr ()) := a2
 rw [a2', Option.bind_some]
 simp only [Z6z]
 -- no repetition
 have := Ylk (l := prs h.stream) (step := fun z : Int => Z6y h z) (fun (_ : Unit) j => j) (fun _ => Sum.inr ()) (Sum.inl (zW, false)) (fun i => if hi : i < (prs h.stream).length then !decide ((prs h.stream)[i] ∈ (prs h.stream).take i) else true) (fun q _ => q) (fun _ _ => True) (by rw [Ymh]; omega) (fun k q hk _ _ => by
  refine ⟨?_, fun _ => trivial⟩
  have hk' : k < h.stream.length := by rw [Ymh] at hk; exact hk
  have hw := Ye2 hk' (by omega : h.stream.length < 9223372036854775807)
  have hd := Ymi hl' hk'
  simp only [Z6y]
  rw [dlt hk', cond_true, hd, Option.bind_some, dif_pos hk, Ymg hk']
  cases decide ((h.stream[k].room, h.stream[k].id) ∈ (prs h.stream).take k) with
  | false => simp only [Bool.not_false, cond_true, Z6w]; rw [hw]
  | true => rfl)
  (fun q _ => by simp only [Z6y]; rw [Ymh, dnlt, cond_false]) (s := ()) trivial
 rcases this with ⟨n1, n2, _⟩ | ⟨⟨i, hi, n1⟩, n2⟩
 rotate_left
 ·
  refine ⟨false, ⟨fun x => (by cases x), fun x => ?_⟩, ?_⟩
  ·
   rw [dif_pos hi] at n1
   have := Ylr.1 x.2.2.2.1 i hi
   simp [this] at n1
  ·
   have n2' : iter (Z6y h) big 0 = some (Sum.inl (zW, false)) := n2
   rw [n2']; rfl
 have hnd : (prs h.stream).Nodup := Ylr.2 fun i hi => by
  have := n1 i hi
  rw [dif_pos hi] at this
  simpa using this
 have n2' : iter (Z6y h) big 0 = some (Sum.inr ()) := n2
 rw [n2', Option.bind_some]
 simp only [Z6v]
 rw [Yly hro.right hnd hl' h3', Option.bind_some, Yma hro.right h3' hl', Option.bind_some]
 refine ⟨(h.rooms.all fun g => g.events.all (strE (prs h.stream) g)) && decide (Ym0 (prs h.stream) h.rooms = h.stream.length), ?_, ?_⟩
 ·
  rw [Bool.and_eq_true, List.all_eq_true, decide_eq_true_eq]
  constructor
  ·
   rintro ⟨k1, k2⟩
   exact ⟨h3', hl', hro, hnd, fun g hg e he => List.all_eq_true.1 (k1 g hg) e he, k2⟩
  ·
   rintro ⟨_, _, _, _, k1, k2⟩
   exact ⟨fun g hg => List.all_eq_true.2 fun e he => k1 g hg e he, k2⟩
 ·
  cases (h.rooms.all fun g => g.events.all (strE (prs h.stream) g)) && decide (Ym0 (prs h.stream) h.rooms = h.stream.length) <;> rfl
end Go.Proofs.YtbgichfjcnibpaaGreat
namespace Go.Proofs.YtbgichfjcnibpaaGreat
open Go Go.Abs

def zS : Y97 := ⟨⟨[], []⟩, []⟩
def sOf (h : Y91) : Y97 := ⟨h, h.rooms.map hiG⟩
def zG : Y90 := ⟨0, [], []⟩
def rmG (h : Y91) (r : Int) : Y90 := h.rooms.getD (r - 1).toNat zG
def stX (h : Y91) (i : Nat) (x : Y8y) : Bool :=
 decide (1 ≤ x.room ∧ x.room ≤ 3) && !decide ((x.room, x.id) ∈ (prs h.stream).take i) && hasE (rmG h x.room).events x.id && okB (rmG h x.room) x.id &&
  (evD (rmG h x.room).events x.id).prev.all fun p => !okB (rmG h x.room) p || decide ((x.room, p) ∈ (prs h.stream).take i)
def stB (h : Y91) (i : Nat) : Bool := if hi : i < h.stream.length then stX h i h.stream[i] else true
def Ymk (g : Y90) : Nat := (accT g.events (okB g)).length
def Yml (l : List Y90) : Nat := (l.map Ymk).sum
theorem Ymm : ∀ (l : List Y90) (q : List Y96 × Int), l.foldl (fun q g => (q.1 ++ [hiG g], q.2 + (Ymk g : Int))) q = (q.1 ++ l.map hiG, q.2 + (Yml l : Nat))
 | [], q => by simp [Yml]
 | g :: l, q => by
  rw [List.foldl_cons, Ymm l]
  unfold Yml
  rw [List.map_cons, List.map_cons, List.sum_cons, List.append_assoc]
  congr 1
  omega

theorem Ymn {g : Y90} (hr : Yk6 g) : Ymk g ≤ 60 := Yl6 hr.fits _

def OkI (h : Y91) : Prop := h.rooms.length = 3 ∧ h.stream.length ≤ 120 ∧ Yme h ∧ (∀ i, i < h.stream.length → stB h i = true) ∧ Yml h.rooms = h.stream.length

theorem Ymo {h : Y91} (h3 : h.rooms.length = 3) {r : Int} (hr : 1 ≤ r ∧ r ≤ 3) : ∃ (k : Nat) (hk : k < h.rooms.length), r = (k : Int) + 1 ∧ IntKind.i64.wrap (r - 1) = (k : Int) ∧ rmG h r = h.rooms[k] := by
 refine ⟨(r - 1).toNat, by omega, by omega, ?_, ?_⟩
 ·
  rw [Y4i (by omega) (by omega)]; omega
 ·
  unfold rmG
  rw [List.getD_eq_getElem?_getD, List.getElem?_eq_getElem (by omega)]; rfl

theorem Ymp {g : Y90} (hg : Yk6 g) {m : List (Pr × Bool)} {s : List Pr} {x : Y8y} (hm : ∀ y, Option.getD (pget m y) false = decide (y ∈ s)) (p : Int) :
  Zf3 p (hiG g) m x = some (!(!okB g p || decide ((x.room, p) ∈ s))) := by
 unfold Zf3
 rw [beqd]
 show cond (okB g p) _ _ = _
 cases okB g p with
 | false => rfl
 | true => simp only [cond_true, Zf2, hm]; simp

theorem Ymq {g : Y90} (hg : Yk6 g) {m : List (Pr × Bool)} {s : List Pr} {x : Y8y} (hm : ∀ y, Option.getD (pget m y) false = decide (y ∈ s)) (l : List Int) (hl : l.length < 9223372036854775807) :
  Zf9 l (hiG g) m x = some (!l.all fun p => !okB g p || decide ((x.room, p) ∈ s)) := by
 unfold Zf9 Zf7
 rw [Yek (Yef (l := l) (step := Zf6 l (hiG g) m x) (fun p => !(!okB g p || decide ((x.room, p) ∈ s))) hl (fun i hi => by
  simp only [Zf6]
  rw [dlt hi, cond_true, Ye1 hi, Option.bind_some, Ymp hg hm, Option.bind_some, Ye2 hi hl]
  cases (!okB g l[i] || decide ((x.room, l[i]) ∈ s)) <;> rfl) (by simp only [Zf6]; rw [dnlt, cond_false])) (fun _ => rfl) rfl, Option.bind_some, Yej, Yj5]

theorem Ymr {h : Y91} (hro : Yme h) (h3 : h.rooms.length = 3) (hl : h.stream.length ≤ 120) :
  ((∀ i, i < h.stream.length → stB h i = true) ∧ iter (fun z : List (Pr × Bool) × Int => Zff h (h.rooms.map hiG) z.1 z.2) big ([], 0) = some (.inr ())) ∨
  ((∃ i, i < h.stream.length ∧ stB h i = false) ∧ iter (fun z : List (Pr × Bool) × Int => Zff h (h.rooms.map hiG) z.1 z.2) big ([], 0) = some (.inl (zS, false))) := by
 have := Ylk (l := h.stream) (step := fun z : List (Pr × Bool) × Int => Zff h (h.rooms.map hiG) z.1 z.2) (fun q j => (q, j)) (fun _ => Sum.inr ()) (Sum.inl (zS, false)) (stB h) (fun m x => pset m (x.room, x.id) true) (fun i m => ∀ y, Option.getD (pget m y) false = decide (y ∈ (prs h.stream).take i)) (by omega) (fun i m hi hm _ => by
  have hil : i < (prs h.stream).length := by rw [Ymh]; exact hi
  have etk : (prs h.stream).take (i + 1) = (prs h.stream).take i ++ [(h.stream[i].room, h.stream[i].id)] := by rw [List.take_add_one, List.getElem?_eq_getElem hil, Ymg hi]; rfl
  refine ⟨?_, fun _ y => ?_⟩
  rotate_left
  ·
   rw [Y8b, etk]
   by_cases hy : y = (h.stream[i].room, h.stream[i].id)
   ·
    rw [if_pos hy, Option.getD_some]; simp [hy]
   ·
    rw [if_neg hy, hm]; simp [hy]
  have hw := Ye2 hi (by omega : h.stream.length < 9223372036854775807)
  have hb : stB h i = stX h i h.stream[i] := by unfold stB; rw [dif_pos hi]
  rw [hb]
  simp only [Zff]
  rw [dlt hi, cond_true, Ye1 hi, Option.bind_some, Ye9, Option.bind_some]
  generalize h.stream[i] = x
  unfold stX
  by_cases hx : 1 ≤ x.room ∧ x.room ≤ 3
  rotate_left
  ·
   rw [decide_eq_false hx]; rfl
  rw [decide_eq_true hx, cond_true, hm, Bool.true_and]
  simp only [Zfe]
  cases decide ((x.room, x.id) ∈ (prs h.stream).take i) with
  | true => rfl
  | false =>
   rw [cond_false, Bool.not_false, Bool.true_and]
   obtain ⟨k, hk, k1, k2, k3⟩ := Ymo h3 hx
   have hg := hro.right _ (List.getElem_mem hk)
   have hfl := hg.fits.len
   have hgr : (hiG h.rooms[k]).graph = h.rooms[k] := (Ylv hg).2.2.graph
   have e1 : Zf0 (Y97.mk h (h.rooms.map hiG)) x.room = some (hiG h.rooms[k]) := by
    unfold Zf0
    rw [k2]
    show (getI (h.rooms.map hiG) (k : Int)).bind _ = _
    rw [Yld hiG hk]; rfl
   rw [e1, Option.bind_some, hgr, c_at _ _ hg.fits.up (by omega), Option.bind_some, k3]
   simp only [Zfd]
   cases hh : hasE h.rooms[k].events x.id with
   | false => rfl
   | true =>
    rw [cond_true, Bool.true_and, bned]
    show cond (!okB h.rooms[k] x.id) _ _ = _
    cases okB h.rooms[k] x.id with
    | false => rfl
    | true =>
     rw [Bool.not_true, cond_false, Bool.true_and]
     have hev : Option.getD (evAt h.rooms[k].events x.id) zEv = evD h.rooms[k].events x.id := rfl
     have hpl := (hg.walk.prev (Yji.1 hh)).1
     rw [hev, Ymq hg hm _ (by omega), Option.bind_some]
     simp only [Zfc, hw]
     cases (evD h.rooms[k].events x.id).prev.all fun p => !okB h.rooms[k] p || decide ((x.room, p) ∈ (prs h.stream).take i) <;> rfl)
  (fun q _ => by simp only [Zff]; rw [dnlt, cond_false]) (s := []) (fun y => by simp [pget])
 rcases this with ⟨a1, a2, _⟩ | ⟨a1, a2⟩
 ·
  exact .inl ⟨a1, a2⟩
 ·
  exact .inr ⟨a1, a2⟩

theorem Yms {h : Y91} (hf : Ymb h) : ∃ b : Bool, (b = true ↔ OkI h) ∧ Zfk h = some (cond b (sOf h, true) (zS, false)) := by
 have hrl := hf.rl
 have hsl := hf.sl
 unfold Zfk
 by_cases h3 : (h.rooms.length : Int) = 3
 rotate_left
 ·
  refine ⟨false, ⟨fun x => (by cases x), fun x => absurd x.1 (by omega)⟩, ?_⟩
  rw [bned, decide_eq_false h3]; rfl
 by_cases hl : (h.stream.length : Int) > 120
 ·
  refine ⟨false, ⟨fun x => (by cases x), fun x => absurd x.2.1 (by omega)⟩, ?_⟩
  rw [bned, decide_eq_true h3, decide_eq_true hl]; rfl
 rw [bned, decide_eq_true h3, decide_eq_false hl]
 simp only [Bool.not_true, cond_false, Zfj]
 have hl' : h.stream.length ≤ 120 := by omega
 have h3' : h.rooms.length = 3 := by omega
 have := Ylk (l := h.rooms) (step := fun z : List Y96 × Int × Int => Zfi h z.1 z.2.1 z.2.2) (fun (q : List Y96 × Int) j => (q.1, q.2, j)) (fun q => Sum.inr q) (Sum.inl (zS, false)) (rB h.rooms) (fun q g => (q.1 ++ [hiG g], q.2 + (Ymk g : Int))) (fun i q => q.1.length = i ∧ 0 ≤ q.2 ∧ q.2 ≤ 60 * i) (by omega) (fun k q hk ⟨q1, q2, q3⟩ hp => by
  obtain ⟨_, b2, b3⟩ := Ymc (hf.fine _ (List.getElem_mem hk))
  have hw := Ye2 hk (by omega : h.rooms.length < 9223372036854775807)
  have hb := Ymd hk
  refine ⟨?_, fun ht => ?_⟩
  rotate_left
  ·
   rw [hb, Bool.and_eq_true] at ht
   have := Ymn (b3.1 ht.1).right
   simp only [List.length_append, List.length_singleton]; omega
  simp only [Zfi]
  rw [dlt hk, cond_true, Ye1 hk, Option.bind_some, b2, Option.bind_some, hb, hw, bned]
  cases hgB : gB h.rooms[k] with
  | false => rfl
  | true =>
   have hg := (b3.1 hgB).right
   obtain ⟨n1, _, n3⟩ := Ylv hg
   have hle := Ymn hg
   have hac : Zey (hiG h.rooms[k]) = some (accT h.rooms[k].events (okB h.rooms[k])) := by
    have := Yl1 (h := hiG h.rooms[k]) (by rw [n3.graph]; exact hg)
    rw [n3.graph] at this; exact this
   have hgt : getI (q.1 ++ [hiG h.rooms[k]]) (k : Int) = some (hiG h.rooms[k]) := Yfx (X := q.1) (Y := []) rfl q1.symm
   simp only [cond_true, Bool.true_and, Zfh]
   by_cases hc : h.rooms[k].room = (k : Int) + 1
   ·
    rw [decide_eq_true hc, decide_eq_true (by omega), Bool.not_true, cond_false, n1, Option.bind_some, Y4j (decide_eq_true (by simp; omega)), Option.bind_some, hgt, Option.bind_some, hac, Option.bind_some, hw, Y4i (n := q.2 + ((accT h.rooms[k].events (okB h.rooms[k])).length : Int)) (by unfold Ymk at hle; omega) (by unfold Ymk at hle; omega)]
    rfl
   ·
    rw [decide_eq_false hc, decide_eq_false (by omega)]; rfl)
  (fun q _ => by simp only [Zfi]; rw [dnlt, cond_false]) (s := ([], 0)) ⟨rfl, by omega, by omega⟩
 rcases this with ⟨a1, a2, _⟩ | ⟨⟨i, hi, a1⟩, a2⟩
 rotate_left
 ·
  refine ⟨false, ⟨fun x => (by cases x), fun x => ?_⟩, ?_⟩
  ·
   have := (Ymf hf).2 x.2.2.1 i hi
   rw [a1] at this; cases this
  ·
   have a2' : iter (fun z : List Y96 × Int × Int => Zfi h z.1 z.2.1 z.2.2) big ([], 0, 0) = some (Sum.inl (zS, false)) := a2
   rw [a2']; rfl
 have hro := (Ymf hf).1 a1
 rw [Ymm] at a2
 have a2' : iter (fun z : List Y96 × Int × Int => Zfi h z.1 z.2.1 z.2.2) big ([], 0, 0) = some (Sum.inr (h.rooms.map hiG, 0 + (Yml h.rooms : Int))) := a2
 rw [a2', Option.bind_some]
 simp only [Zfg]
 rcases Ymr hro h3' hl' with ⟨s1, s2⟩ | ⟨⟨i, hi, s1⟩, s2⟩
 ·
  rw [s2, Option.bind_some]
  simp only [Zfb]
  rw [beqd]
  refine ⟨decide (0 + (Yml h.rooms : Int) = (h.stream.length : Int)), ?_, ?_⟩
  ·
   rw [decide_eq_true_eq]
   exact ⟨fun k => ⟨h3', hl', hro, s1, by omega⟩, fun k => by have := k.2.2.2.2; omega⟩
  ·
   cases decide (0 + (Yml h.rooms : Int) = (h.stream.length : Int)) <;> rfl
 ·
  rw [s2, Option.bind_some]
  exact ⟨false, ⟨fun x => (by cases x), fun x => by have := x.2.2.2.1 i hi; rw [s1] at this; cases this⟩, rfl⟩
end Go.Proofs.YtbgichfjcnibpaaGreat
namespace Go.Proofs.YtbgichfjcnibpaaGreat
open Go Go.Abs

def accG (g : Y90) : List Pr := (accT g.events (okB g)).map fun id => (g.room, id)
def accA (l : List Y90) : List Pr := l.flatMap accG
theorem Ymt : ∀ l : List Y90, (accA l).length = Yml l
 | [] => rfl
 | g :: l => by
  unfold accA Yml
  rw [List.flatMap_cons, List.length_append, List.map_cons, List.sum_cons]
  show (accG g).length + (accA l).length = _
  rw [Ymt l]
  unfold accG Ymk
  rw [List.length_map]; rfl
theorem Ymu {g : Y90} {y : Pr} : y ∈ accG g ↔ y.1 = g.room ∧ hasE g.events y.2 = true ∧ okB g y.2 = true := by
 unfold accG accT
 rw [List.mem_map]
 constructor
 ·
  rintro ⟨id, h, rfl⟩
  obtain ⟨h1, h2⟩ := List.mem_filter.1 h
  exact ⟨rfl, Yji.2 h1, h2⟩
 ·
  rintro ⟨h1, h2, h3⟩
  exact ⟨y.2, List.mem_filter.2 ⟨Yji.1 h2, h3⟩, Prod.ext h1.symm rfl⟩
theorem Yme.inj {h : Y91} (k : Yme h) {g g' : Y90} (hg : g ∈ h.rooms) (hg' : g' ∈ h.rooms) (e : g.room = g'.room) : g = g' := by
 obtain ⟨i, hi, rfl⟩ := List.mem_iff_getElem.1 hg
 obtain ⟨j, hj, rfl⟩ := List.mem_iff_getElem.1 hg'
 rw [(k i hi).2, (k j hj).2] at e
 obtain rfl : i = j := by omega
 rfl
theorem Ymv {h : Y91} (k : Yme h) : (accA h.rooms).Nodup := by
 unfold accA
 rw [List.nodup_iff_pairwise_ne, List.pairwise_flatMap]
 constructor
 ·
  intro g hg
  unfold accG
  rw [List.pairwise_map]
  exact (Yl5 (k.right g hg).fits _).imp fun {a b} h e => by have := (Prod.mk.inj e).2; omega
 ·
  rw [List.pairwise_iff_getElem]
  intro i j hi hj hij x hx y hy e
  have h1 := (Ymu.1 hx).1
  have h2 := (Ymu.1 hy).1
  rw [(k i hi).2] at h1
  rw [(k j hj).2] at h2
  rw [e] at h1
  omega
theorem Ymw {h : Y91} (k : Yme h) {g : Y90} (hg : g ∈ h.rooms) {id : Int} : (g.room, id) ∈ accA h.rooms ↔ hasE g.events id = true ∧ okB g id = true := by
 unfold accA
 rw [List.mem_flatMap]
 constructor
 ·
  rintro ⟨g', h1, h2⟩
  obtain ⟨h3, h4⟩ := Ymu.1 h2
  obtain rfl := k.inj hg h1 h3
  exact h4
 ·
  exact fun h' => ⟨g, hg, Ymu.2 ⟨rfl, h'⟩⟩

theorem Ymx {s : List Pr} {g : Y90} (h : ∀ e ∈ g.events, okB g e.id = inS s g e) : Ylz s g = Ymk g := by
 unfold Ylz Ymk accT
 rw [List.filter_map, List.length_map]
 exact congrArg List.length (List.filter_congr fun e he => (h e he).symm)
theorem Ymy {s : List Pr} : ∀ {l : List Y90}, (∀ g ∈ l, ∀ e ∈ g.events, okB g e.id = inS s g e) → Ym0 s l = Yml l
 | [], _ => rfl
 | g :: l, h => by
  unfold Ym0 Yml
  rw [List.map_cons, List.map_cons, List.sum_cons, List.sum_cons, Ymx (h g (by simp))]
  have := Ymy (s := s) (l := l) fun g' hg' => h g' (by simp [hg'])
  unfold Ym0 Yml at this
  rw [this]

structure Ymz (h : Y91) : Prop where
 three : h.rooms.length = 3
 slen : h.stream.length ≤ 120
 rooms : Yme h
 nodup : (prs h.stream).Nodup
 all : ∀ y, y ∈ prs h.stream ↔ y ∈ accA h.rooms

theorem OkI.hub {h : Y91} (k : OkI h) : Ymz h := by
 obtain ⟨h3, hl, hro, hst, hle⟩ := k
 have hX : ∀ (i : Nat) (hi : i < h.stream.length), stX h i h.stream[i] = true := fun i hi => by
  have := hst i hi
  unfold stB at this
  rwa [dif_pos hi] at this
 have hnd : (prs h.stream).Nodup := Ylr.2 fun i hi => by
  have hi' : i < h.stream.length := by rw [Ymh] at hi; exact hi
  have := hX i hi'
  unfold stX at this
  simp only [Bool.and_eq_true] at this
  rw [Ymg hi']
  simpa using this.1.1.1.2
 have hsub : ∀ y ∈ prs h.stream, y ∈ accA h.rooms := fun y hy => by
  obtain ⟨i, hi, rfl⟩ := List.mem_iff_getElem.1 hy
  have hi' : i < h.stream.length := by rw [Ymh] at hi; exact hi
  have := hX i hi'
  unfold stX at this
  simp only [Bool.and_eq_true, decide_eq_true_eq] at this
  obtain ⟨k, hk, k1, _, k3⟩ := Ymo h3 this.1.1.1.1
  rw [Ymg hi']
  rw [k3] at this
  have hr : h.stream[i].room = h.rooms[k].room := by rw [(hro k hk).2]; exact k1
  rw [hr]
  exact (Ymw hro (List.getElem_mem hk)).2 ⟨this.1.1.2, this.1.2⟩
 refine ⟨h3, hl, hro, hnd, fun y => ⟨hsub y, Ylt hnd hsub (by rw [Ymt, Ymh]; omega) y⟩⟩

theorem Ymz.inS {h : Y91} (k : Ymz h) {g : Y90} (hg : g ∈ h.rooms) {e : Y8w} (he : e ∈ g.events) : okB g e.id = inS (prs h.stream) g e := by
 unfold Go.Proofs.YtbgichfjcnibpaaGreat.inS
 rw [Bool.eq_iff_iff, decide_eq_true_eq, Ylm, k.all, Ymw k.rooms hg]
 exact ⟨fun h' => ⟨Yf4.2 ⟨e, he, rfl⟩, h'⟩, fun h' => h'.2⟩

theorem Yn0 {h : Y91} : OkI h ↔ OkS h := by
 constructor
 ·
  intro k
  have hu := k.hub
  obtain ⟨h3, hl, hro, hst, hle⟩ := k
  refine ⟨h3, hl, hro, hu.nodup, fun g hg e he => ?_, by rw [Ymy fun g hg e he => hu.inS hg he]; exact hle⟩
  unfold strE
  rw [hu.inS hg he]
  cases hin : inS (prs h.stream) g e with
  | false => rfl
  | true =>
   simp only [beq_self_eq_true, Bool.not_true, Bool.false_or, Bool.true_and, List.all_eq_true, decide_eq_true_eq]
   intro p hp
   have hin' : 0 < posP (prs h.stream) (g.room, e.id) := by simpa [inS] using hin
   have hy := Ylm.1 hin'
   obtain ⟨i, hi, hiy⟩ := List.mem_iff_getElem.1 hy
   have hi' : i < h.stream.length := by rw [Ymh] at hi; exact hi
   have hpi : posP (prs h.stream) (g.room, e.id) = (i : Int) + 1 := by
    unfold posP; rw [if_pos hy, ← hiy, Ylq hu.nodup hi]
   have hx := hst i hi'
   unfold stB at hx
   rw [dif_pos hi'] at hx
   unfold stX at hx
   simp only [Bool.and_eq_true, decide_eq_true_eq] at hx
   rw [Ymg hi'] at hiy
   obtain ⟨e1, e2⟩ := Prod.mk.inj hiy
   obtain ⟨k, hk, k1, _, k3⟩ := Ymo h3 hx.1.1.1.1
   have hgk : h.rooms[k] = g := hro.inj (List.getElem_mem hk) hg (by rw [(hro k hk).2, ← k1, e1])
   rw [k3, hgk, e1, e2] at hx
   have hev : evD g.events e.id = e := by unfold evD; rw [(hro.right g hg).fits.up.evAt_mem he]; rfl
   rw [hev] at hx
   have hpp := List.all_eq_true.1 hx.2 p hp
   simp only [Bool.or_eq_true, Bool.not_eq_true', decide_eq_true_eq] at hpp
   rcases hpp with hpp | hpp
   ·
    have : (g.room, p) ∉ prs h.stream := fun hm => by
     have := ((Ymw hro hg).1 ((hu.all _).1 hm)).2
     rw [hpp] at this; cases this
    have h0 : posP (prs h.stream) (g.room, p) = 0 := by unfold posP; rw [if_neg this]
    omega
   ·
    have := ((Ylo (by omega)).1 hpp).2
    omega
 ·
  rintro ⟨h3, hl, hro, hnd, hst, hma⟩
  have hok : ∀ g ∈ h.rooms, ∀ e ∈ g.events, okB g e.id = inS (prs h.stream) g e := fun g hg e he => by
   have := hst g hg e he
   unfold strE at this
   rw [Bool.and_eq_true] at this
   simpa using this.1
  have hle : Yml h.rooms = h.stream.length := by rw [← Ymy hok]; exact hma
  have hsub : ∀ y ∈ accA h.rooms, y ∈ prs h.stream := fun y hy => by
   unfold accA at hy
   obtain ⟨g, hg, hy⟩ := List.mem_flatMap.1 hy
   obtain ⟨h1, h2, h4⟩ := Ymu.1 hy
   obtain ⟨e, he, h5⟩ := Yf4.1 h2
   have := hok g hg e he
   rw [h5, h4] at this
   have h6 : 0 < posP (prs h.stream) (g.room, e.id) := by simpa [inS] using this.symm
   have := Ylm.1 h6
   rw [h5, ← h1] at this
   exact this
  have hall := Ylt (Ymv hro) hsub (by rw [Ymt, Ymh]; omega)
  refine ⟨h3, hl, hro, fun i hi => ?_, hle⟩
  have hil : i < (prs h.stream).length := by rw [Ymh]; exact hi
  have hmem : (h.stream[i].room, h.stream[i].id) ∈ prs h.stream := by rw [← Ymg hi hil]; exact List.getElem_mem _
  have hacc := hall _ hmem
  unfold accA at hacc
  obtain ⟨g, hg, hy⟩ := List.mem_flatMap.1 hacc
  obtain ⟨h1, h2, h4⟩ := Ymu.1 hy
  simp only at h1 h2 h4
  obtain ⟨k, hk, hkg⟩ := List.mem_iff_getElem.1 hg
  have hroom : g.room = (k : Int) + 1 := by rw [← hkg]; exact (hro k hk).2
  have hx : 1 ≤ h.stream[i].room ∧ h.stream[i].room ≤ 3 := by omega
  obtain ⟨k', hk', k1, _, k3⟩ := Ymo h3 hx
  obtain rfl : k' = k := by omega
  rw [hkg] at k3
  have hnt := Ylr.1 hnd i hil
  rw [Ymg hi] at hnt
  unfold stB
  rw [dif_pos hi]
  unfold stX
  rw [k3, h2, h4, decide_eq_true hx, decide_eq_false hnt]
  simp only [Bool.not_false, Bool.true_and, List.all_eq_true, Bool.or_eq_true, Bool.not_eq_true', decide_eq_true_eq]
  intro p hp
  cases hop : okB g p with
  | false => exact .inl rfl
  | true =>
   right
   have hr := hro.right g hg
   obtain ⟨_, e2, e3⟩ := Yj8 (Yji.1 h2) hr.fits.up
   have hse := hst g hg _ e2
   unfold strE at hse
   rw [Bool.and_eq_true] at hse
   have hine : inS (prs h.stream) g (evD g.events h.stream[i].id) = true := by rw [← hok g hg _ e2, e3]; exact h4
   rw [hine] at hse
   simp only [Bool.not_true, Bool.false_or, List.all_eq_true, decide_eq_true_eq] at hse
   have hlt := hse.2 p hp
   rw [e3, ← h1] at hlt
   have hpi : posP (prs h.stream) (h.stream[i].room, h.stream[i].id) = (i : Int) + 1 := by
    unfold posP; rw [if_pos hmem]
    have := Ylq hnd hil
    rw [Ymg hi] at this
    rw [this]
   obtain ⟨ep, hep, hepi⟩ := Yf4.1 (hr.fits.whole _ e2 p hp)
   have hinp := hok g hg ep hep
   rw [hepi, hop] at hinp
   have h7 : 0 < posP (prs h.stream) (g.room, ep.id) := by simpa [inS] using hinp.symm
   rw [hepi, ← h1] at h7
   exact (Ylo (by omega)).2 ⟨h7, by omega⟩

theorem Yn1 {h : Y91} (hf : Ymb h) : ∃ b : Bool, (b = true → Ymz h) ∧ Z73 h = some (cond b (wOf h, true) (zW, false)) ∧ Zfk h = some (cond b (sOf h, true) (zS, false)) := by
 obtain ⟨b, b1, b2⟩ := Ymj hf
 obtain ⟨c, c1, c2⟩ := Yms hf
 have : b = c := by rw [Bool.eq_iff_iff, b1, c1]; exact Yn0.symm
 subst this
 exact ⟨b, fun x => (c1.1 x).hub, b2, c2⟩
end Go.Proofs.YtbgichfjcnibpaaGreat
namespace Go.Proofs.YtbgichfjcnibpaaGreat
open Go Go.Abs


def wtG {α : Type} (n : α → Nat) (l : List α) : Nat := (l.map n).sum
theorem Yn2 {α : Type} (n : α → Nat) {l : List α} {i : Nat} (hi : i < l.length) : wtG n (l.take (i + 1)) = wtG n (l.take i) + n l[i] := by
 rw [List.take_add_one, List.getElem?_eq_getElem hi]
 show ((List.take i l ++ [l[i]]).map n).sum = ((List.take i l).map n).sum + n l[i]
 rw [List.map_append, List.sum_append]
 simp only [List.map_cons, List.map_nil, List.sum_cons, List.sum_nil, Nat.add_zero]
def nG (g : Y8x) : Nat := g.events.length + g.parked.length
def nG' (g : Y90) : Nat := g.events.length + g.parked.length

structure HIn (h : THub) : Prop where
 rl : h.rooms.length ≤ maxLen
 rg : ∀ g ∈ h.rooms, GIn g
 sl : h.stream.length ≤ maxLen
structure Yn3 (h : THub) : Prop where
 rl : h.rooms.length ≤ 1048576
 rg : ∀ g ∈ h.rooms, Yke g.events ∧ Yke g.parked
 wt : wtG nG h.rooms ≤ 1048576
 sl : h.stream.length ≤ 1048576

theorem Yn4 (p : List Y8x) (n : Int) (hl : p.length ≤ maxLen) (hp : ∀ g ∈ p, GIn g) (h0 : 0 ≤ n) (hn : n ≤ 1048576) : ∃ r, Zd p n = some r ∧ ((0 ≤ r ∧ r + (p.length + wtG nG p : Nat) ≤ n ∧ ∀ g ∈ p, Yke g.events ∧ Yke g.parked) ∨ r = -1) := by
 simp only [maxLen] at hl
 unfold Zd
 rw [Y4i (by omega) (by omega)]
 by_cases h : n - (p.length : Int) < 0
 ·
  rw [decide_eq_true h]; exact ⟨_, rfl, .inr rfl⟩
 ·
  rw [decide_eq_false h, cond_false]
  obtain ⟨o, h1, h2⟩ := Ye0 (τ := Int × Int) (ω := Int ⊕ Int) (σ := Int) (step := fun z : Int × Int => Zc p z.1 z.2) (n := p.length) (fun s j => (s, j))
   (fun i s => 0 ≤ s ∧ s + (p.length + wtG nG (p.take i) : Nat) ≤ n ∧ ∀ (j : Nat) (hj : j < p.length), j < i → Yke p[j].events ∧ Yke p[j].parked) (fun o => o = .inl (-1) ∨ ∃ r, o = .inr r ∧ 0 ≤ r ∧ r + (p.length + wtG nG p : Nat) ≤ n ∧ ∀ g ∈ p, Yke g.events ∧ Yke g.parked) (by omega) (by
   rintro i s hi ⟨hs0, hsn, hI⟩
   obtain ⟨r, e1, e2⟩ := Ykg p[i] s (hp _ (List.getElem_mem hi)) hs0 (by omega)
   simp only [Zc]
   rw [dlt hi, cond_true, Ye1 hi, Option.bind_some, e1, Option.bind_some, Ye2 hi (by omega)]
   rcases e2 with ⟨e2, e3, e4⟩ | rfl
   ·
    rw [decide_eq_false (by omega), cond_false]
    refine .inl ⟨r, rfl, e2, by have hng : nG p[i] = p[i].events.length + p[i].parked.length := rfl; rw [Yn2 nG hi]; omega, fun j hj hji => ?_⟩
    rcases Nat.lt_or_ge j i with h | h
    ·
     exact hI j hj h
    ·
     obtain rfl : j = i := by omega
     exact e4
   ·
    exact .inr ⟨_, rfl, .inl rfl⟩) (by
   rintro s ⟨hs0, hsn, hI⟩
   simp only [Zc]
   rw [dnlt, cond_false]
   rw [List.take_length] at hsn
   refine ⟨_, rfl, .inr ⟨s, rfl, hs0, hsn, fun e he => ?_⟩⟩
   obtain ⟨j, hj, rfl⟩ := List.mem_iff_getElem.1 he
   exact hI j hj hj) (s := n - (p.length : Int)) ⟨by omega, by simp [wtG], fun j hj h => by omega⟩
  rw [h1, Option.bind_some]
  rcases h2 with rfl | ⟨r, rfl, h3⟩
  ·
   exact ⟨_, rfl, .inr rfl⟩
  ·
   exact ⟨_, rfl, .inl h3⟩

theorem Yn5 (h : THub) (n : Int) (hh : HIn h) (h0 : 0 ≤ n) (hn : n ≤ 1048576) : ∃ r, Zh h n = some r ∧ ((0 ≤ r ∧ r ≤ n ∧ Yn3 h) ∨ r = -1) := by
 have hsl := hh.sl
 simp only [maxLen] at hsl
 unfold Zh
 obtain ⟨r, h1, h2⟩ := Yn4 h.rooms n hh.rl hh.rg h0 hn
 rw [h1, Option.bind_some]
 rcases h2 with ⟨h2, h3, h4⟩ | rfl
 ·
  rw [decide_eq_false (by omega), cond_false]
  unfold Zf
  rw [Y4i (by omega) (by omega)]
  by_cases h5 : r - (h.stream.length : Int) < 0
  ·
   rw [decide_eq_true h5]; exact ⟨_, rfl, .inr rfl⟩
  ·
   rw [decide_eq_false h5, cond_false, Option.bind_some, decide_eq_false h5]
   exact ⟨_, rfl, .inl ⟨by omega, by omega, by omega, h4, by omega, by omega⟩⟩
 ·
  exact ⟨_, rfl, .inr rfl⟩


def toH (h : THub) : Y91 := ⟨h.rooms.map toG, h.stream⟩
theorem Yn6 (p : List Y8x) (hl : p.length ≤ 1048576) (hp : ∀ g ∈ p, Yke g.events ∧ Yke g.parked) : Zz p = some (p.map toG) := by
 unfold Zz
 rw [Y4j (decide_eq_true ⟨by omega, by omega⟩), Option.bind_some, Int.toNat_natCast]
 rw [Ykh (xs := p) toG (by omega) (fun i s hi hs => by
  have := hp _ (List.getElem_mem hi)
  simp only [Zy]
  rw [dlt hi, cond_true, Ye1 hi, Option.bind_some, Ykl _ this.1 this.2, Option.bind_some, Ye1 (by omega : i < s.length), Option.bind_some, Ye2 hi (by omega), Int.toNat_natCast]) (fun s => by simp only [Zy]; rw [dnlt, cond_false])]
 rfl
theorem Yn7 (p : List Y8y) (hl : p.length ≤ 1048576) : Z15 p = some p := by
 unfold Z15
 rw [Y4j (decide_eq_true ⟨by omega, by omega⟩), Option.bind_some, Int.toNat_natCast]
 rw [Ykh (xs := p) (fun x => x) (by omega) (fun i s hi hs => by
  simp only [Z14]
  rw [dlt hi, cond_true, Ye1 hi, Option.bind_some]
  unfold Z11
  rw [Option.bind_some, Ye1 (by omega : i < s.length), Option.bind_some, Ye2 hi (by omega), Int.toNat_natCast]) (fun s => by simp only [Z14]; rw [dnlt, cond_false])]
 simp [Z13]
theorem Yn8 (h : THub) (hs : Yn3 h) : Z17 h = some (toH h) := by
 unfold Z17
 rw [Yn6 _ hs.rl hs.rg, Option.bind_some, Yn7 _ hs.sl]; rfl


theorem Yn9 (p : List Y90) (hl : p.length ≤ 1048576) (hp : ∀ g ∈ p, Yke g.events ∧ Yke g.parked) : Zib p p = some true := by
 unfold Zib
 rw [bned, decide_eq_true rfl]
 simp only [Bool.not_true, cond_false]
 rw [Yeh (l := p) (fun _ => true) (.inl false) (.inr ()) (by omega) (fun i hi => by
  have := hp _ (List.getElem_mem hi)
  simp only [Zia]
  rw [dlt hi, cond_true, Ye1 hi, Option.bind_some, Option.bind_some, Ykq _ this.1 this.2, Option.bind_some, Ye2 hi (by omega)]; rfl) (by simp only [Zia]; rw [dnlt, cond_false])]
 rw [show (p.all fun _ => true) = true by simp]; rfl
theorem Yna (p : List Y8y) (hl : p.length ≤ 1048576) : Zih p p = some true := by
 unfold Zih
 rw [bned, decide_eq_true rfl]
 simp only [Bool.not_true, cond_false]
 rw [Yeh (l := p) (fun _ => true) (.inl false) (.inr ()) (by omega) (fun i hi => by
  simp only [Zig]
  rw [dlt hi, cond_true, Ye1 hi, Option.bind_some, Option.bind_some, show Zid p[i] p[i] = some true by simp [Zid], Option.bind_some, Ye2 hi (by omega)]; rfl) (by simp only [Zig]; rw [dnlt, cond_false])]
 rw [show (p.all fun _ => true) = true by simp]; rfl
theorem Ynb {h : THub} (hs : Yn3 h) : ∀ g ∈ (toH h).rooms, Yke g.events ∧ Yke g.parked := fun g hg => by
 obtain ⟨g0, h1, rfl⟩ := List.mem_map.1 hg
 exact hs.rg g0 h1
theorem Ync {h : THub} (hs : Yn3 h) : Zij (toH h) (toH h) = some true := by
 unfold Zij
 rw [Yn9 _ (by show (h.rooms.map toG).length ≤ _; rw [List.length_map]; exact hs.rl) (Ynb hs), Option.bind_some, cond_true]
 show (Zih h.stream h.stream).bind _ = _
 rw [Yna _ hs.sl]; rfl
theorem w1 (x : Int) (h0 : 0 ≤ x) (h1 : x ≤ 1000000000000000) : IntKind.i64.wrap (x + 1) = x + 1 := Y4i (by omega) (by omega)

theorem Ynd (p : List Y90) (n : Int) (hl : p.length ≤ 1048576) (hp : ∀ g ∈ p, Yke g.events ∧ Yke g.parked) (hw : wtG nG' p ≤ 1048576) (h0 : 0 ≤ n) (hn : n ≤ 1000000) : ∃ r, Ziz p n = some r ∧ 0 ≤ r.1 ∧ r.1 ≤ 10000000000000 := by
 unfold Ziz
 obtain ⟨o, e1, e2⟩ := Ydz (τ := List Y90 × Int × Int) (ω := Int × List Y90) (σ := List Y90 × Int) (step := fun z : List Y90 × Int × Int => Ziy z.1 z.2.1 z.2.2) (n := p.length) (fun s j => (s.1, s.2, j)) (fun i s => s.1.length = p.length ∧ s.1.drop i = p.drop i ∧ 0 ≤ s.2 ∧ s.2 ≤ n + i + (wtG nG' (p.take i) : Int) * 2000000) (fun o => 0 ≤ o.1 ∧ o.1 ≤ 10000000000000) (by omega) (by
  rintro i ⟨l, k⟩ hi ⟨hll, hd, hk0, hk⟩
  simp only at hll hd hk0 hk
  have hil : i < l.length := by omega
  have hli : l[i] = p[i] := by
   have := congrArg (fun x : List Y90 => x[0]?) hd
   simpa [List.getElem?_drop, hil, hi] using this
  have hwt := Yn2 nG' hi
  have hle : wtG nG' (p.take (i + 1)) ≤ wtG nG' p := by
   have e := List.take_append_drop (i + 1) p
   have : wtG nG' p = wtG nG' (p.take (i + 1)) + wtG nG' (p.drop (i + 1)) := by
    conv => lhs; rw [← e]
    unfold wtG; rw [List.map_append, List.sum_append]
   omega
  have hsm := hp _ (List.getElem_mem hi)
  obtain ⟨r, a1, a2, a3⟩ := Ykz p[i].events (k + 1) hsm.1 (by omega) (by omega)
  have hng : nG' p[i] = p[i].events.length + p[i].parked.length := rfl
  obtain ⟨r', b1, b2, b3⟩ := Ykz p[i].parked r.1 hsm.2 a2 (by omega)
  simp only [Ziy]
  rw [decide_eq_true (by omega : (i : Int) < (l.length : Int)), cond_true, Ye1 hil, Option.bind_some, w1 k hk0 (by omega)]
  simp only [Int.toNat_natCast, Yky, List.length_set, hil, Option.bind_some, hli, a1, b1, Ye2 hi (by omega : p.length < 9223372036854775807)]
  refine ⟨(_, _), rfl, by simp [hll], ?_, b2, by show r'.1 ≤ n + ((i + 1 : Nat) : Int) + (wtG nG' (p.take (i + 1)) : Int) * 2000000; omega⟩
  simp only
  rw [List.drop_set_of_lt (by omega), List.drop_set_of_lt (by omega), List.drop_set_of_lt (by omega)]
  have := congrArg (List.drop 1) hd
  rwa [List.drop_drop, List.drop_drop] at this) (by
  rintro ⟨l, k⟩ ⟨hll, _, hk0, hk⟩
  simp only at hll hk0 hk
  simp only [Ziy]
  rw [hll, dnlt, cond_false]
  rw [List.take_length] at hk
  exact ⟨_, rfl, hk0, by simp only; omega⟩) (s := (p, n)) ⟨rfl, rfl, h0, by simp [wtG]⟩
 rw [e1, Option.bind_some]
 exact ⟨_, rfl, e2⟩

theorem Yne (p : List Y8y) (n : Int) (hl : p.length ≤ 1048576) (h0 : 0 ≤ n) (hn : n ≤ 10000000000000) : ∃ r, Zj3 p n = some r ∧ 0 ≤ r.1 ∧ r.1 ≤ n + 2 * p.length := by
 unfold Zj3
 obtain ⟨o, e1, e2⟩ := Ydz (τ := List Y8y × Int × Int) (ω := Int × List Y8y) (σ := List Y8y × Int) (step := fun z : List Y8y × Int × Int => Zj2 z.1 z.2.1 z.2.2) (n := p.length) (fun s j => (s.1, s.2, j)) (fun i s => s.1.length = p.length ∧ 0 ≤ s.2 ∧ s.2 ≤ n + 2 * i) (fun o => 0 ≤ o.1 ∧ o.1 ≤ n + 2 * p.length) (by omega) (by
  rintro i ⟨l, k⟩ hi ⟨hll, hk0, hk⟩
  simp only at hll hk0 hk
  have hil : i < l.length := by omega
  simp only [Zj2]
  rw [decide_eq_true (by omega : (i : Int) < (l.length : Int)), cond_true, Ye1 hil, Option.bind_some, w1 k hk0 (by omega), w1 (k + 1) (by omega) (by omega)]
  simp only [Int.toNat_natCast, Yky, hil, Option.bind_some, Ye2 hi (by omega : p.length < 9223372036854775807)]
  exact ⟨(_, _), rfl, by simp [hll], by simp only; omega, by simp only; omega⟩) (by
  rintro ⟨l, k⟩ ⟨hll, hk0, hk⟩
  simp only at hll hk0 hk
  simp only [Zj2]
  rw [hll, dnlt, cond_false]
  exact ⟨_, rfl, hk0, hk⟩) (s := (p, n)) ⟨rfl, h0, by simp⟩
 rw [e1, Option.bind_some]
 exact ⟨_, rfl, e2⟩

theorem Ynf {h : THub} (hs : Yn3 h) (n : Int) (h0 : 0 ≤ n) (hn : n ≤ 1000000) : ∃ r, Zj5 (toH h) n = some r ∧ 0 ≤ r.1 ∧ r.1 ≤ 10000002097152 := by
 have hwt : wtG nG' (toH h).rooms = wtG nG h.rooms := by
  show wtG nG' (h.rooms.map toG) = _
  unfold wtG
  rw [List.map_map]; rfl
 have hsl := hs.sl
 obtain ⟨r, a1, a2, a3⟩ := Ynd (toH h).rooms n (by show (h.rooms.map toG).length ≤ _; rw [List.length_map]; exact hs.rl) (Ynb hs) (by rw [hwt]; exact hs.wt) h0 hn
 obtain ⟨r', b1, b2, b3⟩ := Yne h.stream r.1 hs.sl a2 a3
 unfold Zj5
 rw [a1, Option.bind_some]
 show ∃ x, (Zj3 h.stream r.1).bind _ = some x ∧ _
 rw [b1]
 exact ⟨_, rfl, b2, by simp only; omega⟩

end Go.Proofs.YtbgichfjcnibpaaGreat
namespace Go.Proofs.YtbgichfjcnibpaaGreat
open Go Go.Abs

structure Yng (h : Y91) (r : Int) (k : Nat) : Prop where
 lt : k < h.rooms.length
 wrap : IntKind.i64.wrap (r - 1) = (k : Int)
 rm : ∀ hk : k < h.rooms.length, rmG h r = h.rooms[k]
 mem : rmG h r ∈ h.rooms
 room : (rmG h r).room = r
 right : Yk6 (rmG h r)
 hist : getI (sOf h).rooms (k : Int) = some (hiG (rmG h r))
 gr : getI (wOf h).h.rooms (k : Int) = some (rmG h r)
 kn : getI (wOf h).rooms (k : Int) = some (knG (rmG h r))
 pos : getI (wOf h).pos (k : Int) = some (posG (prs h.stream) (rmG h r))
 now : getI (wOf h).now (k : Int) = some (nowG (rmG h r))
 both : Both (rmG h r) (hiG (rmG h r)) (knG (rmG h r))
 graph : (hiG (rmG h r)).graph = rmG h r
theorem Ymz.room {h : Y91} (u : Ymz h) {r : Int} (hr : 1 ≤ r ∧ r ≤ 3) : ∃ k, Yng h r k := by
 obtain ⟨k, hk, k1, k2, k3⟩ := Ymo u.three hr
 have hg : Yk6 (rmG h r) := by rw [k3]; exact u.rooms.right _ (List.getElem_mem hk)
 have hb := (Ylv hg).2.2
 refine ⟨k, hk, k2, fun _ => k3, by rw [k3]; exact List.getElem_mem hk, by rw [k3, (u.rooms k hk).2]; exact k1.symm, hg, ?_, ?_, ?_, ?_, ?_, hb, hb.graph⟩
 ·
  rw [k3]; exact Yld hiG hk
 ·
  rw [k3]; exact Ye1 hk
 ·
  rw [k3]; exact Yld knG hk
 ·
  rw [k3]; exact Yld _ hk
 ·
  rw [k3]; exact Yld nowG hk

end Go.Proofs.YtbgichfjcnibpaaGreat
namespace Go.Proofs.YtbgichfjcnibpaaGreat
open Go Go.Abs

theorem EvOk.sight {e : Y8w} (h : EvOk e) (hk : e.kind = 6) : 1 ≤ e.n ∧ e.n ≤ 3 := by
 have := h.body
 unfold Yep Z1x Z1p Z1q Z1r Z1s Z1t Z1u Z1v Z1w at this
 simp only [Ye7, Ye5, Ye6, Option.bind_some, hk] at this
 by_cases h1 : 1 ≤ e.n ∧ e.n ≤ 3
 ·
  exact h1
 ·
  simp [h1] at this

def sgt (l : List Y8w) (s : List Y92) : Int := match cur l s 6 0 with
 | some e => e.n
 | none => 2

theorem Ynh {g : Y90} (hr : Yk6 g) {s : List Y92} (hs : StOk g.events s) : Z7c g s = some (sgt g.events s) ∧ Zg1 g s = some (sgt g.events s) := by
 have h := hr.sts hs
 unfold Z7c Zg1 sgt
 rw [Yhz h.ids h.len h.ok h.sl, Yhx h.up h.len h.ok.up h.sl, Option.bind_some, Option.bind_some]
 cases hc : cur g.events s 6 0 with
 | none => exact ⟨rfl, rfl⟩
 | some e =>
  have hk : e.kind = 6 ∧ e ∈ g.events := by
   unfold cur at hc
   rcases Yhu s 6 0 with ⟨h0, _⟩ | ⟨x, hx, h1, _, h2⟩
   ·
    rw [h0, no0 h.ids (Int.le_refl 0)] at hc; cases hc
   ·
    obtain ⟨e', k1, k2, _⟩ := hs.ev x hx
    rw [h2, k1] at hc
    cases hc
    exact ⟨k2.trans h1, (Yf5 k1).1⟩
  have := (hr.ev e hk.2).sight hk.1
  simp only [Option.getD_some, Option.isSome_some, cond_true]
  rw [beqd, decide_eq_false (by omega)]
  exact ⟨rfl, trivial⟩


theorem Yni {h : Y91} (u : Ymz h) (r id : Int) : Zhf (sOf h) r id = some (posP (prs h.stream) (r, id)) := by
 have hsl := u.slen
 unfold Zhf Zfz
 show ((iter (Zfy h.stream (Y8y.mk r id)) big 0).bind _).bind _ = _
 rw [Yek (Yef (l := h.stream) (step := Zfy h.stream (Y8y.mk r id)) (fun x => decide ((x.room, x.id) = (r, id))) (by omega) (fun i hi => by
  simp only [Zfy]
  rw [dlt hi, cond_true, Ye1 hi, Option.bind_some, eqSp, Ye2 hi (by omega)]
  cases decide ((h.stream[i].room, h.stream[i].id) = (r, id)) <;> rfl) (by simp only [Zfy]; rw [dnlt, cond_false])) (fun _ => rfl) rfl, Option.bind_some]
 unfold idxP
 cases hf : h.stream.findIdx? (fun x => decide ((x.room, x.id) = (r, id))) with
 | none =>
  rw [List.findIdx?_eq_none_iff] at hf
  have : (r, id) ∉ prs h.stream := fun hm => by
   obtain ⟨x, hx, e⟩ := List.mem_map.1 hm
   have := hf x hx
   rw [decide_eq_false_iff_not] at this
   exact this e
  unfold posP
  rw [if_neg this]; rfl
 | some k =>
  obtain ⟨hk, hp, _⟩ := List.findIdx?_eq_some_iff_getElem.1 hf
  rw [decide_eq_true_eq] at hp
  have hkl : k < (prs h.stream).length := by rw [Ymh]; exact hk
  have e : (prs h.stream)[k] = (r, id) := by rw [Ymg hk]; exact hp
  have hm : (r, id) ∈ prs h.stream := by rw [← e]; exact List.getElem_mem _
  have hi := Ylq u.nodup hkl
  rw [e] at hi
  unfold posP
  rw [if_pos hm, hi]
  simp only
  rw [Y4i (by omega) (by omega)]


def seeE (g : Y90) (user : Int) (e : Y8w) : Bool :=
 decide (mbr g.events (behI (hiG g).after e.id) user = 1) || decide (sgt g.events (behI (hiG g).after e.id) = 1) || (decide (e.kind = 2) && decide (e.key = user)) || (decide (sgt g.events (behI (hiG g).after e.id) = 2) && decide (mbr g.events (nowG g) user = 1))
def seeB (h : Y91) (user r id : Int) : Bool := decide ((r, id) ∈ prs h.stream) && seeE (rmG h r) user (evD (rmG h r).events id)

theorem Ymz.event {h : Y91} (u : Ymz h) {r : Int} {k : Nat} (q : Yng h r k) {id : Int} (hm : (r, id) ∈ prs h.stream) : evAt (rmG h r).events id = some (evD (rmG h r).events id) ∧ evD (rmG h r).events id ∈ (rmG h r).events ∧ (evD (rmG h r).events id).id = id := by
 have hm' := (u.all _).1 hm
 rw [← q.room] at hm'
 exact Yj8 (Yji.1 ((Ymw u.rooms q.mem).1 hm').1) q.right.fits.up

theorem Ynj {g : Y90} (hr : Yk6 g) : StOk g.events (nowG g) := (Ylh (Ylv hr).2.2 hr (okB g)).2

theorem Ynk {g : Y90} (hr : Yk6 g) : Zhd (hiG g) = some (nowG g) := by
 have hb := (Ylv hr).2.2
 have hr' : Yk6 (hiG g).graph := by rw [hb.graph]; exact hr
 have hac : Zey (hiG g) = some (accT g.events (okB g)) := by
  have := Yl1 (h := hiG g) hr'
  rw [hb.graph] at this; exact this
 have hen : Zgp (hiG g) (accT g.events (okB g)) = some (endsT g.events (okB g)) := by
  have := Yl9 (h := hiG g) (ids := accT g.events (okB g)) (T := okB g) hr' ((Yl5 hr.fits _).imp fun {a b} h => by omega) (fun x => by rw [hb.graph])
  rw [hb.graph] at this; exact this
 unfold Zhd Zgr
 rw [hac, Option.bind_some, hen]
 exact (Ylh hb hr (okB g)).1

theorem Ynl {h : Y91} (u : Ymz h) (user : Int) {r : Int} (hr : 1 ≤ r ∧ r ≤ 3) : Zhj (sOf h) user r = some (decide (mbr (rmG h r).events (nowG (rmG h r)) user = 1)) := by
 obtain ⟨k, q⟩ := u.room hr
 have e1 : Zhh (sOf h) r = some (hiG (rmG h r)) := by unfold Zhh; rw [q.wrap, q.hist]; rfl
 unfold Zhj
 rw [e1, Option.bind_some, Ynk q.right, Option.bind_some, q.graph, Yi0 (q.right.sts (Ynj q.right)), Option.bind_some, beqd]

theorem Ynm {h : Y91} (u : Ymz h) (user : Int) {r : Int} (id : Int) (hr : 1 ≤ r ∧ r ≤ 3) : Zhn (sOf h) user r id = some (seeB h user r id) := by
 obtain ⟨k, q⟩ := u.room hr
 have hfl := q.right.fits.len
 have e1 : Zhh (sOf h) r = some (hiG (rmG h r)) := by unfold Zhh; rw [q.wrap, q.hist]; rfl
 unfold Zhn seeB
 rw [Yni u, Option.bind_some, beqd]
 by_cases hm : (r, id) ∈ prs h.stream
 rotate_left
 ·
  have h0 : posP (prs h.stream) (r, id) = 0 := by unfold posP; rw [if_neg hm]
  rw [decide_eq_true h0, decide_eq_false hm]; rfl
 have h0 : ¬ posP (prs h.stream) (r, id) = 0 := fun e => by have := Ylm.2 hm; omega
 rw [decide_eq_false h0, decide_eq_true hm, cond_false, e1, Option.bind_some, q.graph, c_at _ _ q.right.fits.up (by omega), Option.bind_some]
 obtain ⟨v1, v2, v3⟩ := u.event q hm
 have hst := (q.both.behind q.right v2).2
 rw [v3] at hst
 have hmb := Yi0 (q.right.sts hst) user
 have hsg := (Ynh q.right hst).2
 have hgd : Option.getD (mget (hiG (rmG h r)).after id) ([] : List Y92) = behI (hiG (rmG h r)).after id := rfl
 rw [hgd, hmb, Option.bind_some, hsg, Option.bind_some]
 simp only [Zhm, Zhl]
 rw [q.graph, hgd, hsg, Option.bind_some, Ynl u user hr, Option.bind_some]
 have hev : Option.getD (evAt (rmG h r).events id) zEv = evD (rmG h r).events id := rfl
 rw [hev]
 unfold seeE
 rw [v3]
 simp only [beqd, Bool.true_and]
 cases decide (mbr (rmG h r).events (behI (hiG (rmG h r)).after id) user = 1) <;> cases decide (sgt (rmG h r).events (behI (hiG (rmG h r)).after id) = 1) <;> cases decide ((evD (rmG h r).events id).kind = 2) <;> cases decide ((evD (rmG h r).events id).key = user) <;> cases decide (sgt (rmG h r).events (behI (hiG (rmG h r)).after id) = 2) <;> rfl

theorem Ynn {h : Y91} (u : Ymz h) (user : Int) {r : Int} (hr : 1 ≤ r ∧ r ≤ 3) {k : Nat} (hk : k < (rmG h r).events.length) : Z7g (wOf h) user r (k : Int) = some (seeB h user r (rmG h r).events[k].id) := by
 obtain ⟨j, q⟩ := u.room hr
 have hfl := q.right.fits.len
 have hkp : k < (posG (prs h.stream) (rmG h r)).length := by unfold posG; rw [List.length_map]; exact hk
 have hem := List.getElem_mem hk
 unfold Z7g seeB
 rw [q.wrap, q.pos, Option.bind_some, Ye1 hkp, Option.bind_some, Ylw hk, q.room, beqd]
 by_cases hm : (r, (rmG h r).events[k].id) ∈ prs h.stream
 rotate_left
 ·
  have h0 : posP (prs h.stream) (r, (rmG h r).events[k].id) = 0 := by unfold posP; rw [if_neg hm]
  rw [decide_eq_true h0, decide_eq_false hm]; rfl
 have h0 : ¬ posP (prs h.stream) (r, (rmG h r).events[k].id) = 0 := fun e => by have := Ylm.2 hm; omega
 have hev : evD (rmG h r).events (rmG h r).events[k].id = (rmG h r).events[k] := by unfold evD; rw [(q.right.fits.up.plc hk).2]; rfl
 obtain ⟨b1, hst⟩ := q.both.behind q.right hem
 rw [(q.right.fits.up.plc hk).1] at b1
 have hmb := Yi1 (q.right.sts hst) user
 have hsg := (Ynh q.right hst).1
 have hnm := Yi1 (q.right.sts (Ynj q.right)) user
 rw [decide_eq_false h0, decide_eq_true hm, cond_false, q.gr, Option.bind_some, q.kn, Option.bind_some, b1, Option.bind_some, Ye1 hk, Option.bind_some, hsg, Option.bind_some, hmb, Option.bind_some]
 simp only [Z7f, Z7e]
 rw [q.wrap, q.now, Option.bind_some, hnm, Option.bind_some, hev]
 unfold seeE
 simp only [beqd, Bool.true_and]
 cases decide (mbr (rmG h r).events (behI (hiG (rmG h r)).after (rmG h r).events[k].id) user = 1) <;> cases decide (sgt (rmG h r).events (behI (hiG (rmG h r)).after (rmG h r).events[k].id) = 1) <;> cases decide ((rmG h r).events[k].kind = 2) <;> cases decide ((rmG h r).events[k].key = user) <;> cases decide (sgt (rmG h r).events (behI (hiG (rmG h r)).after (rmG h r).events[k].id) = 2) <;> rfl
end Go.Proofs.YtbgichfjcnibpaaGreat
namespace Go.Proofs.YtbgichfjcnibpaaGreat
open Go Go.Abs

end Go.Proofs.YtbgichfjcnibpaaGreat
namespace Go.Proofs.YtbgichfjcnibpaaGreat
open Go Go.Abs

def marB (m : Y8z) : Bool := decide (1 ≤ m.user ∧ m.user ≤ 6) && decide (m.at_.length = 3) && m.at_.all fun x => decide (0 ≤ x ∧ x ≤ 120)
theorem Yno {m : Y8z} (h : marB m = true) : (1 ≤ m.user ∧ m.user ≤ 6) ∧ m.at_.length = 3 ∧ ∀ x ∈ m.at_, 0 ≤ x ∧ x ≤ 120 := by
 unfold marB at h
 simp only [Bool.and_eq_true, decide_eq_true_eq, List.all_eq_true] at h
 exact ⟨h.1.1, h.1.2, h.2⟩

theorem Ynp (m : Y8z) (hl : m.at_.length ≤ 1048576) : Z78 m = some (marB m) ∧ Zfv m = some (marB m) := by
 have h3 : ((m.at_.length : Int) == 3) = decide (m.at_.length = 3) := by rw [beqd, Bool.eq_iff_iff]; simp; omega
 have h3' : ((m.at_.length : Int) != 3) = !decide (m.at_.length = 3) := by rw [bne, h3]
 unfold Z78 Zfv marB
 rw [Ye7, Yeb, Option.bind_some, Option.bind_some, h3, h3']
 cases decide (1 ≤ m.user ∧ m.user ≤ 6) with
 | false => exact ⟨rfl, rfl⟩
 | true =>
  simp only [cond_true, Bool.true_and]
  cases decide (m.at_.length = 3) with
  | false => exact ⟨rfl, rfl⟩
  | true =>
   simp only [Bool.not_true, cond_true, Bool.true_and]
   unfold Z77 Zfs Zfq
   rw [Yeh (l := m.at_) (step := Z76 m) (fun x => decide (0 ≤ x ∧ x ≤ 120)) (.inl false) (.inr ()) (by omega) (fun i hi => by
    simp only [Z76]
    rw [dlt hi, cond_true, Ye1 hi, Option.bind_some, Ye5, Option.bind_some, Ye2 hi (by omega)]
    cases decide (0 ≤ m.at_[i] ∧ m.at_[i] ≤ 120) <;> rfl) (by simp only [Z76]; rw [dnlt, cond_false])]
   rw [Yek (Yef (l := m.at_) (step := Zfp m.at_) (fun x => !decide (0 ≤ x ∧ x ≤ 120)) (by omega) (fun i hi => by
    simp only [Zfp]
    unfold Zfm
    rw [dlt hi, cond_true, Ye1 hi, Option.bind_some, c_in, Option.bind_some, Option.bind_some, Ye2 hi (by omega)]
    cases decide (0 ≤ m.at_[i] ∧ m.at_[i] ≤ 120) <;> rfl) (by simp only [Zfp]; rw [dnlt, cond_false])) (fun _ => rfl) rfl, Option.bind_some, Option.bind_some, Yej, Yj5]
   simp only [cond_false, Zfu, Bool.not_not]
   cases m.at_.all fun x => decide (0 ≤ x ∧ x ≤ 120) <;> exact ⟨rfl, rfl⟩


theorem Ynq (m : Y8z) (n : Int) (hm : m.at_.length ≤ maxLen) (h0 : 0 ≤ n) (hn : n ≤ 1048576) : ∃ r, Zj m n = some r ∧ ((0 ≤ r ∧ r ≤ n ∧ m.at_.length ≤ 1048576) ∨ r = -1) := by
 unfold Zj
 obtain ⟨r, h1, h2⟩ := Ykc m.at_ n hm h0 hn
 rw [h1, Option.bind_some]
 rcases h2 with ⟨h2, h3, h4⟩ | rfl
 ·
  rw [decide_eq_false (by omega)]; exact ⟨_, rfl, .inl ⟨h2, h3, h4⟩⟩
 ·
  exact ⟨_, rfl, .inr rfl⟩
theorem Ynr (m : Y8z) (hm : m.at_.length ≤ 1048576) : Z19 m = some m := by unfold Z19; rw [Yki _ hm]; rfl
theorem Yns {α : Type} {l : List α} {k : Nat} (h : k < l.length) : l.set k l[k] = l := List.set_getElem_self h

theorem Ynt {h : Y91} (u : Ymz h) {user r id : Int} {k : Nat} (q : Yng h r k) (hs : seeB h user r id = true) : hasE (rmG h r).events id = true := by
 unfold seeB at hs
 rw [Bool.and_eq_true, decide_eq_true_eq] at hs
 obtain ⟨_, v2, v3⟩ := u.event q hs.1
 exact Yf4.2 ⟨_, v2, v3⟩

theorem Ynu {h : Y91} (hf : Ymb h) (m : Y8z) (hm : m.at_.length ≤ 1048576) (r id : Int) : ∃ o, Z7m h m r id = some o ∧ Zhr h m r id = some o ∧ o.marks.at_.length ≤ 1048576 := by
 obtain ⟨b, b1, b2, b3⟩ := Yn1 hf
 obtain ⟨m1, m2⟩ := Ynp m hm
 unfold Z7m Zhr
 rw [b2, b3, Option.bind_some, Option.bind_some]
 cases b with
 | false => exact ⟨_, rfl, rfl, by simp⟩
 | true =>
  have u := b1 rfl
  simp only [cond_true]
  unfold Z7a
  rw [m1, m2, Ye5, Ye9]
  simp only [Option.bind_some]
  cases hmb : marB m with
  | false => exact ⟨_, rfl, rfl, by simp⟩
  | true =>
   obtain ⟨_, k2, _⟩ := Yno hmb
   simp only [cond_true]
   by_cases hr : 1 ≤ r ∧ r ≤ 3
   rotate_left
   ·
    rw [decide_eq_false hr]; exact ⟨_, rfl, rfl, by simp⟩
   rw [decide_eq_true hr]
   obtain ⟨k, q⟩ := u.room hr
   have hfl := q.right.fits.len
   have hgr : getI h.rooms (k : Int) = some (rmG h r) := q.gr
   have h3 := u.three
   have hlt := q.lt
   have hka : k < m.at_.length := by omega
   simp only [Bool.not_true, Z7l, Zhq, cond_false]
   rw [Ynm u m.user id hr, Option.bind_some, q.wrap, hgr, Option.bind_some, Yey _ _ (by omega), Option.bind_some, Yf0]
   cases hh : hasE (rmG h r).events id with
   | false =>
    have hns : seeB h m.user r id = false := by
     rw [Bool.eq_false_iff]; intro hs
     have := Ynt u q hs
     rw [hh] at this; cases this
    rw [hns]
    exact ⟨_, rfl, rfl, by simp⟩
   | true =>
    obtain ⟨k0, hk0, p1, p2, _⟩ := Yf1 hh
    have hss := Ynn u m.user hr hk0
    rw [p2] at hss
    simp only [Bool.not_true, cond_false]
    rw [p1, hss, Option.bind_some]
    cases hsb : seeB h m.user r id with
    | false => exact ⟨_, rfl, rfl, by simp⟩
    | true =>
     have hcl : Zed m.at_ = some m.at_ := by unfold Zed; rw [chk8 (by omega)]; rfl
     have hkp : k0 < (posG (prs h.stream) (rmG h r)).length := by unfold posG; rw [List.length_map]; exact hk0
     simp only [Bool.not_true, cond_true, cond_false, Z7k, Z7j, Zhp, List.nil_append]
     rw [chk8 (by simp; omega), Option.bind_some, hcl, Option.bind_some, q.wrap, Ye1 hka, Option.bind_some, Yni u, Option.bind_some, q.pos, Option.bind_some, Ye1 hkp, Option.bind_some, Option.bind_some, Ylw hk0, p2, q.room, Int.toNat_natCast]
     by_cases hc : posP (prs h.stream) (r, id) > m.at_[k]
     ·
      rw [decide_eq_true hc, if_pos hc]
      exact ⟨_, rfl, rfl, by simp; omega⟩
     ·
      rw [decide_eq_false hc, if_neg hc, Yns hka]
      exact ⟨_, rfl, rfl, by simp; omega⟩
end Go.Proofs.YtbgichfjcnibpaaGreat
