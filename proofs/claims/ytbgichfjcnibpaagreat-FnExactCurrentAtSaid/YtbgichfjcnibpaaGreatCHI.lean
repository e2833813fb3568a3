/- Plain laws for the graphs: states are merged alike (end). -/
import Derived.Test.YtbgichfjcnibpaaGreatCGN
set_option autoImplicit false
set_option linter.unusedVariables false
set_option linter.unusedSimpArgs false
namespace Go.Proofs.YtbgichfjcnibpaaGreat
open Go Go.Abs

theorem Zin {h : Y95} {ls : List (List Y92)} (hm : Mrg h.graph ls) {es : List Y8x} (hes : ∀ e ∈ es, e ∈ h.graph.events) (hel : es.length ≤ 1000) {s : List Y92} (hs : StOk h.graph.events s) :
  iter (fun z : List Y92 × Int => Zdk h es z.1 z.2) big (s, 0) = some (es.foldl (layE h.graph) s) := by
 have := Ye4 (l := es) (step := fun z : List Y92 × Int => Zdk h es z.1 z.2) (fun q j => (q, j)) (fun q => q) (layE h.graph) (fun _ q => StOk h.graph.events q) (by omega) (fun i q hi hq => by
  have he := hes _ (List.getElem_mem hi)
  refine ⟨?_, Yiq (es := [es[i]]) hm.fits.up hq (by simpa using he)⟩
  have hql := hm.slen hq
  simp only [Zdk]
  rw [dlt hi, cond_true, Ydn hi, Option.bind_some, (Yhv (hm.sts hq) (hm.ev _ he).ask).2, Option.bind_some, beqd]
  simp only [Zdj, Ydo hi (by omega : es.length < 9223372036854775807)]
  have h1 := (hm.ev _ he).id.1
  unfold layE putE
  by_cases ha : alw h.graph q es[i] = 0
  ·
   rw [decide_eq_true ha, cond_true, if_pos ha, Yhf hq.up _ (by simp only; omega) (by omega)]; rfl
  ·
   rw [decide_eq_false ha, cond_false, if_neg ha])
  (fun q _ => by simp only [Zdk]; rw [dnlt, cond_false]) (s := s) hs
 exact this.1

theorem Yir {α : Type} (p : α → Bool) (l : List α) : l.any (fun x => !p x) = !l.all p := by simp [List.all_eq_not_any_not]

theorem Yis {ls : List (List Y92)} (x : Y92) (hl : ls.length ≤ 1000) (hs : ∀ s ∈ ls, s.length < 1000000) : Zde ls x = some (!ls.all fun t => memS t x) := by
 unfold Zde Zdc
 rw [Ye6 (Ye1 (l := ls) (step := Zdb ls x) (fun t => !memS t x) (by omega) (fun i hi => by
  simp only [Zdb, Zd8]
  rw [dlt hi, cond_true, Ydn hi, Option.bind_some, Yi6 _ _ (hs _ (List.getElem_mem hi)), Option.bind_some, Option.bind_some, Ydo hi (by omega)]
  cases memS ls[i] x <;> rfl) (by simp only [Zdb]; rw [dnlt, cond_false])) (fun _ => rfl) rfl]
 rw [Option.bind_some, Ye5, Yir]

theorem Yit {α : Type} (p : α → Bool) : ∀ (l q : List α), l.foldl (fun q x => if p x = true then q ++ [x] else q) q = q ++ l.filter p
 | [], q => by simp
 | x :: l, q => by
  rw [List.foldl_cons, Yit p l]
  cases h : p x with
  | true => rw [if_pos rfl, List.filter_cons_of_pos h]; simp
  | false => rw [if_neg (by simp), List.filter_cons_of_neg (by simp [h])]

theorem Zio {h : Y95} {ls : List (List Y92)} (hm : Mrg h.graph ls) : ∃ r : List Y8x, Zdw h ls = some (r.foldl (layE h.graph) (Yia ls).1) ∧ r.Perm (Yio h.graph.events ls) ∧ r.Pairwise (Lt3 (dmI h)) := by
 have hR := (Yid hm).2
 have hlen := hm.len
 have hsl : ∀ s ∈ ls, s.length ≤ 60 := fun s hs => hm.slen (hm.ok s hs)
 obtain ⟨o1, o2, o3⟩ := Yip hm
 obtain ⟨r, r1, r2, r3⟩ := Zim h o1 (by omega)
 refine ⟨r, ?_, r2, r3⟩
 have hcom : Zdw h ls = Zdt h ls (comI ls) := by
  unfold Zdw
  cases ls with
  | nil => rfl
  | cons s ls =>
   have hs := hsl s (by simp)
   rw [decide_eq_true (by simp), cond_true, show (0 : Int) = ((0 : Nat) : Int) from rfl, Ydn (by simp), Option.bind_some]
   simp only [List.getElem_cons_zero]
   have := Ye4 (l := s) (step := fun z : List Y92 × Int => Zdv (s :: ls) s z.1 z.2) (fun q j => (q, j)) (fun q => q) (fun q x => if ((s :: ls).all fun t => memS t x) = true then q ++ [x] else q) (fun i q => q.length ≤ i) (by omega) (fun i q hi hq => by
    refine ⟨?_, by split <;> first | omega | (rw [List.length_append, List.length_singleton]; omega)⟩
    simp only [Zdv]
    rw [dlt hi, cond_true, Ydn hi, Option.bind_some, Yis _ hlen (fun s hs => by have := hsl s hs; omega), Option.bind_some, Yh1 (by simp; omega), Option.bind_some]
    simp only [Zdu, Ydo hi (by omega : s.length < 9223372036854775807)]
    cases (s :: ls).all fun t => memS t s[i] <;> rfl)
    (fun q _ => by simp only [Zdv]; rw [dnlt, cond_false]) (s := []) (by simp)
   rw [Yit (fun x => (s :: ls).all fun t => memS t x), List.nil_append] at this
   rw [show ((0 : Nat) : Int) = 0 from rfl, this.1]
   rfl
 rw [hcom]
 have hc60 : (comI ls).length ≤ 60 := by rw [Yif hm]; exact (hR.len hm.fits.len).1
 unfold Zdt
 have h2 := Ye4 (l := comI ls) (step := fun z : List (Int × Bool) × Int => Zds (comI ls) z.1 z.2) (fun q j => (q, j)) (fun q => q) (fun m x => mset m x.id true) (fun _ _ => True) (by omega) (fun i q hi _ => by
  refine ⟨?_, trivial⟩
  simp only [Zds]
  rw [dlt hi, cond_true, Ydn hi, Option.bind_some, Ydo hi (by omega)])
  (fun q _ => by simp only [Zds]; rw [dnlt, cond_false]) (s := []) trivial
 rw [h2.1, Option.bind_some]
 unfold Zdr
 have h3 := Ye4 (l := ls) (step := fun z : List Y8x × List (Int × Bool) × Int => Zdq h ls z.1 z.2.1 z.2.2) (fun (q : List Y8x × List (Int × Bool)) j => (q.1, q.2, j)) (fun q => q.1) (fun q s => s.foldl (Yim h.graph.events) q) (fun _ q => OInv h.graph.events q) (by omega) (fun i q hi hq => by
  have hs := hm.ok _ (List.getElem_mem hi)
  have hs6 := hm.slen hs
  have hev : ∀ x ∈ ls[i], ∃ e, evAt h.graph.events x.id = some e := fun x hx => by obtain ⟨e, he, _⟩ := hs.ev x hx; exact ⟨e, he⟩
  refine ⟨?_, (OInv.fold hq hev).1⟩
  simp only [Zdq]
  have inner := Ye4 (l := ls[i]) (step := fun z : List Y8x × List (Int × Bool) × Int => Zdp h ls[i] z.1 z.2.1 z.2.2) (fun (q : List Y8x × List (Int × Bool)) j => (q.1, q.2, j)) (fun q => q) (Yim h.graph.events) (fun _ q => OInv h.graph.events q) (by omega) (fun j q hj hq => by
   obtain ⟨e, he⟩ := hev _ (List.getElem_mem hj)
   refine ⟨?_, (hq.step he).1⟩
   have hql := hq.len
   have := hm.fits.len
   simp only [Zdp]
   rw [dlt hj, cond_true, Ydn hj, Option.bind_some]
   simp only [Zdn, Zdo, Ydo hj (by omega : ls[i].length < 9223372036854775807)]
   unfold Yim
   cases Option.getD (mget q.2 ls[i][j].id) false with
   | true => rfl
   | false =>
    rw [cond_false, c_at _ _ hm.fits.up (by omega), Option.bind_some, Yig (by simp; omega), Option.bind_some]; rfl)
   (fun q _ => by simp only [Zdp]; rw [dnlt, cond_false]) (s := q) hq
  rw [dlt hi, cond_true, Ydn hi, Option.bind_some, inner.1, Option.bind_some]
  simp only [Zdm, Ydo hi (by omega : ls.length < 9223372036854775807)])
  (fun q _ => by simp only [Zdq]; rw [dnlt, cond_false]) (s := ([], metI (comI ls))) ⟨.nil, fun e he => by cases he⟩
 have h3' := h3.1
 simp only at h3'
 rw [show (comI ls).foldl (fun m x => mset m x.id true) [] = metI (comI ls) from rfl, h3', Option.bind_some]
 have e4 : (ls.foldl (fun q s => s.foldl (Yim h.graph.events) q) ([], metI (comI ls))).1 = Yio h.graph.events ls := by unfold Yio; rw [Yib]
 rw [e4]
 unfold Zdl
 rw [r1, Option.bind_some, Yif hm]
 have hrl : r.length ≤ 60 := by rw [r2.length_eq]; exact o2
 rw [Zin hm (fun e he => ((o3 e).1 (r2.mem_iff.1 he)).1) (by omega) hR.ok]
 rfl


def dmR (l : List Y8x) (e : Y8x) : Int := dOf l (Yf5 l) e.id
def evD (l : List Y8x) (id : Int) : Y8x := (evAt l id).getD zEv

theorem Yiu {l : List Y8x} {id : Int} (h : id ∈ l.map (·.id)) (hu : Up2 l) : evAt l id = some (evD l id) ∧ evD l id ∈ l ∧ (evD l id).id = id := by
 obtain ⟨e, he, rfl⟩ := List.mem_map.1 h
 have := hu.evAt_mem he
 unfold evD
 rw [this]
 exact ⟨rfl, he, rfl⟩

theorem Yiv {dm : Y8x → Int} {x y : Int} {ea eb : Y8x} (hx : dm ea = x) (hy : dm eb = y) :
  cond (hv ea == hv eb) (cond (x != y) (some (decide (x < y))) (cond (ea.time != eb.time) (some (decide (ea.time < eb.time))) (some (decide (ea.id < eb.id))))) ((some (hv ea)).bind fun r => some r) = some (decide (Lt3 dm ea eb)) := by
 have hnn : ∀ e, (hv e = true ∧ hn e = 0) ∨ (hv e = false ∧ hn e = 1) := fun e => by unfold hn; cases hv e <;> simp
 have hc : hn ea = hn eb → cond (x != y) (some (decide (x < y))) (cond (ea.time != eb.time) (some (decide (ea.time < eb.time))) (some (decide (ea.id < eb.id)))) = some (decide (Lt3 dm ea eb)) := fun he => by
  rw [bned, bned]
  by_cases h1 : x = y
  ·
   rw [decide_eq_true h1]
   by_cases h2 : ea.time = eb.time
   ·
    rw [decide_eq_true h2]
    exact congrArg some (decide_eq_decide.2 (by unfold Lt3; omega))
   ·
    rw [decide_eq_false h2]
    exact congrArg some (decide_eq_decide.2 (by unfold Lt3; omega))
  ·
   rw [decide_eq_false h1]
   exact congrArg some (decide_eq_decide.2 (by unfold Lt3; omega))
 rcases hnn ea with ⟨p1, p2⟩ | ⟨p1, p2⟩ <;> rcases hnn eb with ⟨q1, q2⟩ | ⟨q1, q2⟩ <;> rw [p1, q1]
 ·
  exact hc (by omega)
 ·
  exact congrArg some (decide_eq_true (by unfold Lt3; omega)).symm
 ·
  exact congrArg some (decide_eq_false (by unfold Lt3; omega)).symm
 ·
  exact hc (by omega)

theorem Yiw {g : Y90} {ls : List (List Y92)} (hm : Mrg g ls) {a b : Int} (ha : a ∈ g.events.map (·.id)) (hb : b ∈ g.events.map (·.id)) : Z40 g (Yf5 g.events) a b = some (decide (Lt3 (dmR g.events) (evD g.events a) (evD g.events b))) := by
 have hfl := hm.fits.len
 obtain ⟨a1, a2, a3⟩ := Yiu ha hm.fits.up
 obtain ⟨b1, b2, b3⟩ := Yiu hb hm.fits.up
 have hd := (Yfb hm.fits).2.len
 have da := (Yf6 hd (Yep a2)).1
 have db := (Yf6 hd (Yep b2)).1
 rw [a3] at da; rw [b3] at db
 unfold Z40
 rw [Yek _ _ (by omega), Option.bind_some, Yek _ _ (by omega), Option.bind_some, (Yhk a1).1, Option.bind_some, (Yhk b1).1, Option.bind_some]
 unfold Z3z
 rw [show ∀ e : Y8x, Y8x.mk e.id e.room e.author e.kind e.key e.n e.text e.prev e.time = e from fun _ => rfl, show ∀ e : Y8x, Y8x.mk e.id e.room e.author e.kind e.key e.n e.text e.prev e.time = e from fun _ => rfl]
 rw [Yii, Option.bind_some, Yii, Option.bind_some, da, Option.bind_some, db, Option.bind_some]
 exact Yiv (by unfold dmR; rw [a3]) (by unfold dmR; rw [b3])

theorem Yix {g : Y90} {ls : List (List Y92)} (hm : Mrg g ls) {ids : List Int} (hids : ∀ n ∈ ids, n ∈ g.events.map (·.id)) (hup : UpI ids) (hl : ids.length ≤ 1000) :
  ∃ od : List Int, iter (fun z : List Int × Int => Z4y g (Yf5 g.events) ids z.1 z.2) big ([], 0) = some od ∧ od.Perm ids ∧ od.Pairwise fun a b => Lt3 (dmR g.events) (evD g.events a) (evD g.events b) := by
 obtain ⟨o, h1, h2⟩ := Ydl (τ := List Int × Int) (ω := List Int) (σ := List Int) (step := fun z : List Int × Int => Z4y g (Yf5 g.events) ids z.1 z.2) (n := ids.length) (fun s j => (s, j))
  (fun i s => s.Perm (ids.take i) ∧ s.Pairwise fun a b => Lt3 (dmR g.events) (evD g.events a) (evD g.events b)) (fun od => od.Perm ids ∧ od.Pairwise fun a b => Lt3 (dmR g.events) (evD g.events a) (evD g.events b)) (by omega) (by
  rintro i s hi ⟨hp, hs⟩
  have hsl : s.length = i := by rw [hp.length_eq]; simp; omega
  have hx := hids _ (List.getElem_mem hi)
  have hsm : ∀ n ∈ s, n ∈ g.events.map (·.id) := fun n hn => hids n (List.mem_of_mem_take (hp.mem_iff.1 hn))
  have hne : ∀ n ∈ s, n < ids[i] := fun n hn => by
   obtain ⟨j, hj, hji, rfl⟩ := Yft (hp.mem_iff.1 hn)
   exact List.pairwise_iff_getElem.1 hup j i hj hi hji
  obtain ⟨k, k1, k2, k3, k4⟩ := Y4m (step := Z4x g (Yf5 g.events) ids s (i : Int)) (p := fun o => ∃ k : Nat, o = (k : Int) ∧ k ≤ s.length ∧ (∀ y ∈ s.take k, Lt3 (dmR g.events) (evD g.events y) (evD g.events ids[i])) ∧ ∀ y ∈ s.drop k, Lt3 (dmR g.events) (evD g.events ids[i]) (evD g.events y))
   (fun m (z : Int) => ∃ k : Nat, z = (k : Int) ∧ k ≤ s.length ∧ (∀ y ∈ s.drop k, Lt3 (dmR g.events) (evD g.events ids[i]) (evD g.events y)) ∧ m = k) (by
   rintro k z ⟨k', rfl, hk, hd, rfl⟩
   simp only [Z4x, Z4w]
   cases k with
   | zero =>
    left
    exact ⟨_, rfl, 0, rfl, by omega, by simp, hd⟩
   | succ k =>
    have hks : k < s.length := by omega
    rw [decide_eq_true (by omega), cond_true, Ydn hi, Option.bind_some, Ydp (by omega) (by omega), Nat.add_sub_cancel, Ydn hks, Option.bind_some, Yiw hm hx (hsm _ (List.getElem_mem hks)), Option.bind_some]
    by_cases hlt : Lt3 (dmR g.events) (evD g.events ids[i]) (evD g.events s[k])
    ·
     right
     rw [decide_eq_true hlt, cond_true]
     refine ⟨_, k, rfl, by omega, k, rfl, by omega, fun y hy => ?_, rfl⟩
     rw [List.drop_eq_getElem_cons hks] at hy
     rcases List.mem_cons.1 hy with rfl | hy
     ·
      exact hlt
     ·
      exact hd y hy
    ·
     left
     rw [decide_eq_false hlt, cond_false]
     refine ⟨_, rfl, k + 1, rfl, hk, fun y hy => ?_, hd⟩
     have hkx : Lt3 (dmR g.events) (evD g.events s[k]) (evD g.events ids[i]) := by
      have h4 := hne _ (List.getElem_mem hks)
      have e1 := (Yiu hx hm.fits.up).2.2
      have e2 := (Yiu (hsm _ (List.getElem_mem hks)) hm.fits.up).2.2
      unfold Lt3 at hlt ⊢
      omega
     obtain ⟨j, hj, hjk, rfl⟩ := Yft hy
     by_cases hjk2 : j = k
     ·
      subst hjk2; exact hkx
     ·
      have h5 := List.pairwise_iff_getElem.1 hs j k hj hks (by omega)
      unfold Lt3 at h5 hkx ⊢; omega) big s.length (s.length : Int) ⟨s.length, rfl, Nat.le_refl _, by simp, rfl⟩ (Ydi (by omega))
  obtain ⟨k, rfl, k5, k6⟩ : ∃ k', k = ((k' : Nat) : Int) ∧ k' = k2 ∧ True := ⟨k2, k3, rfl, trivial⟩
  subst k5
  obtain ⟨hk, hb, ha⟩ := k4
  refine ⟨s.take k ++ ids[i] :: s.drop k, ?_, ?_, ?_⟩
  ·
   simp only [Z4y]
   rw [dlt hi, cond_true, k1, Option.bind_some]
   simp only [Z4v, Int.toNat_natCast]
   rw [Y4k (decide_eq_true (by omega)), Option.bind_some, Y4k (decide_eq_true (by omega)), Option.bind_some, chk8 (by simp; omega), Option.bind_some, Ydn hi, Option.bind_some, chk8 (by simp; omega), Option.bind_some, Option.bind_some, Option.bind_some, chk8 (by simp; omega), Option.bind_some, Ydo hi (by omega)]
   simp
  ·
   refine List.perm_middle.trans ?_
   rw [List.take_append_drop, List.take_add_one, List.getElem?_eq_getElem hi]
   refine (hp.cons _).trans ?_
   exact (List.perm_append_comm (l₁ := [ids[i]]) (l₂ := ids.take i))
  ·
   have hs' := hs
   rw [← List.take_append_drop k s] at hs'
   obtain ⟨s1, s2, s3⟩ := Yfm.1 hs'
   refine Yfm.2 ⟨s1, List.pairwise_cons.2 ⟨ha, s2⟩, fun y hy z hz => ?_⟩
   rcases List.mem_cons.1 hz with rfl | hz
   ·
    exact hb y hy
   ·
    exact s3 y hy z hz) (by
  rintro s ⟨hp, hs⟩
  simp only [Z4y]
  rw [dnlt, cond_false]
  rw [List.take_length] at hp
  exact ⟨s, rfl, hp, hs⟩) (s := []) ⟨by simp, .nil⟩
 exact ⟨o, h1, h2.1, h2.2⟩

def Yiy (g : Y90) (ls : List (List Y92)) : List Y92 := (Z54 g (Yf5 g.events) ls).getD []

def Yiz (h : Y95) : Prop := ∀ e ∈ h.graph.events, mget h.depth e.id = some (dmR h.graph.events e)

theorem Zip {g : Y90} {ls : List (List Y92)} (hm : Mrg g ls) : ∃ od : List Int, Z54 g (Yf5 g.events) ls = some ((od.map (evD g.events)).foldl (layE g) (Yia ls).1) ∧ od.Perm (Yia ls).2 ∧ od.Pairwise fun a b => Lt3 (dmR g.events) (evD g.events a) (evD g.events b) := by
 obtain ⟨e1, hR⟩ := Yid hm
 have hl := hR.len hm.fits.len
 have hfl := hm.fits.len
 obtain ⟨od, o1, o2, o3⟩ := Yix hm hR.ids hR.up (by omega)
 refine ⟨od, ?_, o2, o3⟩
 unfold Z54
 rw [e1, Option.bind_some]
 simp only [Z4z]
 rw [o1, Option.bind_some]
 simp only [Z4u]
 have hodl : od.length ≤ 60 := by rw [o2.length_eq]; exact hl.2
 have := Ye4 (l := od) (step := fun z : List Y92 × Int => Z4t g od z.1 z.2) (fun q j => (q, j)) (fun q => q) (fun q n => layE g q (evD g.events n)) (fun _ q => StOk g.events q) (by omega) (fun i q hi hq => by
  have hn := hR.ids _ (o2.mem_iff.1 (List.getElem_mem hi))
  obtain ⟨a1, a2, a3⟩ := Yiu hn hm.fits.up
  refine ⟨?_, Yiq (es := [evD g.events od[i]]) hm.fits.up hq (by simpa using a2)⟩
  have hql := hm.slen hq
  simp only [Z4t]
  rw [dlt hi, cond_true, Ydn hi, Option.bind_some, Yek _ _ (by omega), Option.bind_some, (Yhk a1).1, Option.bind_some]
  simp only [Z4s]
  rw [show ∀ e : Y8x, Y8x.mk e.id e.room e.author e.kind e.key e.n e.text e.prev e.time = e from fun _ => rfl, (Yhv (hm.sts hq) (hm.ev _ a2).ask).1, Option.bind_some, beqd]
  simp only [Z4r, Ydo hi (by omega : od.length < 9223372036854775807)]
  unfold layE putE
  by_cases ha : alw g q (evD g.events od[i]) = 0
  ·
   rw [decide_eq_true ha, cond_true, if_pos ha, Yh4 hq.up _ (by omega)]; rfl
  ·
   rw [decide_eq_false ha, cond_false, if_neg ha])
  (fun q _ => by simp only [Z4t]; rw [dnlt, cond_false]) (s := (Yia ls).1) hR.ok
 rw [this.1, Option.bind_some]
 simp only [Z4q]
 rw [List.foldl_map]

theorem Yj0 {h : Y95} {ls : List (List Y92)} (hm : Mrg h.graph ls) (hk : Yiz h) : Z54 h.graph (Yf5 h.graph.events) ls = some (Yiy h.graph ls) ∧ Zdw h ls = some (Yiy h.graph ls) ∧ StOk h.graph.events (Yiy h.graph ls) := by
 obtain ⟨od, a1, a2, a3⟩ := Zip hm
 obtain ⟨r, b1, b2, b3⟩ := Zio hm
 have hR := (Yid hm).2
 obtain ⟨o1, o2, o3⟩ := Yip hm
 have hrm : ∀ e ∈ r, e ∈ h.graph.events := fun e he => ((o3 e).1 (b2.mem_iff.1 he)).1
 have hod : ∀ n ∈ od, n ∈ h.graph.events.map (·.id) := fun n hn => hR.ids n (a2.mem_iff.1 hn)
 have hsame : od.map (evD h.graph.events) = r := by
  refine List.Perm.eq_of_pairwise (le := Lt3 (dmR h.graph.events)) (fun a b _ _ h1 h2 => by unfold Lt3 at h1 h2; omega) (List.pairwise_map.2 a3) ?_ ?_
  ·
   refine List.Pairwise.imp_of_mem (fun {a b} ha hb hab => ?_) b3
   have e1 : ∀ e ∈ r, dmI h e = dmR h.graph.events e := fun e he => by unfold dmI; rw [hk e (hrm e he)]; rfl
   unfold Lt3 at hab ⊢
   rw [e1 a ha, e1 b hb] at hab
   exact hab
  ·
   have n1 : (od.map (evD h.graph.events)).Nodup := by
    rw [List.nodup_iff_pairwise_ne, List.pairwise_map]
    refine a3.imp fun {a b} hab he => ?_
    rw [he] at hab
    unfold Lt3 at hab; omega
   have n2 : r.Nodup := by
    rw [List.nodup_iff_pairwise_ne]
    refine b3.imp fun {a b} hab he => ?_
    rw [he] at hab
    unfold Lt3 at hab; omega
   rw [List.perm_ext_iff_of_nodup n1 n2]
   intro e
   rw [b2.mem_iff, o3, List.mem_map]
   constructor
   ·
    rintro ⟨n, hn, rfl⟩
    obtain ⟨_, c2, c3⟩ := Yiu (hod n hn) hm.fits.up
    exact ⟨c2, by rw [c3]; exact a2.mem_iff.1 hn⟩
   ·
    rintro ⟨h1, h2⟩
    refine ⟨e.id, a2.mem_iff.2 h2, ?_⟩
    unfold evD
    rw [hm.fits.up.evAt_mem h1]; rfl
 have e : Yiy h.graph ls = r.foldl (layE h.graph) (Yia ls).1 := by unfold Yiy; rw [a1, hsame]; rfl
 rw [e]
 exact ⟨by rw [a1, hsame], b1, Yiq hm.fits.up hR.ok hrm⟩
end Go.Proofs.YtbgichfjcnibpaaGreat
namespace Go.Proofs.YtbgichfjcnibpaaGreat
open Go Go.Abs

inductive Bf (l : List Y8x) (a : Int) : List Int → List Int → Bool → Prop
 | nil (seen : List Int) : Bf l a seen [] false
 | hit (seen r : List Int) : Bf l a seen (a :: r) true
 | skip (seen r : List Int) (id : Int) (b : Bool) : id ≠ a → id ∈ seen → Bf l a seen r b → Bf l a seen (id :: r) b
 | more (seen r : List Int) (id : Int) (b : Bool) : id ≠ a → id ∉ seen → Bf l a (id :: seen) (r ++ (evD l id).prev) b → Bf l a seen (id :: r) b

theorem Bf.det {l : List Y8x} {a : Int} {seen todo : List Int} {b1 b2 : Bool} (h1 : Bf l a seen todo b1) (h2 : Bf l a seen todo b2) : b1 = b2 := by
 induction h1 with
 | nil => cases h2; rfl
 | hit => cases h2 <;> first | rfl | contradiction
 | skip _ _ _ _ n1 m1 _ ih =>
  cases h2 with
  | hit => exact absurd rfl n1
  | skip _ _ _ _ _ _ h => exact ih h
  | more _ _ _ _ _ m2 _ => exact absurd m1 m2
 | more _ _ _ _ n1 m1 _ ih =>
  cases h2 with
  | hit => exact absurd rfl n1
  | skip _ _ _ _ _ m2 _ => exact absurd m2 m1
  | more _ _ _ _ _ _ h => exact ih h

def Yj1 (l : List Y8x) (seen : List Int) : Nat := l.countP fun e => !decide (e.id ∈ seen)
theorem Yj2 {l : List Y8x} {seen : List Int} {id : Int} (hi : id ∈ l.map (·.id)) (hn : id ∉ seen) : Yj1 l (id :: seen) < Yj1 l seen := by
 have key : ∀ l : List Y8x, Yj1 l (id :: seen) ≤ Yj1 l seen ∧ (id ∈ l.map (·.id) → Yj1 l (id :: seen) < Yj1 l seen) := by
  intro l
  unfold Yj1
  induction l with
  | nil => simp
  | cons e l ih =>
   obtain ⟨i1, i2⟩ := ih
   by_cases he : e.id = id
   ·
    rw [List.countP_cons_of_neg (by simp [he]), List.countP_cons_of_pos (by simp [he, hn])]
    exact ⟨by omega, fun _ => by omega⟩
   ·
    by_cases hs : e.id ∈ seen
    ·
     rw [List.countP_cons_of_neg (by simp [hs]), List.countP_cons_of_neg (by simp [hs])]
     refine ⟨i1, fun h => i2 ?_⟩
     simp only [List.map_cons, List.mem_cons] at h
     exact h.resolve_left fun h => he h.symm
    ·
     rw [List.countP_cons_of_pos (by simp [hs, he]), List.countP_cons_of_pos (by simp [hs])]
     refine ⟨by omega, fun h => ?_⟩
     simp only [List.map_cons, List.mem_cons] at h
     have := i2 (h.resolve_left fun h => he h.symm)
     omega
 exact (key l).2 hi
theorem Yj3 (l : List Y8x) (seen : List Int) : Yj1 l seen ≤ l.length := List.countP_le_length

structure Walk (g : Y90) : Prop where
 fits : Fits g.events
 ev : ∀ e ∈ g.events, EvOk e

theorem Walk.prev {g : Y90} (h : Walk g) {id : Int} (hi : id ∈ g.events.map (·.id)) : (evD g.events id).prev.length ≤ 4 ∧ ∀ p ∈ (evD g.events id).prev, p ∈ g.events.map (·.id) := by
 obtain ⟨_, h2, _⟩ := Yiu hi h.fits.up
 refine ⟨(h.ev _ h2).prev.1, fun p hp => ?_⟩
 obtain ⟨e, he, hid⟩ := Yeq.1 (h.fits.whole _ h2 p hp)
 exact List.mem_map.2 ⟨e, he, hid⟩

theorem Yj4 {l : List Y8x} {id : Int} : hasE l id = true ↔ id ∈ l.map (·.id) := by rw [Yeq, List.mem_map]

theorem Ziq {g : Y90} (h : Walk g) (a : Int) {e : Y8x} (he : e ∈ g.events) : ∃ b, Ze3 g a e = some b ∧ Bf g.events a [] e.prev b := by
 have hfl := h.fits.len
 have hev : evD g.events e.id = e := by unfold evD; rw [h.fits.up.evAt_mem he]; rfl
 have hpe := h.prev (List.mem_map.2 ⟨e, he, rfl⟩)
 rw [hev] at hpe
 unfold Ze3
 have hcl : Zdy e.prev = some e.prev := by unfold Zdy; rw [chk8 (by omega)]; rfl
 rw [hcl, Option.bind_some]
 obtain ⟨o, h1, h2⟩ := Y4m (step := fun z : List (Int × Bool) × List Int × Int => Ze2 g a z.1 z.2.1 z.2.2) (p := fun o : Bool ⊕ Unit => ∃ b, Bf g.events a [] e.prev b ∧ ((o = .inl true ∧ b = true) ∨ (o = .inr () ∧ b = false)))
  (fun k (z : List (Int × Bool) × List Int × Int) => ∃ (seen : List Int) (at_ : Nat), z.2.2 = (at_ : Int) ∧ at_ ≤ z.2.1.length ∧ (∀ id, Option.getD (mget z.1 id) false = true ↔ id ∈ seen) ∧ (∀ id ∈ z.2.1, id ∈ g.events.map (·.id)) ∧ z.2.1.length + 5 * Yj1 g.events seen ≤ 400 ∧ (∀ b, Bf g.events a seen (z.2.1.drop at_) b → Bf g.events a [] e.prev b) ∧ k = (z.2.1.length - at_) + 5 * Yj1 g.events seen) (by
  rintro k ⟨m, q, x⟩ ⟨seen, at_, hx, hat, hm, hq, hb, hB, hk⟩
  simp only at hx hat hm hq hb hB hk
  subst hx
  simp only [Ze2]
  by_cases hlt : at_ < q.length
  ·
   rw [dlt hlt, cond_true, Ydn hlt, Option.bind_some, beqd]
   rw [List.drop_eq_getElem_cons hlt] at hB
   have hqi := hq _ (List.getElem_mem hlt)
   generalize q[at_] = id at hB hqi
   by_cases ha : id = a
   ·
    left
    rw [decide_eq_true ha, cond_true]
    subst ha
    exact ⟨_, rfl, true, hB _ (.hit _ _), .inl ⟨rfl, rfl⟩⟩
   ·
    right
    rw [decide_eq_false ha, cond_false]
    simp only [Ze1, Ydo hlt (by omega : q.length < 9223372036854775807)]
    by_cases hs : Option.getD (mget m id) false = true
    ·
     rw [hs, cond_true]
     exact ⟨_, k - 1, rfl, by omega, seen, at_ + 1, rfl, by simp only; omega, hm, hq, hb, fun b h => hB b (.skip _ _ _ _ ha ((hm id).1 hs) h), by simp only; omega⟩
    ·
     rw [Bool.eq_false_iff.2 hs, cond_false, c_at _ _ h.fits.up (by omega), Option.bind_some]
     have hns : id ∉ seen := fun h => hs ((hm id).2 h)
     have hp := h.prev hqi
     have hu := Yj2 hqi hns
     have e1 : (evAt g.events id).getD zEv = evD g.events id := rfl
     rw [e1, chk8 (by show q.length + (evD g.events id).prev.length < 1000000000; omega), Option.bind_some]
     refine ⟨_, (q.length + (evD g.events id).prev.length - (at_ + 1)) + 5 * Yj1 g.events (id :: seen), rfl, by omega, id :: seen, at_ + 1, rfl, by simp; omega, fun id' => ?_, fun id' hid => ?_, by simp; omega, fun b h => hB b ?_, by simp⟩
     ·
      rw [Y68]
      by_cases h3 : id' = id
      ·
       rw [if_pos h3]; simp [h3]
      ·
       rw [if_neg h3, hm]; simp [h3]
     ·
      rcases List.mem_append.1 hid with hid | hid
      ·
       exact hq _ hid
      ·
       exact hp.2 _ hid
     ·
      refine .more _ _ _ _ ha hns ?_
      simp only at h
      rwa [List.drop_append_of_le_length (by omega)] at h
  ·
   left
   obtain rfl : at_ = q.length := by omega
   rw [dnlt, cond_false]
   rw [List.drop_length] at hB
   exact ⟨_, rfl, false, hB _ (.nil _), .inr ⟨rfl, rfl⟩⟩) big (e.prev.length + 5 * Yj1 g.events []) ([], e.prev, 0) ⟨[], 0, rfl, by simp, by simp [mget], hpe.2, by have := Yj3 g.events []; simp only; omega, by simp, by simp⟩ (Ydi (by have := Yj3 g.events []; omega))
 obtain ⟨b, hb, h2⟩ := h2
 rw [h1, Option.bind_some]
 rcases h2 with ⟨rfl, rfl⟩ | ⟨rfl, rfl⟩
 ·
  exact ⟨true, rfl, hb⟩
 ·
  exact ⟨false, rfl, hb⟩

theorem Yj5 (e : Y8x) (h : e.prev.length < 1000000) : Z56 e = some e := by
 unfold Z56
 rw [chk8 (by simp; omega), Option.bind_some]
 rfl

theorem Yj6 {g : Y90} (hl : g.events.length < 1000000) {e : Y8x} {id : Int} (he : evAt g.events id = some e) (hp : e.prev.length < 1000000) : Z58 g id = some e := by
 unfold Z58
 obtain ⟨h1, h2⟩ := Yhk he
 rw [Yek _ _ (by omega), Option.bind_some, decide_eq_false (by omega), cond_false, h1, Option.bind_some, Yj5 _ hp]; rfl

theorem Zir {g : Y90} (h : Walk g) (a : Int) (ha : a ∈ g.events.map (·.id)) {e : Y8x} (he : e ∈ g.events) : ∃ b, Z5d g a e.id = some b ∧ Bf g.events a [] e.prev b := by
 have hfl := h.fits.len
 have hee := h.fits.up.evAt_mem he
 have hev : evD g.events e.id = e := by unfold evD; rw [hee]; rfl
 have hpe := h.prev (List.mem_map.2 ⟨e, he, rfl⟩)
 rw [hev] at hpe
 unfold Z5d
 rw [Yek _ _ (by omega), Option.bind_some, Yem, Yj4.2 ha, Yek _ _ (by omega), Option.bind_some, Yem, Yep he]
 simp only [Bool.not_true, cond_false, Z5c]
 rw [Y4k (decide_eq_true ⟨by omega, by omega⟩), Option.bind_some, Yj6 (by omega) hee (by omega), Option.bind_some, chk8 (by simp; omega), Option.bind_some, Int.toNat_natCast, List.nil_append]
 obtain ⟨o, h1, h2⟩ := Y4m (step := fun z : List Bool × List Int => Z5b g a z.1 z.2) (p := fun o : Bool ⊕ Unit => ∃ b, Bf g.events a [] e.prev b ∧ ((o = .inl true ∧ b = true) ∨ (o = .inr () ∧ b = false)))
  (fun k (z : List Bool × List Int) => ∃ (seen : List Int), z.1.length = g.events.length ∧ (∀ id ∈ g.events.map (·.id), getI z.1 (plc g.events id) = some (decide (id ∈ seen))) ∧ (∀ id ∈ z.2, id ∈ g.events.map (·.id)) ∧ z.2.length + 5 * Yj1 g.events seen ≤ 400 ∧ (∀ b, Bf g.events a seen z.2 b → Bf g.events a [] e.prev b) ∧ k = z.2.length + 5 * Yj1 g.events seen) (by
  rintro k ⟨m, q⟩ ⟨seen, hml, hm, hq, hb, hB, hk⟩
  simp only at hml hm hq hb hB hk
  simp only [Z5b]
  cases q with
  | nil =>
   left
   exact ⟨_, rfl, false, hB _ (.nil _), .inr ⟨rfl, rfl⟩⟩
  | cons id r =>
   have hqi := hq id (by simp)
   obtain ⟨i1, i2, i3⟩ := Yiu hqi h.fits.up
   rw [decide_eq_true (by simp <;> omega), cond_true, show (0 : Int) = ((0 : Nat) : Int) from rfl, Ydn (by simp), Option.bind_some, Y4k (decide_eq_true (by simp <;> omega)), Option.bind_some, Yek _ _ (by omega), Option.bind_some]
   simp only [List.getElem_cons_zero, List.length_cons] at hk hb ⊢
   rw [beqd]
   by_cases ha : id = a
   ·
    left
    rw [decide_eq_true ha, cond_true]
    subst ha
    exact ⟨_, rfl, true, hB _ (.hit _ _), .inl ⟨rfl, rfl⟩⟩
   ·
    right
    rw [decide_eq_false ha, cond_false, hm id hqi, Option.bind_some]
    by_cases hs : id ∈ seen
    ·
     rw [decide_eq_true hs, cond_true]
     exact ⟨_, k - 1, rfl, by omega, seen, hml, hm, fun id' h => hq id' (by simp at h; simp [h]), by simp; omega, fun b h => hB b (.skip _ _ _ _ ha hs (by simpa using h)), by simp; omega⟩
    ·
     have hp := h.prev hqi
     have hu := Yj2 hqi hs
     rw [decide_eq_false hs, cond_false, (Yhk i1).1, Option.bind_some, chk8 (by simp; omega), Option.bind_some]
     refine ⟨_, r.length + (evD g.events id).prev.length + 5 * Yj1 g.events (id :: seen), rfl, by omega, id :: seen, by simp [hml], fun id' hid => ?_, fun id' hid => ?_, by simp; omega, fun b h => hB b (.more _ _ _ _ ha hs (by simpa using h)), by simp⟩
     ·
      obtain ⟨p, hpl, p1, p2, p3⟩ := Yen (Yj4.2 hid)
      obtain ⟨p', hpl', p1', p2', p3'⟩ := Yen (Yj4.2 hqi)
      rw [p1, p1', Int.toNat_natCast]
      have hm' := hm id' hid
      rw [p1] at hm'
      by_cases h3 : id' = id
      ·
       subst h3
       obtain rfl : p = p' := by omega
       rw [Ydn (by simp; omega)]
       simp
      ·
       have hne : p' ≠ p := fun h => by subst h; exact h3 (p2.symm.trans p2')
       rw [Ydn (by omega)] at hm'
       rw [Ydn (by simp; omega), List.getElem_set_ne hne]
       rw [hm']
       simp [h3]
     ·
      simp at hid
      rcases hid with hid | hid
      ·
       exact hq _ (by simp [hid])
      ·
       exact hp.2 _ hid) big (e.prev.length + 5 * Yj1 g.events []) (List.replicate g.events.length false, e.prev) ⟨[], by simp, fun id hid => by
   obtain ⟨p, hpl, p1, _, _⟩ := Yen (Yj4.2 hid)
   rw [p1, Ydn (by simpa using hpl)]; simp, hpe.2, by have := Yj3 g.events []; simp only; omega, by simp, by simp⟩ (Ydi (by have := Yj3 g.events []; omega))
 obtain ⟨b, hb, h2⟩ := h2
 rw [h1, Option.bind_some]
 rcases h2 with ⟨rfl, rfl⟩ | ⟨rfl, rfl⟩
 ·
  exact ⟨true, rfl, hb⟩
 ·
  exact ⟨false, rfl, hb⟩

theorem Bf.none {g : Y90} (h : Walk g) {a : Int} (ha : a ∉ g.events.map (·.id)) {seen todo : List Int} {b : Bool} (hb : Bf g.events a seen todo b) (ht : ∀ id ∈ todo, id ∈ g.events.map (·.id)) : b = false := by
 induction hb with
 | nil => rfl
 | hit => exact absurd (ht a (by simp)) ha
 | skip _ _ _ _ _ _ _ ih => exact ih fun id hid => ht id (by simp [hid])
 | more _ r id _ _ _ _ ih =>
  refine ih fun id' hid => ?_
  rcases List.mem_append.1 hid with hid | hid
  ·
   exact ht id' (by simp [hid])
  ·
   exact (h.prev (ht id (by simp))).2 _ hid

theorem Yj7 {g : Y90} (h : Walk g) (a : Int) {e : Y8x} (he : e ∈ g.events) : ∃ b, Z5d g a e.id = some b ∧ Ze3 g a e = some b := by
 obtain ⟨b, h1, h2⟩ := Ziq h a he
 by_cases ha : a ∈ g.events.map (·.id)
 ·
  obtain ⟨b', h3, h4⟩ := Zir h a ha he
  have := h2.det h4
  subst this
  exact ⟨b, h3, h1⟩
 ·
  have hpe := h.prev (List.mem_map.2 ⟨e, he, rfl⟩)
  have hev : evD g.events e.id = e := by unfold evD; rw [h.fits.up.evAt_mem he]; rfl
  rw [hev] at hpe
  have := h2.none h ha hpe.2
  subst this
  refine ⟨false, ?_, h1⟩
  have hfl := h.fits.len
  unfold Z5d
  rw [Yek _ _ (by omega), Option.bind_some, Yem, Bool.eq_false_iff.2 (fun hh => ha (Yj4.1 hh))]
  rfl


def Cons (l : List Y8x) (d : List Int) : Prop := ∀ (i : Nat) (hi : i < l.length), d.getD i 0 > 0 → own l d l[i] = d.getD i 0

theorem Yj8 {l : List Y8x} {d : List Int} {e : Y8x} (h : own l d e > 0) : e.prev.all (fun p => decide (dOf l d p > 0)) = true := by
 unfold own at h
 split at h
 ·
  assumption
 ·
  omega

theorem Yj9 {f g : Int → Int → Int} : ∀ {l : List Int} {m : Int}, (∀ m, ∀ p ∈ l, f m p = g m p) → l.foldl f m = l.foldl g m
 | [], _, _ => rfl
 | p :: l, m, h => by rw [List.foldl_cons, List.foldl_cons, h m p (by simp)]; exact Yj9 fun m q hq => h m q (by simp [hq])

theorem Yja {l : List Y8x} {d : List Int} (hd : d.length = l.length) (hw : Yf3 l) {i : Nat} {v : Int} (h0 : d.getD i 0 = 0) {e : Y8x} (he : e ∈ l) (h : own l d e > 0) : own l (d.set i v) e = own l d e := by
 have hp := Yj8 h
 have hsame : ∀ p ∈ e.prev, dOf l (d.set i v) p = dOf l d p := fun p hp' => by
  have h1 := of_decide_eq_true (List.all_eq_true.1 hp p hp')
  obtain ⟨k, hk, k1, _, _⟩ := Yen (hw e he p hp')
  unfold dOf at h1 ⊢
  rw [k1] at h1 ⊢
  have hkd : k < d.length := by omega
  rw [Ydn hkd] at h1
  rw [Ydn (by simpa using hkd), Ydn hkd]
  by_cases hik : i = k
  ·
   subst hik
   simp only [List.getD_eq_getElem?_getD, List.getElem?_eq_getElem hkd, Option.getD_some] at h0
   simp only [Option.getD_some] at h1
   omega
  ·
   rw [List.getElem_set_ne hik]
 unfold own
 have e1 : e.prev.all (fun p => decide (dOf l (d.set i v) p > 0)) = e.prev.all (fun p => decide (dOf l d p > 0)) := by
  rw [Bool.eq_iff_iff, List.all_eq_true, List.all_eq_true]
  constructor
  ·
   intro h2 p hp'; have := h2 p hp'; rwa [hsame p hp'] at this
  ·
   intro h2 p hp'; rw [hsame p hp']; exact h2 p hp'
 rw [e1, Yj9 fun m p hp' => by rw [hsame p hp']]

theorem Cons.upd {l : List Y8x} {d : List Int} {c i : Nat} (hw : Yf3 l) (hb : Bd l c d) (hi : i < l.length) (h : Cons l d) : Cons l (updD l d i) := by
 rcases Yfd hb hi with h1 | ⟨h1, h2, h3, _⟩
 ·
  rw [h1]; exact h
 ·
  rw [h3]
  have e2 : l.getD i zEv = l[i] := by simp [hi]
  rw [e2] at h2 ⊢
  intro j hj hpos
  have hjd : j < d.length := by rw [hb.len]; exact hj
  have hid : i < d.length := by rw [hb.len]; exact hi
  by_cases hij : i = j
  ·
   subst hij
   rw [Yja hb.len hw h1 (List.getElem_mem hi) h2]
   simp [hid]
  ·
   have e3 : (d.set i (own l d l[i])).getD j 0 = d.getD j 0 := by
    simp only [List.getD_eq_getElem?_getD, List.getElem?_set_ne hij]
   rw [e3] at hpos ⊢
   have h4 := h j hj hpos
   rw [Yja hb.len hw h1 (List.getElem_mem hj) (by omega)]
   exact h4

theorem Cons.sweep {l : List Y8x} {d : List Int} {c : Nat} (hw : Yf3 l) (hb : Bd l c d) (h : Cons l d) : Cons l (sweep l d) := by
 unfold Go.Proofs.YtbgichfjcnibpaaGreat.sweep
 suffices key : ∀ (r : List Nat) (c : Nat) (d : List Int), (∀ i ∈ r, i < l.length) → Bd l c d → Cons l d → Cons l (r.foldl (updD l) d) from key _ c d (fun i hi => by simpa using hi) hb h
 intro r
 induction r with
 | nil => intro c d _ _ h; exact h
 | cons i r ih =>
  intro c d hr hb h
  rw [List.foldl_cons]
  exact ih (c + 1) _ (fun j hj => hr j (by simp [hj])) (Yf9 hw hb (hr i (by simp))) (h.upd hw hb (hr i (by simp)))

theorem Yjb {l : List Y8x} (hf : Fits l) : Cons l (Yf5 l) := by
 unfold Yf5
 have hz : Bd l 0 (List.replicate l.length 0) := ⟨by simp, fun x hx => by rw [List.eq_of_mem_replicate hx]; simp⟩
 have key : ∀ k, k ≤ l.length → Cons l (Yf4 l k (List.replicate l.length 0)) := by
  intro k
  induction k with
  | zero =>
   intro _ i hi h
   simp [Yf4, hi] at h
  | succ k ih =>
   intro hk
   exact (ih (by omega)).sweep hf.whole (Yfh hf hz k (by omega))
 exact key _ (Nat.le_refl _)

theorem Yjc (a b : Int) : a ≤ mx2 a b ∧ b ≤ mx2 a b := by unfold mx2; split <;> omega
theorem Yjd {l : List Y8x} (hf : Fits l) (hd : Deep l) {e : Y8x} (he : e ∈ l) {p : Int} (hp : p ∈ e.prev) : dOf l (Yf5 l) p < dOf l (Yf5 l) e.id := by
 obtain ⟨i, hi, rfl⟩ := List.mem_iff_getElem.1 he
 have hb := (Yfb hf).2
 have hid : i < (Yf5 l).length := by rw [hb.len]; exact hi
 have e1 : dOf l (Yf5 l) l[i].id = (Yf5 l)[i] := by
  unfold dOf
  rw [(hf.up.plc hi).1, Ydn hid]; rfl
 have e2 : (Yf5 l).getD i 0 = (Yf5 l)[i] := by simp [hid]
 have hpos := hd _ (List.getElem_mem hid)
 have hc := Yjb hf i hi (by rw [e2]; exact hpos)
 rw [e2] at hc
 rw [e1]
 have ha := Yj8 (l := l) (d := Yf5 l) (e := l[i]) (by omega)
 unfold own at hc
 rw [if_pos ha] at hc
 have hmx : ∀ (ps : List Int) (m : Int), p ∈ ps → dOf l (Yf5 l) p ≤ ps.foldl (fun m p => mx2 m (dOf l (Yf5 l) p)) m := by
  intro ps
  have hmono : ∀ (ps : List Int) (m : Int), m ≤ ps.foldl (fun m p => mx2 m (dOf l (Yf5 l) p)) m := by
   intro ps
   induction ps with
   | nil => intro m; exact Int.le_refl _
   | cons q ps ih => intro m; rw [List.foldl_cons]; have := ih (mx2 m (dOf l (Yf5 l) q)); have := (Yjc m (dOf l (Yf5 l) q)).1; omega
  induction ps with
  | nil => intro m h; cases h
  | cons q ps ih =>
   intro m h
   rw [List.foldl_cons]
   rcases List.mem_cons.1 h with rfl | h
   ·
    have := hmono ps (mx2 m (dOf l (Yf5 l) p)); have := (Yjc m (dOf l (Yf5 l) p)).2; omega
   ·
    exact ih _ h
 have := hmx _ 0 hp
 omega
end Go.Proofs.YtbgichfjcnibpaaGreat
namespace Go.Proofs.YtbgichfjcnibpaaGreat
open Go Go.Abs

theorem Yje {τ1 τ2 ω1 ω2 σ1 σ2 : Type} {step1 : τ1 → Option (τ1 ⊕ ω1)} {step2 : τ2 → Option (τ2 ⊕ ω2)} {n : Nat} (emb1 : σ1 → Int → τ1) (emb2 : σ2 → Int → τ2) (I : Nat → σ1 → σ2 → Prop) (Q : ω1 → ω2 → Prop) (hn : n < 9223372036854775807)
  (h1 : ∀ (i : Nat) (s : σ1) (t : σ2), i < n → I i s t → ∃ s' t', step1 (emb1 s i) = some (.inl (emb1 s' ((i + 1 : Nat) : Int))) ∧ step2 (emb2 t i) = some (.inl (emb2 t' ((i + 1 : Nat) : Int))) ∧ I (i + 1) s' t')
  (h2 : ∀ s t, I n s t → ∃ o o', step1 (emb1 s n) = some (.inr o) ∧ step2 (emb2 t n) = some (.inr o') ∧ Q o o') {s : σ1} {t : σ2} (h0 : I 0 s t) :
  ∃ o o', iter step1 big (emb1 s 0) = some o ∧ iter step2 big (emb2 t 0) = some o' ∧ Q o o' := by
 have key : ∀ m i k : Nat, ∀ s t, i + m = n → m < k → I i s t → ∃ o o', iter step1 k (emb1 s i) = some o ∧ iter step2 k (emb2 t i) = some o' ∧ Q o o' := by
  intro m
  induction m with
  | zero =>
   intro i k s t hm hk hi
   obtain ⟨k, rfl⟩ : ∃ k', k = k' + 1 := ⟨k - 1, by omega⟩
   obtain rfl : i = n := by omega
   obtain ⟨o, o', e1, e2, hq⟩ := h2 s t hi
   exact ⟨o, o', by rw [iter, e1]; rfl, by rw [iter, e2]; rfl, hq⟩
  | succ m ih =>
   intro i k s t hm hk hi
   obtain ⟨k, rfl⟩ : ∃ k', k = k' + 1 := ⟨k - 1, by omega⟩
   obtain ⟨s', t', e1, e2, hi'⟩ := h1 i s t (by omega) hi
   obtain ⟨o, o', f1, f2, hq⟩ := ih (i + 1) k s' t' (by omega) (by omega) hi'
   exact ⟨o, o', by rw [iter, e1]; exact f1, by rw [iter, e2]; exact f2, hq⟩
 exact key n 0 big s t (by omega) (Ydi (by omega)) h0


theorem Yjf {l : List Y8x} {k : Nat} (hk : k < l.length) : idPl l (k : Int) = l[k].id := by unfold idPl; simp [hk]
theorem Yjg {l : List Y8x} (hf : Fits l) {k : Nat} (hk : k < l.length) : dd (Yf5 l) (k : Int) = dOf l (Yf5 l) l[k].id := by
 have hb := (Yfb hf).2
 have hkd : k < (Yf5 l).length := by rw [hb.len]; exact hk
 unfold dd dOf
 rw [(hf.up.plc hk).1, Ydn hkd]
 simp [hkd]

theorem Yjh {l : List Y8x} (hf : Fits l) {k : Nat} (hk : k < l.length) : (k : Int) ∈ Ygd l := by
 refine (Ygf hf).2.1.mem_iff.2 ?_
 unfold idt
 exact List.mem_map.2 ⟨k, List.mem_range'_1.2 ⟨by omega, by omega⟩, rfl⟩

theorem Yji {l : List Y8x} (hf : Fits l) : (Yge l).length = l.length := by unfold Yge; rw [List.length_map, Ygh hf]
theorem Yjj {l : List Y8x} (hf : Fits l) {id : Int} : id ∈ Yge l ↔ id ∈ l.map (·.id) := by
 unfold Yge
 rw [List.mem_map, List.mem_map]
 constructor
 ·
  rintro ⟨x, hx, rfl⟩
  obtain ⟨k, rfl, hk⟩ := Ygg hf hx
  exact ⟨l[k], List.getElem_mem hk, (Yjf hk).symm⟩
 ·
  rintro ⟨e, he, rfl⟩
  obtain ⟨k, hk, rfl⟩ := List.mem_iff_getElem.1 he
  exact ⟨(k : Int), Yjh hf hk, Yjf hk⟩
theorem Yjk {l : List Y8x} (hf : Fits l) : (Yge l).Nodup := by
 unfold Yge
 rw [List.nodup_iff_pairwise_ne, List.pairwise_map]
 refine List.Pairwise.imp_of_mem (fun {a b} ha hb hab he => ?_) (Ygf hf).2.2
 obtain ⟨i, rfl, hi⟩ := Ygg hf ha
 obtain ⟨j, rfl, hj⟩ := Ygg hf hb
 rw [Yjf hi, Yjf hj] at he
 obtain rfl := hf.up.inj hi hj he
 unfold Lt2 at hab; omega

theorem Yjl {l : List Y8x} {i : Nat} (h1 : i < (Ygd l).length) (h2 : i < (Yge l).length) : (Yge l)[i] = idPl l (Ygd l)[i] := List.getElem_map _
theorem Yjm {l : List Y8x} (hf : Fits l) (hd : Deep l) {i : Nat} (hi : i < (Yge l).length) {e : Y8x} (he : evAt l (Yge l)[i] = some e) {p : Int} (hp : p ∈ e.prev) : p ∈ (Yge l).take i := by
 obtain ⟨hel, hid⟩ := Yer he
 obtain ⟨f, hfl, hfid⟩ := Yeq.1 (hf.whole e hel p hp)
 obtain ⟨k, hk, rfl⟩ := List.mem_iff_getElem.1 hfl
 obtain ⟨u, hu, huk⟩ := List.mem_iff_getElem.1 (Yjh hf hk)
 have hlt := Yjd hf hd hel hp
 have hil : i < (Ygd l).length := by rw [Ygh hf]; rw [Yji hf] at hi; exact hi
 obtain ⟨x, hx, hxl⟩ := Ygg hf (List.getElem_mem hil)
 have e1 : (Yge l)[i] = l[x].id := by
  rw [Yjl hil hi, hx, Yjf hxl]
 have d1 := Yjg hf hxl
 have d2 := Yjg hf hk
 rw [← e1, ← hid] at d1
 rw [hfid] at d2
 have hui : u < i := by
  rcases Nat.lt_trichotomy u i with h | h | h
  ·
   exact h
  ·
   subst h
   rw [hx] at huk
   have : x = k := by omega
   subst this
   omega
  ·
   have := List.pairwise_iff_getElem.1 (Ygf hf).2.2 i u hil hu h
   rw [hx, huk] at this
   unfold Lt2 at this; omega
 have hul : u < (Yge l).length := by omega
 have e2 : (Yge l)[u] = p := by
  rw [Yjl hu hul, huk, Yjf hk, hfid]
 have : ((Yge l).take i)[u]'(by simp; omega) = p := by simp [e2]
 rw [← this]
 exact List.getElem_mem _


def Yjn (g : Y90) (a : Int) (e : Y8x) : Bool := (Ze3 g a e).getD false
def Yjo (g : Y90) (s : List Y92) (e : Y8x) : Int := if alw g s e = 0 ∧ e.kind = 8 ∧ Yjn g e.key e = false then 6 else alw g s e
def Yjp (g : Y90) (s : List Y92) (e : Y8x) : List Y92 := if Yjo g s e = 0 ∧ e.kind ≤ 6 then putE s e else s

theorem Yjq {g : Y90} (hu : Up2 g.events) {s : List Y92} (hs : StOk g.events s) {e : Y8x} (he : e ∈ g.events) : StOk g.events (Yjp g s e) := by
 unfold Yjp
 split
 ·
  exact hs.put (hu.evAt_mem he)
 ·
  exact hs

structure Yjr (g : Y90) (ls : Int → List Y92) (B A : List (Int × List Y92)) (R : List (Int × Int)) (ah bh : List (List Y92)) (cd : List Int) (e : Y8x) : Prop where
 ok : StOk g.events (Yiy g (e.prev.map ls))
 mB : mget B e.id = some (Yiy g (e.prev.map ls))
 mR : mget R e.id = some (Yjo g (Yiy g (e.prev.map ls)) e)
 mA : mget A e.id = some (Yjp g (Yiy g (e.prev.map ls)) e)
 ga : getI ah (plc g.events e.id) = some (Yiy g (e.prev.map ls))
 gc : getI cd (plc g.events e.id) = some (Yjo g (Yiy g (e.prev.map ls)) e)
 gb : getI bh (plc g.events e.id) = some (Yjp g (Yiy g (e.prev.map ls)) e)

def behI (A : List (Int × List Y92)) (id : Int) : List Y92 := Option.getD (mget A id) []

structure Yjs (g : Y90) : Prop where
 fits : Fits g.events
 ev : ∀ e ∈ g.events, EvOk e
 deep : Deep g.events
theorem GOk.right {g : Y90} (h : GOk g) : Yjs g := ⟨h.fits, fun e he => (h.ev e he).1, h.deep⟩
theorem Yjs.walk {g : Y90} (h : Yjs g) : Walk g := ⟨h.fits, h.ev⟩

theorem Yjt {g : Y90} (h : Yjs g) (a : Int) {e : Y8x} (he : e ∈ g.events) : Z5d g a e.id = some (Yjn g a e) ∧ Ze3 g a e = some (Yjn g a e) := by
 obtain ⟨b, h1, h2⟩ := Yj7 h.walk a he
 unfold Yjn
 rw [h1, h2]
 exact ⟨rfl, rfl⟩

theorem Yju {α : Type} {l : List α} {k j : Nat} {v : α} (hk : k < l.length) : getI (l.set k v) (j : Int) = if j = k then some v else getI l (j : Int) := by
 have h0 : (0 : Int) ≤ (j : Int) := by omega
 simp only [getI, h0, if_true, Int.toNat_natCast]
 by_cases h : j = k
 ·
  subst h; rw [if_pos rfl, List.getElem?_set_self hk]
 ·
  rw [if_neg h, List.getElem?_set_ne (by omega)]

theorem Zis {h : Y95} (hr : Yjs h.graph) (hk : Yiz h) {e : Y8x} (he : e ∈ h.graph.events) (hpl : ∀ p ∈ e.prev, StOk h.graph.events (behI h.after p)) :
  Ze8 h e = some (mset h.before e.id (Yiy h.graph (e.prev.map (behI h.after))), mset h.after e.id (Yjp h.graph (Yiy h.graph (e.prev.map (behI h.after))) e), mset h.refused e.id (Yjo h.graph (Yiy h.graph (e.prev.map (behI h.after))) e)) := by
 have hp4 := (hr.ev e he).prev.1
 have hst : Zbj h e.prev = some (e.prev.map (behI h.after)) := by
  unfold Zbj
  have := Ye4 (l := e.prev) (step := fun z : List (List Y92) × Int => Zbi h e.prev z.1 z.2) (fun q j => (q, j)) (fun q => q) (fun q p => q ++ [behI h.after p]) (fun i q => q.length = i) (by omega) (fun i q hi hq => by
   refine ⟨?_, by simp [hq]⟩
   simp only [Zbi]
   rw [dlt hi, cond_true, Ydn hi, Option.bind_some, Yh1 (by simp; omega), Option.bind_some, Ydo hi (by omega)]; rfl)
   (fun q _ => by simp only [Zbi]; rw [dnlt, cond_false]) (s := []) rfl
  have e1 : ∀ (r : List Int) (q : List (List Y92)), r.foldl (fun q p => q ++ [behI h.after p]) q = q ++ r.map (behI h.after) := by
   intro r
   induction r with
   | nil => intro q; simp
   | cons p r ih => intro q; rw [List.foldl_cons, ih]; simp
  rw [this.1, e1]; rfl
 have hm : Mrg h.graph (e.prev.map (behI h.after)) := ⟨hr.fits, hr.ev, hr.deep, fun s hs => by obtain ⟨p, hp, rfl⟩ := List.mem_map.1 hs; exact hpl p hp, by simp; omega⟩
 obtain ⟨_, c2, c3⟩ := Yj0 hm hk
 unfold Ze8
 rw [hst, Option.bind_some, c2, Option.bind_some, (Yhv (hm.sts c3) (hr.ev e he).ask).2, Option.bind_some, (Yjt hr _ he).2, beqd, beqd]
 have hsl := hm.slen c3
 generalize Yiy h.graph (e.prev.map (behI h.after)) = s at c3 hsl
 have hid := (hr.ev e he).id.1
 have hput := Yhf c3.up (Y92.mk e.kind e.key e.id) (by simp only; omega) (by omega)
 simp only [Ze7, Ze6, Ze5, Option.bind_some, hput, Y69, beqd]
 unfold Yjp Yjo putE
 by_cases h1 : alw h.graph s e = 0
 ·
  by_cases h2 : e.kind = 8
  ·
   cases h3 : Yjn h.graph e.key e with
   | false => simp [h1, h2]
   | true => simp [h1, h2]
  ·
   by_cases h4 : e.kind ≤ 6
   ·
    simp [h1, h2, h4]
   ·
    simp [h1, h2, h4]
 ·
  simp [h1]
end Go.Proofs.YtbgichfjcnibpaaGreat
namespace Go.Proofs.YtbgichfjcnibpaaGreat
open Go Go.Abs

theorem Yjv {α β : Type} (f : α → β) : ∀ (r : List α) (q : List β), r.foldl (fun q p => q ++ [f p]) q = q ++ r.map f
 | [], q => by simp
 | p :: r, q => by rw [List.foldl_cons, Yjv f r]; simp

theorem Zit {g : Y90} (hr : Yjs g) {od : List Int} {ah bh : List (List Y92)} {cd : List Int} (ls : Int → List Y92) {i : Nat} (hi : i < od.length) (hil : i < g.events.length) {k : Nat} (hk : k < g.events.length) (hid : od[i] = g.events[k].id)
  (la : ah.length = g.events.length) (lb : bh.length = g.events.length) (lc : cd.length = g.events.length) (hpl : ∀ p ∈ g.events[k].prev, StOk g.events (ls p) ∧ getI bh (plc g.events p) = some (ls p)) :
  Z5m g (Yf5 g.events) od ah bh cd (i : Int) = some (.inl (ah.set k (Yiy g (g.events[k].prev.map ls)), bh.set k (Yjp g (Yiy g (g.events[k].prev.map ls)) g.events[k]), cd.set k (Yjo g (Yiy g (g.events[k].prev.map ls)) g.events[k]), ((i + 1 : Nat) : Int))) := by
 have hfl := hr.fits.len
 have he : g.events[k] ∈ g.events := List.getElem_mem hk
 have hev := hr.ev _ he
 have hp4 := hev.prev.1
 have hplc := (hr.fits.up.plc hk).1
 simp only [Z5m]
 rw [dlt hil, cond_true, Ydn hi, Option.bind_some, hid, Yek _ _ (by omega), Option.bind_some, hplc, Ydn hk, Option.bind_some]
 generalize g.events[k] = e at *
 have h7 := Ye4 (l := e.prev) (step := fun z : List (List Y92) × Int => Z5l g bh e z.1 z.2) (fun q j => (q, j)) (fun q => q) (fun q p => q ++ [ls p]) (fun i q => q.length = i) (by omega) (fun i q hi hq => by
  refine ⟨?_, by simp [hq]⟩
  simp only [Z5l]
  rw [dlt hi, cond_true, Ydn hi, Option.bind_some, Yek _ _ (by omega), Option.bind_some, (hpl _ (List.getElem_mem hi)).2, Option.bind_some, Yh1 (by simp; omega), Option.bind_some, Ydo hi (by omega)])
  (fun q _ => by simp only [Z5l]; rw [dnlt, cond_false]) (s := []) rfl
 rw [h7.1, Yjv, Option.bind_some, List.nil_append]
 have hm : Mrg g (e.prev.map ls) := ⟨hr.fits, hr.ev, hr.deep, fun s hs => by obtain ⟨p, hp, rfl⟩ := List.mem_map.1 hs; exact (hpl p hp).1, by simp; omega⟩
 -- any history that knows the depths
 have hkn : Yiz (Y95.mk g (g.events.map fun e => (e.id, dmR g.events e)) [] [] []) := by
  intro e' he'
  have key : ∀ l : List Y8x, e' ∈ l → mget (l.map fun e => (e.id, dmR g.events e)) e'.id = some (dmR g.events e') := by
   intro l
   induction l with
   | nil => intro h; cases h
   | cons f l ih =>
    intro h
    simp only [List.map_cons, mget]
    by_cases hf : e'.id = f.id
    ·
     rw [if_pos hf]
     unfold dmR
     rw [hf]
    ·
     rw [if_neg hf]
     rcases List.mem_cons.1 h with rfl | h
     ·
      exact absurd rfl hf
     ·
      exact ih h
  exact key _ he'
 obtain ⟨c1, _, c3⟩ := Yj0 (h := Y95.mk g (g.events.map fun e => (e.id, dmR g.events e)) [] [] []) hm hkn
 simp only at c1 c3
 simp only [Z5k]
 rw [c1, Option.bind_some, Ydn (by omega : k < ah.length), Option.bind_some, Int.toNat_natCast, Yju (by omega), if_pos rfl, Option.bind_some, (Yhv (hm.sts c3) hev.ask).1, Option.bind_some, Ydn (by omega : k < cd.length), Option.bind_some, Yju (by omega), if_pos rfl, Option.bind_some, (Yjt hr _ he).1, beqd, beqd]
 have hsl := hm.slen c3
 generalize Yiy g (e.prev.map ls) = s at c3 hsl
 have hput := Yh4 c3.up (Y92.mk e.kind e.key e.id) (by omega)
 have w1 : IntKind.i64.wrap ((i : Int) + 1) = ((i + 1 : Nat) : Int) := Ydo hil (by omega)
 simp only [Z5j, Z5i, Z5h, Z5g, Int.toNat_natCast, hput, List.nil_append]
 rw [Yh1 (by simp; omega)]
 have hgb : ∀ v : List Y92, getI (bh.set k v) (k : Int) = some v := fun v => by rw [Yju (by omega), if_pos rfl]
 have hgc : ∀ v : Int, getI (cd.set k v) (k : Int) = some v := fun v => by rw [Yju (by omega), if_pos rfl]
 have hgb0 := Ydn (by omega : k < bh.length)
 simp only [Option.bind_some, hgb, hgc, hgb0, w1, List.set_set, beqd]
 unfold Yjp Yjo putE
 by_cases h1 : alw g s e = 0
 ·
  by_cases h2 : e.kind = 8
  ·
   cases h3 : Yjn g e.key e with
   | false => simp [h1, h2, hgc]
   | true => simp [h1, h2, hgc]
  ·
   by_cases h4 : e.kind ≤ 6
   ·
    simp [h1, h2, h4, hgc]
   ·
    simp [h1, h2, h4, hgc]
 ·
  simp [h1, hgc]

structure Both (g : Y90) (h : Y95) (w : Y93) : Prop where
 graph : h.graph = g
 depth : Yiz h
 depths : w.depths = Yf5 g.events
 la : w.ahead.length = g.events.length
 lb : w.behind.length = g.events.length
 lc : w.code.length = g.events.length
 all : ∀ e ∈ g.events, Yjr g (behI h.after) h.before h.after h.refused w.ahead w.behind w.code e

theorem Yjw {A : List (Int × List Y92)} {id p : Int} {t : List Y92} (h : p ≠ id) : behI (mset A id t) p = behI A p := by
 unfold behI; rw [Y68, if_neg h]

theorem Yjx {g : Y90} (hr : Yjs g) : ∃ h w, Zee g = some h ∧ Z5o g = some w ∧ Both g h w := by
 have hfl := hr.fits.len
 obtain ⟨e0, hb⟩ := Yfb hr.fits
 have hol := Yji hr.fits
 -- the depths
 obtain ⟨m, hm1, hm2⟩ : ∃ m, iter (fun z : List (Int × Int) × Int => Zed g (Yf5 g.events, decide (Yfc (Yf5 g.events) = 0)) z.1 z.2) big ([], 0) = some m ∧ ∀ e ∈ g.events, mget m e.id = some (dmR g.events e) := by
  obtain ⟨o, h1, h2⟩ := Ydl (τ := List (Int × Int) × Int) (ω := List (Int × Int)) (σ := List (Int × Int)) (step := fun z : List (Int × Int) × Int => Zed g (Yf5 g.events, decide (Yfc (Yf5 g.events) = 0)) z.1 z.2) (n := g.events.length) (fun s j => (s, j))
   (fun i s => ∀ (j : Nat) (hj : j < g.events.length), j < i → mget s g.events[j].id = some (dmR g.events g.events[j])) (fun o => ∀ (j : Nat) (hj : j < g.events.length), mget o g.events[j].id = some (dmR g.events g.events[j])) (by omega) (by
   intro i s hi hI
   have hid : i < (Yf5 g.events).length := by rw [hb.len]; exact hi
   refine ⟨mset s g.events[i].id (Yf5 g.events)[i], ?_, fun j hj hji => ?_⟩
   ·
    simp only [Zed]
    rw [dlt hi, cond_true, Ydn hi, Option.bind_some, Ydn hid, Option.bind_some, Ydo hi (by omega)]
   ·
    rw [Y68]
    by_cases he : g.events[j].id = g.events[i].id
    ·
     rw [if_pos he]
     obtain rfl := hr.fits.up.inj hj hi he
     unfold dmR dOf
     rw [(hr.fits.up.plc hj).1, Ydn hid]; rfl
    ·
     rw [if_neg he]
     exact hI j hj (by
      rcases Nat.lt_or_ge j i with h | h
      ·
       exact h
      ·
       obtain rfl : j = i := by omega
       exact absurd rfl he)) (by
   intro s hI
   simp only [Zed]
   rw [dnlt, cond_false]
   exact ⟨s, rfl, fun j hj => hI j hj hj⟩) (s := []) (fun j hj h => by omega)
  refine ⟨o, h1, fun e he => ?_⟩
  obtain ⟨j, hj, rfl⟩ := List.mem_iff_getElem.1 he
  exact h2 j hj
 -- the states
 have hpos : ∀ i, (hi : i < (Yge g.events).length) → ∃ k, ∃ hk : k < g.events.length, (Yge g.events)[i] = g.events[k].id := fun i hi => by
  obtain ⟨e, he, h1⟩ := List.mem_map.1 ((Yjj hr.fits).1 (List.getElem_mem hi))
  obtain ⟨k, hk, rfl⟩ := List.mem_iff_getElem.1 he
  exact ⟨k, hk, h1.symm⟩
 obtain ⟨⟨B, A, R⟩, ⟨ah, bh, cd⟩, q1, q2, la, lb, lc, hall⟩ := Yje (step1 := fun z : List (Int × List Y92) × List (Int × List Y92) × List (Int × Int) × Int => Zeb g m (Yge g.events) z.1 z.2.1 z.2.2.1 z.2.2.2) (step2 := fun z : List (List Y92) × List (List Y92) × List Int × Int => Z5m g (Yf5 g.events) (Yge g.events) z.1 z.2.1 z.2.2.1 z.2.2.2) (n := g.events.length)
  (fun (s : List (Int × List Y92) × List (Int × List Y92) × List (Int × Int)) j => (s.1, s.2.1, s.2.2, j)) (fun (s : List (List Y92) × List (List Y92) × List Int) j => (s.1, s.2.1, s.2.2, j))
  (fun i s t => t.1.length = g.events.length ∧ t.2.1.length = g.events.length ∧ t.2.2.length = g.events.length ∧ ∀ e ∈ g.events, e.id ∈ (Yge g.events).take i → Yjr g (behI s.2.1) s.1 s.2.1 s.2.2 t.1 t.2.1 t.2.2 e)
  (fun (s : List (Int × List Y92) × List (Int × List Y92) × List (Int × Int)) (t : List (List Y92) × List (List Y92) × List Int) => t.1.length = g.events.length ∧ t.2.1.length = g.events.length ∧ t.2.2.length = g.events.length ∧ ∀ e ∈ g.events, Yjr g (behI s.2.1) s.1 s.2.1 s.2.2 t.1 t.2.1 t.2.2 e) (by omega) (by
  rintro i ⟨B, A, R⟩ ⟨ah, bh, cd⟩ hi ⟨la, lb, lc, hI⟩
  simp only at la lb lc hI ⊢
  have hio : i < (Yge g.events).length := by omega
  obtain ⟨k, hk, hid⟩ := hpos i hio
  have he : g.events[k] ∈ g.events := List.getElem_mem hk
  have hevat : evAt g.events (Yge g.events)[i] = some g.events[k] := by rw [hid]; exact (hr.fits.up.plc hk).2
  have hprev : ∀ p ∈ g.events[k].prev, ∃ f ∈ g.events, f.id = p ∧ p ∈ (Yge g.events).take i := fun p hp => by
   obtain ⟨f, hf, hfid⟩ := Yeq.1 (hr.fits.whole _ he p hp)
   exact ⟨f, hf, hfid, Yjm hr.fits hr.deep hio hevat hp⟩
  have hknow : ∀ p ∈ g.events[k].prev, StOk g.events (behI A p) ∧ getI bh (plc g.events p) = some (behI A p) := fun p hp => by
   obtain ⟨f, hf, hfid, ht⟩ := hprev p hp
   subst hfid
   have hk := hI f hf ht
   have e1 : behI A f.id = Yjp g (Yiy g (f.prev.map (behI A))) f := by
    show Option.getD (mget A f.id) [] = _
    rw [hk.mA]; rfl
   rw [e1]
   exact ⟨Yjq hr.fits.up hk.ok hf, hk.gb⟩
  have hks : Yiz (Y95.mk g m B A R) := hm2
  have s1 := Zis (h := Y95.mk g m B A R) hr hks he (fun p hp => (hknow p hp).1)
  have s2 := Zit hr (od := Yge g.events) (ah := ah) (bh := bh) (cd := cd) (behI A) hio hi hk hid la lb lc hknow
  have hm : Mrg g (g.events[k].prev.map (behI A)) := ⟨hr.fits, hr.ev, hr.deep, fun s hs => by obtain ⟨p, hp, rfl⟩ := List.mem_map.1 hs; exact (hknow p hp).1, by have := (hr.ev _ he).prev.1; simp; omega⟩
  have hsok := (Yj0 (h := Y95.mk g m B A R) hm hks).2.2
  simp only at s1 hsok
  refine ⟨(mset B g.events[k].id (Yiy g (g.events[k].prev.map (behI A))), mset A g.events[k].id (Yjp g (Yiy g (g.events[k].prev.map (behI A))) g.events[k]), mset R g.events[k].id (Yjo g (Yiy g (g.events[k].prev.map (behI A))) g.events[k])), (ah.set k (Yiy g (g.events[k].prev.map (behI A))), bh.set k (Yjp g (Yiy g (g.events[k].prev.map (behI A))) g.events[k]), cd.set k (Yjo g (Yiy g (g.events[k].prev.map (behI A))) g.events[k])), ?_, s2, by simp [la], by simp [lb], by simp [lc], ?_⟩
  ·
   simp only [Zeb]
   rw [dlt hio, cond_true, Ydn hio, Option.bind_some, c_at _ _ hr.fits.up (by omega), hevat, Option.bind_some]
   simp only [Option.getD_some]
   rw [s1, Option.bind_some, Ydo hio (by omega)]
  ·
   intro e hem het
   have hself : ∀ p ∈ g.events[k].prev, p ≠ g.events[k].id := fun p hp => ((hr.ev _ he).prev.2.1 p hp).2.2
   have hpk := (hr.fits.up.plc hk).1
   by_cases hek : e = g.events[k]
   ·
    subst hek
    have e1 : g.events[k].prev.map (behI (mset A g.events[k].id (Yjp g (Yiy g (g.events[k].prev.map (behI A))) g.events[k]))) = g.events[k].prev.map (behI A) := List.map_congr_left fun p hp => Yjw (hself p hp)
    refine ⟨?_, ?_, ?_, ?_, ?_, ?_, ?_⟩
    ·
     simp only [e1]; exact hsok
    ·
     simp only [e1]; rw [Y68, if_pos rfl]
    ·
     simp only [e1]; rw [Y68, if_pos rfl]
    ·
     simp only [e1]; rw [Y68, if_pos rfl]
    ·
     simp only [e1]; rw [hpk, Yju (by omega), if_pos rfl]
    ·
     simp only [e1]; rw [hpk, Yju (by omega), if_pos rfl]
    ·
     simp only [e1]; rw [hpk, Yju (by omega), if_pos rfl]
   ·
    have hne : e.id ≠ g.events[k].id := fun h => hek (by
     obtain ⟨j, hj, rfl⟩ := List.mem_iff_getElem.1 hem
     obtain rfl := hr.fits.up.inj hj hk h
     rfl)
    have het' : e.id ∈ (Yge g.events).take i := by
     rw [List.take_add_one, List.getElem?_eq_getElem hio, hid] at het
     rcases List.mem_append.1 het with h | h
     ·
      exact h
     ·
      simp at h; exact absurd h hne
    obtain ⟨j, hj, hji, hje⟩ := Yft het'
    have hpn : ∀ p ∈ e.prev, p ≠ g.events[k].id := fun p hp hpe => by
     have h1 := Yjm hr.fits hr.deep hj (e := e) (by rw [hje]; exact hr.fits.up.evAt_mem hem) hp
     obtain ⟨u, hu, huj, hue⟩ := Yft h1
     have : u = i := by
      have hnd := Yjk hr.fits
      exact (List.getElem_inj (h₀ := hu) (h₁ := hio) hnd).1 (by rw [hue, hpe, hid])
     omega
    have e1 : e.prev.map (behI (mset A g.events[k].id (Yjp g (Yiy g (g.events[k].prev.map (behI A))) g.events[k]))) = e.prev.map (behI A) := List.map_congr_left fun p hp => Yjw (hpn p hp)
    have hK := hI e hem het'
    obtain ⟨ke, hke, hkp, _, _⟩ := Yen (Yep hem)
    have hkk : ke ≠ k := fun h => by
     subst h
     have := hr.fits.up.plc hke
     obtain ⟨j2, hj2, hje2⟩ := List.mem_iff_getElem.1 hem
     have h3 := (hr.fits.up.plc hj2).1
     rw [hje2, hkp] at h3
     have : j2 = ke := by omega
     subst this
     exact hek hje2.symm
    refine ⟨?_, ?_, ?_, ?_, ?_, ?_, ?_⟩
    ·
     simp only [e1]; exact hK.ok
    ·
     simp only [e1]; rw [Y68, if_neg hne]; exact hK.mB
    ·
     simp only [e1]; rw [Y68, if_neg hne]; exact hK.mR
    ·
     simp only [e1]; rw [Y68, if_neg hne]; exact hK.mA
    ·
     simp only [e1]; rw [hkp, Yju (by omega), if_neg hkk, ← hkp]; exact hK.ga
    ·
     simp only [e1]; rw [hkp, Yju (by omega), if_neg hkk, ← hkp]; exact hK.gc
    ·
     simp only [e1]; rw [hkp, Yju (by omega), if_neg hkk, ← hkp]; exact hK.gb) (by
  rintro ⟨B, A, R⟩ ⟨ah, bh, cd⟩ ⟨la, lb, lc, hI⟩
  simp only at la lb lc hI
  refine ⟨(B, A, R), (ah, bh, cd), ?_, ?_, la, lb, lc, fun e he => hI e he ?_⟩
  ·
   simp only [Zeb]
   rw [hol, dnlt, cond_false]
  ·
   simp only [Z5m]
   rw [dnlt, cond_false]
  ·
   rw [List.take_of_length_le (by omega)]
   exact (Yjj hr.fits).2 (List.mem_map.2 ⟨e, he, rfl⟩)) (s := ([], [], [])) (t := (List.replicate g.events.length [], List.replicate g.events.length [], List.replicate g.events.length 0)) ⟨by simp, by simp, by simp, fun e _ h => by simp at h⟩
 simp only at q1 q2 la lb lc hall
 refine ⟨Y95.mk g m B A R, Y93.mk (Yf5 g.events) ah bh cd, ?_, ?_, rfl, hm2, rfl, la, lb, lc, hall⟩
 ·
  unfold Zee
  rw [Yfi hr.fits, Option.bind_some, hm1, Option.bind_some]
  simp only [Zec, Zea]
  rw [Ygi hr.fits, Option.bind_some, q1]; rfl
 ·
  unfold Z5o
  rw [e0, Option.bind_some, Y4k (decide_eq_true ⟨by omega, by omega⟩), Option.bind_some, Option.bind_some, Y4k (decide_eq_true ⟨by omega, by omega⟩), Option.bind_some]
  simp only [Z5n, Z5f, Int.toNat_natCast]
  rw [Ygq hr.fits hr.deep, Option.bind_some, q2]; rfl
end Go.Proofs.YtbgichfjcnibpaaGreat
namespace Go.Proofs.YtbgichfjcnibpaaGreat
open Go Go.Abs

def refB (h : Y95) (id : Int) : Bool := decide (Option.getD (mget h.refused id) 0 = 0)

theorem Both.code {g : Y90} {h : Y95} {w : Y93} (hb : Both g h w) {e : Y8x} (he : e ∈ g.events) : ∃ c, getI w.code (plc g.events e.id) = some c ∧ Option.getD (mget h.refused e.id) 0 = c := by
 have hk := hb.all e he
 exact ⟨_, hk.gc, by rw [hk.mR]; rfl⟩
theorem Both.behind {g : Y90} {h : Y95} {w : Y93} (hb : Both g h w) (hr : Yjs g) {e : Y8x} (he : e ∈ g.events) : getI w.behind (plc g.events e.id) = some (behI h.after e.id) ∧ StOk g.events (behI h.after e.id) := by
 have hk := hb.all e he
 have e1 : behI h.after e.id = Yjp g (Yiy g (e.prev.map (behI h.after))) e := by
  show Option.getD (mget h.after e.id) [] = _
  rw [hk.mA]; rfl
 rw [e1]
 exact ⟨hk.gb, Yjq hr.fits.up hk.ok he⟩
theorem Both.ahead {g : Y90} {h : Y95} {w : Y93} (hb : Both g h w) {e : Y8x} (he : e ∈ g.events) : getI w.ahead (plc g.events e.id) = some (behI h.before e.id) ∧ StOk g.events (behI h.before e.id) := by
 have hk := hb.all e he
 have e1 : behI h.before e.id = Yiy g (e.prev.map (behI h.after)) := by
  show Option.getD (mget h.before e.id) [] = _
  rw [hk.mB]; rfl
 rw [e1]
 exact ⟨hk.ga, hk.ok⟩

theorem Yjs.sts {g : Y90} (hr : Yjs g) {s : List Y92} (hs : StOk g.events s) : Sts g s := (Mrg.mk (ls := []) hr.fits hr.ev hr.deep (fun s hs => by cases hs) (by simp)).sts hs

end Go.Proofs.YtbgichfjcnibpaaGreat
namespace Go.Proofs.YtbgichfjcnibpaaGreat
open Go Go.Abs


theorem Yjy (p : List Int) (n : Int) (hp : p.length ≤ maxLen) (h0 : 0 ≤ n) (hn : n ≤ 1048576) : ∃ r, Z1 p n = some r ∧ ((0 ≤ r ∧ r ≤ n ∧ p.length ≤ 1048576) ∨ r = -1) := by
 simp only [maxLen] at hp
 unfold Z1
 rw [Y4j (by omega) (by omega)]
 by_cases h : n - (p.length : Int) < 0
 ·
  rw [decide_eq_true h]; exact ⟨_, rfl, .inr rfl⟩
 ·
  rw [decide_eq_false h]; exact ⟨_, rfl, .inl ⟨by omega, by omega, by omega⟩⟩

structure EvIn (e : Y8x) : Prop where
 text : e.text.size ≤ maxLen
 prev : e.prev.length ≤ maxLen

theorem Yjz (e : Y8x) (n : Int) (he : EvIn e) (h0 : 0 ≤ n) (hn : n ≤ 1048576) : ∃ r, Z3 e n = some r ∧ ((0 ≤ r ∧ r ≤ n ∧ e.prev.length ≤ 1048576 ∧ e.text.size ≤ 1048576) ∨ r = -1) := by
 have ht := he.text
 simp only [maxLen] at ht
 unfold Z3
 rw [Y4j (by omega) (by omega)]
 by_cases h : n - (e.text.size : Int) < 0
 ·
  rw [decide_eq_true h]; exact ⟨_, rfl, .inr rfl⟩
 ·
  rw [decide_eq_false h, cond_false]
  obtain ⟨r, h1, h2⟩ := Yjy e.prev (n - (e.text.size : Int)) he.prev (by omega) (by omega)
  rw [h1, Option.bind_some]
  rcases h2 with ⟨h2, h3, h4⟩ | rfl
  ·
   rw [decide_eq_false (by omega)]; exact ⟨_, rfl, .inl ⟨h2, by omega, h4, by omega⟩⟩
  ·
   exact ⟨_, rfl, .inr rfl⟩

def Yk0 (l : List Y8x) : Prop := l.length ≤ 1048576 ∧ ∀ e ∈ l, e.prev.length ≤ 1048576 ∧ e.text.size ≤ 1048576

theorem Yk1 (p : List Y8x) (n : Int) (hl : p.length ≤ maxLen) (hp : ∀ e ∈ p, EvIn e) (h0 : 0 ≤ n) (hn : n ≤ 1048576) : ∃ r, Z7 p n = some r ∧ ((0 ≤ r ∧ r + p.length ≤ n ∧ Yk0 p) ∨ r = -1) := by
 simp only [maxLen] at hl
 unfold Z7
 rw [Y4j (by omega) (by omega)]
 by_cases h : n - (p.length : Int) < 0
 ·
  rw [decide_eq_true h]; exact ⟨_, rfl, .inr rfl⟩
 ·
  rw [decide_eq_false h, cond_false]
  obtain ⟨o, h1, h2⟩ := Ydm (τ := Int × Int) (ω := Int ⊕ Int) (σ := Int) (step := fun z : Int × Int => Z6 p z.1 z.2) (n := p.length) (fun s j => (s, j))
   (fun i s => 0 ≤ s ∧ s + p.length ≤ n ∧ ∀ (j : Nat) (hj : j < p.length), j < i → p[j].prev.length ≤ 1048576 ∧ p[j].text.size ≤ 1048576) (fun o => o = .inl (-1) ∨ ∃ r, o = .inr r ∧ 0 ≤ r ∧ r + p.length ≤ n ∧ Yk0 p) (by omega) (by
   rintro i s hi ⟨hs0, hsn, hI⟩
   obtain ⟨r, e1, e2⟩ := Yjz p[i] s (hp _ (List.getElem_mem hi)) hs0 (by omega)
   simp only [Z6]
   rw [dlt hi, cond_true, Ydn hi, Option.bind_some, e1, Option.bind_some, Ydo hi (by omega)]
   rcases e2 with ⟨e2, e3, e4⟩ | rfl
   ·
    rw [decide_eq_false (by omega), cond_false]
    refine .inl ⟨r, rfl, e2, by omega, fun j hj hji => ?_⟩
    rcases Nat.lt_or_ge j i with h | h
    ·
     exact hI j hj h
    ·
     obtain rfl : j = i := by omega
     exact e4
   ·
    exact .inr ⟨_, rfl, .inl rfl⟩) (by
   rintro s ⟨hs0, hsn, hI⟩
   simp only [Z6]
   rw [dnlt, cond_false]
   refine ⟨_, rfl, .inr ⟨s, rfl, hs0, hsn, by omega, fun e he => ?_⟩⟩
   obtain ⟨j, hj, rfl⟩ := List.mem_iff_getElem.1 he
   exact hI j hj hj) (s := n - (p.length : Int)) ⟨by omega, by omega, fun j hj h => by omega⟩
  rw [h1, Option.bind_some]
  rcases h2 with rfl | ⟨r, rfl, h3⟩
  ·
   exact ⟨_, rfl, .inr rfl⟩
  ·
   exact ⟨_, rfl, .inl h3⟩

structure GIn (g : Y8y) : Prop where
 el : g.events.length ≤ maxLen
 pl : g.parked.length ≤ maxLen
 ev : ∀ e ∈ g.events, EvIn e
 pv : ∀ e ∈ g.parked, EvIn e

theorem Yk2 (g : Y8y) (n : Int) (hg : GIn g) (h0 : 0 ≤ n) (hn : n ≤ 1048576) : ∃ r, Z9 g n = some r ∧ ((0 ≤ r ∧ r + (g.events.length + g.parked.length : Nat) ≤ n ∧ Yk0 g.events ∧ Yk0 g.parked) ∨ r = -1) := by
 unfold Z9
 obtain ⟨r, h1, h2⟩ := Yk1 g.events n hg.el hg.ev h0 hn
 rw [h1, Option.bind_some]
 rcases h2 with ⟨h2, h3, h4⟩ | rfl
 ·
  rw [decide_eq_false (by omega), cond_false]
  obtain ⟨r', h5, h6⟩ := Yk1 g.parked r hg.pl hg.pv h2 (by omega)
  rw [h5, Option.bind_some]
  rcases h6 with ⟨h6, h7, h8⟩ | rfl
  ·
   rw [decide_eq_false (by omega)]; exact ⟨_, rfl, .inl ⟨h6, by omega, h4, h8⟩⟩
  ·
   exact ⟨_, rfl, .inr rfl⟩
 ·
  exact ⟨_, rfl, .inr rfl⟩


theorem Yk3 {α β : Type} {xs : List α} {z : β} (f : α → β) {step : List β × Int → Option ((List β × Int) ⊕ List β)} (hl : xs.length < 9223372036854775807)
  (h1 : ∀ (i : Nat) (s : List β) (hi : i < xs.length), s.length = xs.length → step (s, (i : Int)) = some (.inl (s.set i (f xs[i]), ((i + 1 : Nat) : Int)))) (h2 : ∀ s : List β, step (s, (xs.length : Int)) = some (.inr s)) :
  iter step big (List.replicate xs.length z, 0) = some (xs.map f) := by
 obtain ⟨o, e1, rfl⟩ := Ydl (τ := List β × Int) (ω := List β) (σ := List β) (step := step) (n := xs.length) (fun s j => (s, j)) (fun i s => s = (xs.take i).map f ++ List.replicate (xs.length - i) z) (fun o => o = xs.map f) hl (by
  rintro i s hi rfl
  refine ⟨_, h1 i _ hi (by simp; omega), ?_⟩
  have e0 : List.replicate (xs.length - i) z = z :: List.replicate (xs.length - (i + 1)) z := by
   rw [show xs.length - i = (xs.length - (i + 1)) + 1 by omega, List.replicate_succ]
  have e1 : xs.take (i + 1) = xs.take i ++ [xs[i]] := by rw [List.take_add_one, List.getElem?_eq_getElem hi]; rfl
  rw [e0, Yfk (X := (xs.take i).map f) (u := z) (Y := List.replicate (xs.length - (i + 1)) z) rfl (by simp; omega), e1, List.map_append, List.append_assoc]
  rfl) (by
  rintro s rfl
  exact ⟨_, h2 _, by simp⟩) (s := List.replicate xs.length z) (by simp)
 exact e1

theorem Yk4 (p : List Int) (hp : p.length ≤ 1048576) : Zl p = some p := by
 unfold Zl
 rw [Y4k (decide_eq_true ⟨by omega, by omega⟩), Option.bind_some, Int.toNat_natCast]
 rw [Yk3 (xs := p) (fun x => x) (by omega) (fun i s hi hs => by
  simp only [Zk]
  rw [dlt hi, cond_true, Ydn hi, Option.bind_some, Ydn (by omega : i < s.length), Option.bind_some, Ydo hi (by omega), Int.toNat_natCast]) (fun s => by simp only [Zk]; rw [dnlt, cond_false])]
 simp [Zj]

theorem Yk5 (e : Y8x) (hp : e.prev.length ≤ 1048576) : Zn e = some e := by
 unfold Zn
 rw [Yk4 _ hp]; rfl

theorem Yk6 (p : List Y8x) (hp : Yk0 p) : Zr p = some p := by
 have hl := hp.1
 unfold Zr
 rw [Y4k (decide_eq_true ⟨by omega, by omega⟩), Option.bind_some, Int.toNat_natCast]
 rw [Yk3 (xs := p) (fun x => x) (by omega) (fun i s hi hs => by
  simp only [Zq]
  rw [dlt hi, cond_true, Ydn hi, Option.bind_some, Yk5 _ (hp.2 _ (List.getElem_mem hi)).1, Option.bind_some, Ydn (by omega : i < s.length), Option.bind_some, Ydo hi (by omega), Int.toNat_natCast]) (fun s => by simp only [Zq]; rw [dnlt, cond_false])]
 simp [Zp]

def toG (g : Y8y) : Y90 := Y90.mk g.room g.events g.parked
theorem Yk7 (g : Y8y) (he : Yk0 g.events) (hp : Yk0 g.parked) : Zt g = some (toG g) := by
 unfold Zt
 rw [Yk6 _ he, Option.bind_some, Yk6 _ hp]; rfl

theorem Yk8 {g : Y8y} (he : Yk0 g.events) (hp : Yk0 g.parked) : Fine (toG g) := ⟨he.1, hp.1, fun e h => (he.2 e h).1, fun e h => (hp.2 e h).1⟩


theorem Yk9 (p : List Int) (hp : p.length ≤ 1048576) : Zgx p p = some true := by
 unfold Zgx
 rw [bned, decide_eq_true rfl]
 simp only [Bool.not_true, cond_false]
 rw [Ye3 (l := p) (fun _ => true) (.inl false) (.inr ()) (by omega) (fun i hi => by
  simp only [Zgw]
  rw [dlt hi, cond_true, Ydn hi, Option.bind_some, Option.bind_some, bned, decide_eq_true rfl, Ydo hi (by omega)]; rfl) (by simp only [Zgw]; rw [dnlt, cond_false])]
 rw [show (p.all fun _ => true) = true by simp]; rfl

theorem Yka (e : Y8x) (hp : e.prev.length ≤ 1048576) : Zgz e e = some true := by
 unfold Zgz
 rw [Yk9 _ hp]
 simp

theorem Ykb (p : List Y8x) (hp : Yk0 p) : Zh3 p p = some true := by
 have hl := hp.1
 unfold Zh3
 rw [bned, decide_eq_true rfl]
 simp only [Bool.not_true, cond_false]
 rw [Ye3 (l := p) (fun _ => true) (.inl false) (.inr ()) (by omega) (fun i hi => by
  simp only [Zh2]
  rw [dlt hi, cond_true, Ydn hi, Option.bind_some, Option.bind_some, Yka _ (hp.2 _ (List.getElem_mem hi)).1, Option.bind_some, Ydo hi (by omega)]; rfl) (by simp only [Zh2]; rw [dnlt, cond_false])]
 rw [show (p.all fun _ => true) = true by simp]; rfl

theorem Ykc (g : Y90) (he : Yk0 g.events) (hp : Yk0 g.parked) : Zh5 g g = some true := by
 unfold Zh5
 rw [Ykb _ he, Ykb _ hp]
 simp


def Ykd (n : Int) : Nat → List Int
 | 0 => []
 | k + 1 => n :: Ykd (n + 1) k
theorem Yke : ∀ (k : Nat) (n : Int), (Ykd n k).length = k
 | 0, _ => rfl
 | k + 1, n => by simp [Ykd, Yke k]
theorem Ykf : ∀ (k : Nat) (n : Int), Ykd n (k + 1) = Ykd n k ++ [n + k]
 | 0, n => by simp [Ykd]
 | k + 1, n => by
  rw [Ykd, Ykf k (n + 1)]
  simp [Ykd]; omega

theorem Ykg (p : List Int) (n : Int) (hp : p.length ≤ 1048576) (h0 : 0 ≤ n) (hn : n ≤ 1000000000000000) : Zhp p n = some (n + p.length, Ykd n p.length) := by
 unfold Zhp
 obtain ⟨o, e1, rfl⟩ := Ydl (τ := List Int × Int × Int) (ω := Int × List Int) (σ := List Int × Int) (step := fun z : List Int × Int × Int => Zho z.1 z.2.1 z.2.2) (n := p.length) (fun s j => (s.1, s.2, j)) (fun i s => s = (Ykd n i ++ p.drop i, n + i)) (fun o => o = (n + p.length, Ykd n p.length)) (by omega) (by
  rintro i s hi rfl
  have e0 : p.drop i = p[i] :: p.drop (i + 1) := List.drop_eq_getElem_cons hi
  generalize hR : p.drop (i + 1) = R at e0
  generalize p[i] = u at e0
  refine ⟨(Ykd n (i + 1) ++ R, n + i + 1), ?_, by simp; omega⟩
  have hlen : (Ykd n i ++ p.drop i).length = p.length := by rw [List.length_append, Yke, List.length_drop]; omega
  simp only [Zho]
  rw [hlen, dlt hi, cond_true, e0, Yfj (X := Ykd n i) (u := u) (Y := R) rfl (Yke i n).symm, Option.bind_some, Int.toNat_natCast, Yfk (X := Ykd n i) (u := u) (Y := R) rfl (Yke i n).symm, Ydo hi (by omega), Y4j (by omega) (by omega), Ykf]
  simp) (by
  rintro s rfl
  simp only [Zho]
  rw [show (Ykd n p.length ++ p.drop p.length).length = p.length by simp [Yke], dnlt, cond_false]
  exact ⟨_, rfl, by simp⟩) (s := (p, n)) (by simp [Ykd])
 rw [e1, Option.bind_some]; rfl

theorem Ykh (n : Int) (h0 : 0 ≤ n) (hn : n ≤ 1000000000000000) : ∃ t, Zhl n = some t := by
 unfold Zhl
 by_cases h : n ≤ 0
 ·
  rw [decide_eq_true h]; exact ⟨_, rfl⟩
 ·
  rw [decide_eq_false h, cond_false]
  obtain ⟨o, e1, e2⟩ := Y4m (step := fun z : Int × ByteArray => Zhk z.1 z.2) (p := fun o : ByteArray => (o.size : Int) ≤ 1000000000000000) (fun m (z : Int × ByteArray) => 0 ≤ z.1 ∧ z.1 + z.2.size ≤ 1000000000000000 ∧ m = z.1.toNat) (by
   rintro m ⟨x, t⟩ ⟨hx, hs, rfl⟩
   simp only at hx hs
   simp only [Zhk]
   by_cases hp : x > 0
   ·
    right
    have hsz : ∀ k : Int, (Y6x [k]).size = 1 := fun k => rfl
    have hd : 0 ≤ Int.tdiv x 10 ∧ Int.tdiv x 10 < x := by
     rw [Int.tdiv_eq_ediv_of_nonneg hx]; omega
    rw [decide_eq_true hp, cond_true, Y4k (decide_eq_true (by rw [hsz]; omega)), Option.bind_some, Y4j (n := Int.tdiv x 10) (by omega) (by omega)]
    refine ⟨_, (Int.tdiv x 10).toNat, rfl, by omega, hd.1, ?_, rfl⟩
    simp only [ByteArray.size_append, hsz]; omega
   ·
    left
    rw [decide_eq_false hp, cond_false]
    exact ⟨_, rfl, by omega⟩) big n.toNat (n, ByteArray.empty) ⟨h0, by simp; omega, rfl⟩ (Ydi (by omega))
  rw [e1, Option.bind_some]
  unfold Zhj
  rw [Y4k (decide_eq_true (by show 1 + o.size ≤ _; omega))]
  exact ⟨_, rfl⟩

theorem Yki {α : Type} {l : List α} {k : Nat} {v : α} (hk : k < l.length) : getI (l.set k v) (k : Int) = some v := by rw [Yju hk, if_pos rfl]

theorem Ykj (p : List Y8x) (n : Int) (hp : Yk0 p) (h0 : 0 ≤ n) (hn : n ≤ 100000000000000) : ∃ r, Zht p n = some r ∧ 0 ≤ r.1 ∧ r.1 ≤ n + p.length * 2000000 := by
 have hl := hp.1
 unfold Zht
 obtain ⟨o, e1, e2⟩ := Ydl (τ := List Y8x × Int × Int) (ω := Int × List Y8x) (σ := List Y8x × Int) (step := fun z : List Y8x × Int × Int => Zhs z.1 z.2.1 z.2.2) (n := p.length) (fun s j => (s.1, s.2, j)) (fun i s => s.1.length = p.length ∧ (∀ e ∈ s.1, e.prev.length ≤ 1048576) ∧ 0 ≤ s.2 ∧ s.2 ≤ n + i * 2000000) (fun o => 0 ≤ o.1 ∧ o.1 ≤ n + p.length * 2000000) (by omega) (by
  rintro i ⟨l, k⟩ hi ⟨hll, hpl, hk0, hk⟩
  simp only at hll hpl hk0 hk
  have hil : i < l.length := by omega
  have w : ∀ x : Int, 0 ≤ x → x ≤ 1000000000000000 → IntKind.i64.wrap (x + 1) = x + 1 := fun x h1 h2 => Y4j (by omega) (by omega)
  obtain ⟨t, ht⟩ := Ykh (k + 1 + 1 + 1 + 1 + 1 + 1) (by omega) (by omega)
  have hmk := Ykg l[i].prev (k + 1 + 1 + 1 + 1 + 1 + 1 + 1) (hpl _ (List.getElem_mem hil)) (by omega) (by omega)
  have hpi := hpl _ (List.getElem_mem hil)
  have hw := Ydo hi (by omega : p.length < 9223372036854775807)
  simp only [Zhs]
  rw [w k hk0 (by omega), w (k + 1) (by omega) (by omega), w (k + 1 + 1) (by omega) (by omega), w (k + 1 + 1 + 1) (by omega) (by omega), w (k + 1 + 1 + 1 + 1) (by omega) (by omega), w (k + 1 + 1 + 1 + 1 + 1) (by omega) (by omega), w (k + 1 + 1 + 1 + 1 + 1 + 1) (by omega) (by omega)]
  rw [decide_eq_true (by omega : (i : Int) < (l.length : Int)), cond_true, Ydn hil, Option.bind_some]
  simp only [Int.toNat_natCast, Yki, List.length_set, hil, Option.bind_some, ht, List.set_set, hmk, hw]
  rw [w _ (by omega) (by omega)]
  refine ⟨(_, _), rfl, by simp [hll], fun e he => ?_, by simp only; omega, by simp only; omega⟩
  simp only at he
  rcases List.mem_or_eq_of_mem_set he with h | h
  ·
   exact hpl e h
  ·
   subst h; simp only [Yke]; exact hpi) (by
  rintro ⟨l, k⟩ ⟨hll, _, hk0, hk⟩
  simp only at hll hk0 hk
  simp only [Zhs]
  rw [hll, dnlt, cond_false]
  exact ⟨_, rfl, hk0, hk⟩) (s := (p, n)) ⟨rfl, fun e he => (hp.2 e he).1, h0, by simp⟩
 rw [e1, Option.bind_some]
 exact ⟨_, rfl, e2⟩

end Go.Proofs.YtbgichfjcnibpaaGreat
namespace Go.Proofs.YtbgichfjcnibpaaGreat
open Go Go.Abs


def accT (l : List Y8x) (T : Int → Bool) : List Int := (l.map (·.id)).filter T
def endT (l : List Y8x) (T : Int → Bool) (x : Int) : Bool := (accT l T).all fun id => !decide (x ∈ (evD l id).prev)
def endsT (l : List Y8x) (T : Int → Bool) : List Int := (accT l T).filter (endT l T)

theorem Ykk {l : List Y8x} (h : Up2 l) : UpI (l.map (·.id)) := by
 show (l.map (·.id)).Pairwise (· < ·)
 rw [List.pairwise_map]; exact h

theorem Ykl {h : Y95} (hr : Yjs h.graph) : Zej h = some (accT h.graph.events (refB h)) := by
 have hfl := hr.fits.len
 unfold Zej
 have := Ye4 (l := h.graph.events) (step := fun z : List Int × Int => Zei h z.1 z.2) (fun q j => (q, j)) (fun q => q) (fun q e => if refB h e.id = true then q ++ [e.id] else q) (fun i q => q.length ≤ i) (by omega) (fun i q hi hq => by
  refine ⟨?_, by split <;> first | omega | (rw [List.length_append, List.length_singleton]; omega)⟩
  simp only [Zei, Zeh]
  rw [dlt hi, cond_true, Ydn hi, Option.bind_some, Ydo hi (by omega), chk8 (by simp; omega), beqd]
  unfold refB
  by_cases hc : Option.getD (mget h.refused h.graph.events[i].id) 0 = 0
  ·
   rw [decide_eq_true hc]; rfl
  ·
   rw [decide_eq_false hc]; rfl)
  (fun q _ => by simp only [Zei]; rw [dnlt, cond_false]) (s := []) (by simp)
 rw [this.1, Option.bind_some]
 have key : ∀ (l : List Y8x) (q : List Int), l.foldl (fun q e => if refB h e.id = true then q ++ [e.id] else q) q = q ++ (l.map (·.id)).filter (refB h) := by
  intro l
  induction l with
  | nil => intro q; simp
  | cons e l ih =>
   intro q
   rw [List.foldl_cons, ih]
   cases hc : refB h e.id with
   | true => rw [if_pos rfl, List.map_cons, List.filter_cons_of_pos hc]; simp
   | false => rw [if_neg (by simp), List.map_cons, List.filter_cons_of_neg (by simp [hc])]
 rw [key]; rfl

theorem Ykm {l : List Int} (hl : UpI l) (hn : l.length < 1000000) : Zfc l = some l := by
 unfold Zfc
 by_cases h2 : (l.length : Int) < 2
 ·
  rw [decide_eq_true h2]; rfl
 ·
  rw [decide_eq_false h2, cond_false, Y4n (o := .inr ()) (fun m (x : Int) => ∃ i : Nat, x = i ∧ 1 ≤ i ∧ i ≤ l.length ∧ m = l.length - i) ?_ (m := l.length - 1) (x := 1) ⟨1, rfl, by omega, by omega, rfl⟩ (Ydi (by omega))]
  ·
   rfl
  ·
   rintro m x ⟨i, rfl, h1, hi, rfl⟩
   simp only [Zfb]
   by_cases hil : i < l.length
   ·
    right
    have hm : i - 1 < l.length := by omega
    have := List.pairwise_iff_getElem.1 hl (i - 1) i hm hil (by omega)
    rw [dlt hil, cond_true, Ydn hil, Option.bind_some, Ydp (by omega) (by omega), Ydn hm, Option.bind_some, beqd, decide_eq_false (by omega), cond_false, Ydo hil (by omega)]
    exact ⟨_, l.length - (i + 1), rfl, by omega, i + 1, rfl, by omega, by omega, rfl⟩
   ·
    left
    obtain rfl : i = l.length := by omega
    rw [dnlt, cond_false]

theorem Ziu {l ids : List Int} (hl : UpI l) (hn : ids.Nodup) (hm : ∀ x, x ∈ ids ↔ x ∈ l) : List.mergeSort ids (fun x y => decide (x ≤ y)) = l := by
 have hp : ids.Perm l := (List.perm_ext_iff_of_nodup hn (hl.imp fun {a b} h => by omega)).2 hm
 exact List.Perm.eq_of_pairwise (le := fun a b => decide (a ≤ b) = true) (fun a b _ _ h1 h2 => by simp at h1 h2; omega) (List.pairwise_mergeSort (fun a b c h1 h2 => by simp at h1 h2 ⊢; omega) (fun a b => by simp; omega) ids) (hl.imp fun {a b} h => by simp; omega) ((List.mergeSort_perm ids _).trans hp)

theorem Ykn {l ids : List Int} (hl : UpI l) (hn : ids.Nodup) (hm : ∀ x, x ∈ ids ↔ x ∈ l) (hlen : l.length < 1000000) : Zfe ids = some l := by
 have hpl : ids.length = l.length := ((List.perm_ext_iff_of_nodup hn (hl.imp fun {a b} h => by omega)).2 hm).length_eq
 unfold Zfe
 rw [Y4k (decide_eq_true (by omega)), Option.bind_some, Ziu hl hn hm, Ykm hl hlen]; rfl

theorem Yko (e : Y8x) (l : List Int) (hl : l.length < 1000000) (he : e.prev.length < 1000000) : Zfp l e = some (l.filter fun x => !decide (x ∈ e.prev)) := by
 have hc : ∀ x, Zfg x e = some (decide (x ∈ e.prev)) := fun x => by unfold Zfg; rw [Ye9 _ _ (by omega)]; rfl
 unfold Zfp Zfk
 rw [Ye6 (Ye1 (l := l) (step := Zfj l e) (fun x => decide (x ∈ e.prev)) (by omega) (fun i hi => by
  simp only [Zfj]
  rw [dlt hi, cond_true, Ydn hi, Option.bind_some, hc, Option.bind_some, Ydo hi (by omega)]
  cases decide (l[i] ∈ e.prev) <;> rfl) (by simp only [Zfj]; rw [dnlt, cond_false])) (fun _ => rfl) rfl, Option.bind_some]
 unfold idxP
 cases hf : l.findIdx? (fun x => decide (x ∈ e.prev)) with
 | none =>
  rw [List.findIdx?_eq_none_iff] at hf
  rw [beqd, decide_eq_true rfl, cond_true]
  exact congrArg some (List.filter_eq_self.2 fun x hx => by simp [hf x hx]).symm
 | some k =>
  obtain ⟨hk, hkp, hkn⟩ := List.findIdx?_eq_some_iff_getElem.1 hf
  simp only
  rw [beqd, decide_eq_false (by omega), cond_false, Ydo hk (by omega)]
  -- the rest
  have hpre : (l.take k).filter (fun x => !decide (x ∈ e.prev)) = l.take k := List.filter_eq_self.2 fun x hx => by
   obtain ⟨j, hj, hjk, rfl⟩ := Yft hx
   have := hkn j hjk
   simpa using this
  obtain ⟨⟨o1, o2⟩, e1, w, hw1, hw2, hw3, hw4⟩ := Y4m (step := fun z : List Int × Int × Int => Zfo e z.1 z.2.1 z.2.2) (p := fun o : List Int × Int => ∃ w : Nat, o.2 = (w : Int) ∧ w ≤ l.length ∧ o.1.length = l.length ∧ o.1.take w = l.filter fun x => !decide (x ∈ e.prev))
   (fun m (z : List Int × Int × Int) => ∃ (w i : Nat), z.2.1 = (w : Int) ∧ z.2.2 = (i : Int) ∧ w < i ∧ i ≤ l.length ∧ z.1.length = l.length ∧ z.1.take w = (l.take i).filter (fun x => !decide (x ∈ e.prev)) ∧ z.1.drop i = l.drop i ∧ m = l.length - i) (by
   rintro m ⟨q, x, y⟩ ⟨w, i, hx, hy, hwi, hi, hq, ht, hd, rfl⟩
   simp only at hx hy hq ht hd
   subst hx hy
   simp only [Zfo, Zfn]
   by_cases hil : i < l.length
   ·
    right
    have hiq : i < q.length := by omega
    have hwq : w < q.length := by omega
    have hqi : q[i] = l[i] := by
     have h1 : (q.drop i)[0]? = (l.drop i)[0]? := by rw [hd]
     simpa [hiq, hil] using h1
    have etk : l.take (i + 1) = l.take i ++ [l[i]] := by rw [List.take_add_one, List.getElem?_eq_getElem hil]; rfl
    rw [dlt hiq, cond_true, Ydn hiq, Option.bind_some, hc, Option.bind_some, hqi, Ydn hwq, Ydo hiq (by omega)]
    have hd' : ∀ v : Int, (q.set w v).drop (i + 1) = l.drop (i + 1) := fun v => by
     rw [List.drop_set_of_lt (by omega)]
     have := congrArg (List.drop 1) hd
     rwa [List.drop_drop, List.drop_drop] at this
    by_cases hp : l[i] ∈ e.prev
    ·
     rw [decide_eq_true hp, cond_true]
     refine ⟨_, l.length - (i + 1), rfl, by omega, w, i + 1, rfl, rfl, by omega, by omega, hq, ?_, ?_, rfl⟩
     ·
      rw [etk, List.filter_append, List.filter_cons_of_neg (by simp [hp]), List.filter_nil, List.append_nil]; exact ht
     ·
      have := congrArg (List.drop 1) hd
      rwa [List.drop_drop, List.drop_drop] at this
    ·
     rw [decide_eq_false hp, cond_false, Option.bind_some, Int.toNat_natCast, Ydo hwq (by omega)]
     refine ⟨_, l.length - (i + 1), rfl, by omega, w + 1, i + 1, rfl, rfl, by omega, by omega, by simp [hq], ?_, hd' _, rfl⟩
     simp only
     rw [etk, List.filter_append, List.filter_cons_of_pos (by simp [hp]), List.filter_nil, ← ht, List.take_add_one, List.getElem?_set_self hwq]
     rw [List.take_set_of_le (Nat.le_refl _)]; rfl
   ·
    left
    obtain rfl : i = l.length := by omega
    rw [decide_eq_false (by omega), cond_false]
    refine ⟨_, rfl, w, rfl, by omega, hq, ?_⟩
    rw [List.take_length] at ht
    exact ht) big (l.length - (k + 1)) (l, (k : Int), ((k + 1 : Nat) : Int)) ⟨k, k + 1, rfl, rfl, by omega, by omega, rfl, by
    rw [List.take_add_one, List.getElem?_eq_getElem hk, List.filter_append, hpre]
    simp at hkp
    simp [hkp], rfl, rfl⟩ (Ydi (by omega))
  rw [e1, Option.bind_some]
  simp only at hw1 hw2 hw3 hw4
  subst hw1
  simp only [Zfm, Int.toNat_natCast]
  rw [Y4k (decide_eq_true (by omega)), Option.bind_some, Y4k (decide_eq_true (by omega)), Option.bind_some, Y4k (decide_eq_true (by simp; omega)), Option.bind_some]
  congr 1
  rw [← hw4, List.take_append_of_le_length (by simp; omega), List.take_take, Nat.min_self]

theorem Ykp {l : List Y8x} (hf : Fits l) (T : Int → Bool) : UpI (accT l T) := (Ykk hf.up).filter _
theorem Ykq {l : List Y8x} (hf : Fits l) (T : Int → Bool) : (accT l T).length ≤ 60 := by
 have := List.length_filter_le T (l.map (·.id))
 rw [List.length_map] at this
 have := hf.len
 unfold accT; omega
theorem Ykr {l : List Y8x} {T : Int → Bool} {id : Int} (hi : id ∈ endsT l T) : id ∈ l.map (·.id) := (List.mem_filter.1 (List.mem_filter.1 hi).1).1
theorem Yks {l : List Y8x} (hf : Fits l) (T : Int → Bool) : (endsT l T).length ≤ 60 := Nat.le_trans (List.length_filter_le _ _) (Ykq hf T)

theorem Ykt {h : Y95} (hr : Yjs h.graph) {ids : List Int} {T : Int → Bool} (hn : ids.Nodup) (hm : ∀ x, x ∈ ids ↔ x ∈ accT h.graph.events T) : Zft h ids = some (endsT h.graph.events T) := by
 have hfl := hr.fits.len
 have hup := Ykp hr.fits T
 have hal := Ykq hr.fits T
 have hil : ids.length = (accT h.graph.events T).length := ((List.perm_ext_iff_of_nodup hn (hup.imp fun {a b} h => by omega)).2 hm).length_eq
 unfold Zft
 have hcl : Zdy ids = some ids := by unfold Zdy; rw [chk8 (by omega)]; rfl
 rw [hcl, Option.bind_some, Ykn hup hn hm (by omega), Option.bind_some]
 have := Ye4 (l := ids) (step := fun z : List Int × Int => Zfs h ids z.1 z.2) (fun q j => (q, j)) (fun q => q) (fun q id => q.filter fun x => !decide (x ∈ (evD h.graph.events id).prev)) (fun _ q => q.length ≤ 60) (by omega) (fun i q hi hq => by
  refine ⟨?_, Nat.le_trans (List.length_filter_le _ _) hq⟩
  have hmi : ids[i] ∈ h.graph.events.map (·.id) := (List.mem_filter.1 ((hm _).1 (List.getElem_mem hi))).1
  have hp := (hr.walk.prev hmi).1
  simp only [Zfs]
  rw [dlt hi, cond_true, Ydn hi, Option.bind_some, c_at _ _ hr.fits.up (by omega), Option.bind_some]
  show (Zfp q (evD h.graph.events ids[i])).bind _ = _
  rw [Yko _ _ (by omega) (by omega), Option.bind_some, Ydo hi (by omega)])
  (fun q _ => by simp only [Zfs]; rw [dnlt, cond_false]) (s := accT h.graph.events T) hal
 rw [this.1, Option.bind_some]
 simp only [Zfr]
 congr 1
 have key : ∀ (r q : List Int), r.foldl (fun q id => q.filter fun x => !decide (x ∈ (evD h.graph.events id).prev)) q = q.filter fun x => r.all fun id => !decide (x ∈ (evD h.graph.events id).prev) := by
  intro r
  induction r with
  | nil => intro q; exact (List.filter_eq_self.2 fun x _ => rfl).symm
  | cons id r ih =>
   intro q
   rw [List.foldl_cons, ih, List.filter_filter]
   congr 1
   funext x
   simp [Bool.and_comm]
 rw [key]
 unfold endsT
 congr 1
 funext x
 unfold endT
 rw [Bool.eq_iff_iff, List.all_eq_true, List.all_eq_true]
 exact ⟨fun h id hid => h id ((hm id).2 hid), fun h id hid => h id ((hm id).1 hid)⟩

def Yku (l : List Y8x) (T : Int → Bool) : List Bool := l.map fun e => T e.id

theorem Ykv {g : Y90} {h : Y95} {w : Y93} (hb : Both g h w) (hr : Yjs g) : w.code.map (fun c => decide (c = 0)) = Yku h.graph.events (refB h) := by
 unfold Yku
 rw [hb.graph]
 refine List.ext_getElem (by simp [hb.lc]) fun i h1 h2 => ?_
 simp only [List.length_map] at h1 h2
 simp only [List.getElem_map]
 obtain ⟨c, k1, k2⟩ := hb.code (List.getElem_mem h2)
 rw [(hr.fits.up.plc h2).1, Ydn h1] at k1
 cases k1
 unfold refB
 rw [k2]

theorem Ykw {w : Y93} {step : List Bool × Int → Option ((List Bool × Int) ⊕ List Bool)} (hl : w.code.length < 1000000)
  (h1 : ∀ (l : List Bool) (i : Nat), step (l, (i : Int)) = cond (decide ((i : Int) < (l.length : Int))) ((getI w.code (i : Int)).bind fun e12 => (getI l (i : Int)).bind fun e14 => some (.inl ((List.set l (Int.toNat (i : Int)) (e12 == 0)), (IntKind.i64.wrap ((i : Int) + 1))))) (some (.inr l))) :
  iter step big (List.replicate w.code.length false, 0) = some (w.code.map fun c => decide (c = 0)) := by
 obtain ⟨o, e1, rfl⟩ := Ydl (τ := List Bool × Int) (ω := List Bool) (σ := List Bool) (step := step) (n := w.code.length) (fun s j => (s, j)) (fun i s => s = (w.code.take i).map (fun c => decide (c = 0)) ++ List.replicate (w.code.length - i) false) (fun o => o = w.code.map fun c => decide (c = 0)) (by omega) (by
  rintro i s hi rfl
  have e0 : List.replicate (w.code.length - i) false = false :: List.replicate (w.code.length - (i + 1)) false := by
   rw [show w.code.length - i = (w.code.length - (i + 1)) + 1 by omega, List.replicate_succ]
  have etk : w.code.take (i + 1) = w.code.take i ++ [w.code[i]] := by rw [List.take_add_one, List.getElem?_eq_getElem hi]; rfl
  refine ⟨_, ?_, rfl⟩
  rw [h1, decide_eq_true (by simp; omega), cond_true, Ydn hi, Option.bind_some, e0, Yfj (X := (w.code.take i).map fun c => decide (c = 0)) rfl (by simp; omega), Option.bind_some, Int.toNat_natCast, Yfk (X := (w.code.take i).map fun c => decide (c = 0)) rfl (by simp; omega), Ydo hi (by omega), etk, beqd, List.map_append, List.append_assoc]
  rfl) (by
  rintro s rfl
  refine ⟨_, ?_, rfl⟩
  rw [h1, decide_eq_false (by simp), cond_false]
  simp) (s := List.replicate w.code.length false) (by simp)
 exact e1

theorem Ykx {α β : Type} (f : α → β) {l : List α} {i : Nat} (hi : i < l.length) : getI (l.map f) (i : Int) = some (f l[i]) := by
 rw [Ydn (by simpa using hi)]; simp

theorem Yky {g : Y90} (hr : Yjs g) (T : Int → Bool) : Z5z g (Yku g.events T) = some (endsT g.events T) := by
 have hfl := hr.fits.len
 unfold Z5z
 -- whether one stands behind an event
 have inner1 : ∀ (i k : Nat) (hi : i < g.events.length) (hk : k < g.events.length) (b : Bool), iter (fun z : Bool × Int => Z5w g (Yku g.events T) (i : Int) (k : Int) z.1 z.2) big (b, 0) = some (b && (!T g.events[k].id || !decide (g.events[i].id ∈ g.events[k].prev))) := by
  intro i k hi hk b
  have hpl := hr.fits.plen _ (List.getElem_mem hk)
  have ht : getI (Yku g.events T) (k : Int) = some (T g.events[k].id) := Ykx _ hk
  cases hrk : T g.events[k].id with
  | false =>
   rw [Y4n (o := b) (fun m (z : Bool × Int) => z = (b, 0)) ?_ (m := 0) rfl (Ydi (by omega))]
   ·
    simp
   ·
    rintro m z rfl
    left
    simp only [Z5w, Z5v]
    rw [ht, Option.bind_some, hrk]; rfl
  | true =>
   have := Ye4 (l := g.events[k].prev) (step := fun z : Bool × Int => Z5w g (Yku g.events T) (i : Int) (k : Int) z.1 z.2) (fun q j => (q, j)) (fun q => q) (fun q p => q && !decide (p = g.events[i].id)) (fun _ _ => True) hpl (fun j q hj _ => by
    refine ⟨?_, trivial⟩
    simp only [Z5w, Z5v, Z5u]
    rw [ht, Option.bind_some, hrk, cond_true, Ydn hk, Option.bind_some, dlt hj, cond_true, Ydn hi, Ydo hj hpl]
    cases q with
    | false => rfl
    | true =>
     simp only [cond_true, Option.bind_some]
     rw [Ydn hj, Option.bind_some, bned]; rfl)
    (fun q _ => by
     simp only [Z5w, Z5v]
     rw [ht, Option.bind_some, hrk, cond_true, Ydn hk, Option.bind_some, dnlt, cond_false]) (s := b) trivial
   rw [this.1]
   congr 1
   have key : ∀ (ps : List Int) (q : Bool), ps.foldl (fun q p => q && !decide (p = g.events[i].id)) q = (q && !decide (g.events[i].id ∈ ps)) := by
    intro ps
    induction ps with
    | nil => intro q; simp
    | cons p ps ih =>
     intro q
     rw [List.foldl_cons, ih]
     by_cases hp : p = g.events[i].id
     ·
      simp [hp]
     ·
      simp [hp, show ¬ g.events[i].id = p from fun h => hp h.symm]
   rw [key]; simp
 have inner2 : ∀ (i : Nat) (hi : i < g.events.length) (b : Bool), iter (fun z : Bool × Int => Z5x g (Yku g.events T) (i : Int) z.1 z.2) big (b, 0) = some (b && endT g.events T g.events[i].id) := by
  intro i hi b
  have := Ye4 (l := g.events) (step := fun z : Bool × Int => Z5x g (Yku g.events T) (i : Int) z.1 z.2) (fun q j => (q, j)) (fun q => q) (fun q e => q && (!T e.id || !decide (g.events[i].id ∈ e.prev))) (fun _ _ => True) (by omega) (fun k q hk _ => by
   refine ⟨?_, trivial⟩
   simp only [Z5x]
   rw [dlt hk, cond_true, inner1 i k hi hk, Option.bind_some]
   simp only [Z5t]
   rw [Ydo hk (by omega)])
   (fun q _ => by simp only [Z5x]; rw [dnlt, cond_false]) (s := b) trivial
  rw [this.1]
  congr 1
  have key : ∀ (l : List Y8x) (q : Bool), l.foldl (fun q e => q && (!T e.id || !decide (g.events[i].id ∈ e.prev))) q = (q && l.all fun e => (!T e.id || !decide (g.events[i].id ∈ e.prev))) := by
   intro l
   induction l with
   | nil => intro q; simp
   | cons e l ih => intro q; rw [List.foldl_cons, ih, List.all_cons, Bool.and_assoc]
  rw [key]
  congr 1
  unfold endT accT
  rw [Bool.eq_iff_iff, List.all_eq_true, List.all_eq_true]
  constructor
  ·
   intro h1 id hid
   obtain ⟨h2, h3⟩ := List.mem_filter.1 hid
   obtain ⟨_, e2, e3⟩ := Yiu h2 hr.fits.up
   have := h1 _ e2
   rw [e3, h3] at this
   simpa using this
  ·
   intro h1 e he
   cases h3 : T e.id with
   | false => rfl
   | true =>
    have := h1 e.id (List.mem_filter.2 ⟨List.mem_map.2 ⟨e, he, rfl⟩, h3⟩)
    have e1 : evD g.events e.id = e := by unfold evD; rw [hr.fits.up.evAt_mem he]; rfl
    rw [e1] at this
    simpa using this
 have := Ye4 (l := g.events) (step := fun z : List Int × Int => Z5y g (Yku g.events T) z.1 z.2) (fun q j => (q, j)) (fun q => q) (fun q e => if (T e.id && endT g.events T e.id) = true then q ++ [e.id] else q) (fun i q => q.length ≤ i) (by omega) (fun i q hi hq => by
  refine ⟨?_, by split <;> first | omega | (rw [List.length_append, List.length_singleton]; omega)⟩
  have ht : getI (Yku g.events T) (i : Int) = some (T g.events[i].id) := Ykx _ hi
  simp only [Z5y]
  rw [dlt hi, cond_true, ht, Option.bind_some, inner2 i hi, Option.bind_some]
  simp only [Z5s, Z5r]
  rw [Ydn hi, Ydo hi (by omega), Option.bind_some, chk8 (by simp; omega)]
  cases (T g.events[i].id && endT g.events T g.events[i].id) <;> rfl)
  (fun q _ => by simp only [Z5y]; rw [dnlt, cond_false]) (s := []) (by simp)
 rw [this.1, Option.bind_some]
 simp only [Z5q]
 congr 1
 unfold endsT accT
 rw [List.filter_filter]
 have key : ∀ (l : List Y8x) (q : List Int), l.foldl (fun q e => if (T e.id && endT g.events T e.id) = true then q ++ [e.id] else q) q = q ++ (l.map (·.id)).filter fun x => endT g.events T x && T x := by
  intro l
  induction l with
  | nil => intro q; simp
  | cons e l ih =>
   intro q
   rw [List.foldl_cons, ih]
   cases hc : T e.id && endT g.events T e.id with
   | true => rw [if_pos rfl, List.map_cons, List.filter_cons_of_pos (by rw [Bool.and_comm]; exact hc)]; simp
   | false => rw [if_neg (by simp), List.map_cons, List.filter_cons_of_neg (by rw [Bool.and_comm, hc]; simp)]
 rw [key]; rfl


def nowT (g : Y90) (h : Y95) (T : Int → Bool) : List Y92 := Yiy g ((endsT g.events T).map (behI h.after))

theorem Ykz {h : Y95} (l : List Int) (hl : l.length < 1000000) : Zfx h l = some (l.map (behI h.after)) := by
 unfold Zfx
 have := Ye4 (l := l) (step := fun z : List (List Y92) × Int => Zfw h l z.1 z.2) (fun q j => (q, j)) (fun q => q) (fun q p => q ++ [behI h.after p]) (fun i q => q.length = i) (by omega) (fun i q hi hq => by
  refine ⟨?_, by simp [hq]⟩
  simp only [Zfw]
  rw [dlt hi, cond_true, Ydn hi, Option.bind_some, Yh1 (by simp; omega), Option.bind_some, Ydo hi (by omega)]; rfl)
  (fun q _ => by simp only [Zfw]; rw [dnlt, cond_false]) (s := []) rfl
 rw [this.1, Yjv]; rfl

theorem Both.endsT {g : Y90} {h : Y95} {w : Y93} (hb : Both g h w) (hr : Yjs g) (T : Int → Bool) : Mrg g ((endsT g.events T).map (behI h.after)) := by
 refine ⟨hr.fits, hr.ev, hr.deep, fun s hs => ?_, by have := Yks hr.fits T; simp; omega⟩
 obtain ⟨id, hid, rfl⟩ := List.mem_map.1 hs
 have hm := Ykr hid
 obtain ⟨_, e2, e3⟩ := Yiu hm hr.fits.up
 have := (hb.behind hr e2).2
 rwa [e3] at this

theorem Yl0 : @Zgd = @Zdw := rfl

theorem Yl1 {g : Y90} {h : Y95} {w : Y93} (hb : Both g h w) (hr : Yjs g) (T : Int → Bool) : (Zfx h (endsT g.events T)).bind (fun r => (Zgd h r).bind fun r' => some r') = some (nowT g h T) ∧ StOk g.events (nowT g h T) := by
 have hgr := hb.graph
 have hm := hb.endsT hr T
 have hel := Yks hr.fits T
 rw [Ykz _ (by omega), Option.bind_some]
 have hm' : Mrg h.graph ((endsT g.events T).map (behI h.after)) := by rw [hgr]; exact hm
 obtain ⟨_, c2, c3⟩ := Yj0 hm' hb.depth
 rw [Yl0, c2, hgr]
 rw [hgr] at c3
 exact ⟨rfl, c3⟩

theorem Yl2 {g : Y90} {h : Y95} {w : Y93} (hb : Both g h w) (hr : Yjs g) (T : Int → Bool) : Z67 g w (Yku g.events T) = some (nowT g h T) := by
 have hgr := hb.graph
 have hel := Yks hr.fits T
 have hfl := hr.fits.len
 unfold Z67
 rw [Yky hr, Option.bind_some]
 have := Ye4 (l := endsT g.events T) (step := fun z : List (List Y92) × Int => Z66 g w (endsT g.events T) z.1 z.2) (fun q j => (q, j)) (fun q => q) (fun q p => q ++ [behI h.after p]) (fun i q => q.length = i) (by omega) (fun i q hi hq => by
  refine ⟨?_, by simp [hq]⟩
  have hm := Ykr (List.getElem_mem hi)
  obtain ⟨_, e2, e3⟩ := Yiu hm hr.fits.up
  have hbe := (hb.behind hr e2).1
  rw [e3] at hbe
  simp only [Z66]
  rw [dlt hi, cond_true, Ydn hi, Option.bind_some, Yek _ _ (by omega), Option.bind_some, hbe, Option.bind_some, Yh1 (by simp; omega), Option.bind_some, Ydo hi (by omega)])
  (fun q _ => by simp only [Z66]; rw [dnlt, cond_false]) (s := []) rfl
 rw [this.1, Yjv, Option.bind_some]
 simp only [Z65, List.nil_append]
 have hm' : Mrg h.graph ((endsT g.events T).map (behI h.after)) := by rw [hgr]; exact hb.endsT hr T
 obtain ⟨c1, _, _⟩ := Yj0 hm' hb.depth
 rw [hb.depths, ← hgr]
 rw [hgr] at c1 ⊢
 rw [c1]
 rfl

theorem Yl3 {g : Y90} {h : Y95} {w : Y93} (hb : Both g h w) (hr : Yjs g) : Z63 w = some (Yku g.events (refB h)) := by
 have hfl := hr.fits.len
 have hlc := hb.lc
 unfold Z63
 rw [Y4k (decide_eq_true (by omega)), Option.bind_some, Int.toNat_natCast]
 rw [Ykw (by omega) (fun l i => by simp only [Z62]), Option.bind_some]
 have := Ykv hb hr
 rw [hb.graph] at this
 rw [this]; rfl
end Go.Proofs.YtbgichfjcnibpaaGreat
namespace Go.Proofs.YtbgichfjcnibpaaGreat
open Go Go.Abs


theorem Yl4 {α σ τ ω : Type} {l : List α} {step : τ → Option (τ ⊕ ω)} (emb : σ → Int → τ) (fin : σ → ω) (bad : ω) (p : Nat → Bool) (g : σ → α → σ) (I : Nat → σ → Prop) (hl : l.length < 9223372036854775807)
  (h1 : ∀ (i : Nat) (s : σ) (hi : i < l.length), I i s → (∀ j, j < i → p j = true) → step (emb s i) = some (cond (p i) (.inl (emb (g s l[i]) ((i + 1 : Nat) : Int))) (.inr bad)) ∧ (p i = true → I (i + 1) (g s l[i])))
  (h2 : ∀ s, I l.length s → step (emb s l.length) = some (.inr (fin s))) {s : σ} (h0 : I 0 s) :
  ((∀ i, i < l.length → p i = true) ∧ iter step big (emb s 0) = some (fin (l.foldl g s)) ∧ I l.length (l.foldl g s)) ∨ ((∃ i, i < l.length ∧ p i = false) ∧ iter step big (emb s 0) = some bad) := by
 have key : ∀ m i k : Nat, ∀ s, i + m = l.length → m < k → I i s → (∀ j, j < i → p j = true) →
   ((∀ i, i < l.length → p i = true) ∧ iter step k (emb s i) = some (fin ((l.drop i).foldl g s)) ∧ I l.length ((l.drop i).foldl g s)) ∨ ((∃ i, i < l.length ∧ p i = false) ∧ iter step k (emb s i) = some bad) := by
  intro m
  induction m with
  | zero =>
   intro i k s hm hk hi hp
   obtain ⟨k, rfl⟩ : ∃ k', k = k' + 1 := ⟨k - 1, by omega⟩
   obtain rfl : i = l.length := by omega
   rw [iter, h2 s hi, List.drop_length]
   exact .inl ⟨hp, rfl, hi⟩
  | succ m ih =>
   intro i k s hm hk hi hp
   obtain ⟨k, rfl⟩ : ∃ k', k = k' + 1 := ⟨k - 1, by omega⟩
   have hil : i < l.length := by omega
   obtain ⟨e1, e2⟩ := h1 i s hil hi hp
   cases hpi : p i with
   | false =>
    rw [hpi] at e1
    exact .inr ⟨⟨i, hil, hpi⟩, by rw [iter, e1]; rfl⟩
   | true =>
    rw [hpi] at e1
    rw [iter, e1, List.drop_eq_getElem_cons hil, List.foldl_cons]
    exact ih (i + 1) k _ (by omega) (by omega) (e2 hpi) fun j hj => by
     rcases Nat.lt_or_ge j i with h | h
     ·
      exact hp j h
     ·
      obtain rfl : j = i := by omega
      exact hpi
 have := key l.length 0 big s (by omega) (Ydi (by omega)) h0 fun j hj => by omega
 simpa using this


abbrev Pr := Int × Int
def pr (x : Y8z) : Pr := (x.room, x.id)
def prs (l : List Y8z) : List Pr := l.map pr
def posP (l : List Pr) (y : Pr) : Int := if y ∈ l then (l.idxOf y : Int) + 1 else 0

theorem Yl5 (l : List Pr) (a y : Pr) : posP (l ++ [a]) y = if y ∈ l then posP l y else if y = a then (l.length : Int) + 1 else 0 := by
 unfold posP
 by_cases h : y ∈ l
 ·
  rw [if_pos h, if_pos h, if_pos (by simp [h]), List.idxOf_append, if_pos h]
 ·
  rw [if_neg h]
  by_cases ha : y = a
  ·
   subst ha
   rw [if_pos (by simp), if_pos rfl, List.idxOf_append, if_neg h]
   simp
  ·
   rw [if_neg (by simp [h, ha]), if_neg ha]
theorem Yl6 {l : List Pr} {y : Pr} : 0 < posP l y ↔ y ∈ l := by
 unfold posP
 by_cases h : y ∈ l
 ·
  rw [if_pos h]; exact ⟨fun _ => h, fun _ => by omega⟩
 ·
  rw [if_neg h]; exact ⟨fun x => by omega, fun x => absurd x h⟩
theorem Yl7 (l : List Pr) (y : Pr) : 0 ≤ posP l y ∧ posP l y ≤ l.length := by
 unfold posP
 by_cases h : y ∈ l
 ·
  have := List.idxOf_lt_length_of_mem h
  rw [if_pos h]; omega
 ·
  rw [if_neg h]; omega
theorem Yl8 {l : List Pr} {y : Pr} {i : Nat} (hi : i ≤ l.length) : y ∈ l.take i ↔ y ∈ l ∧ l.idxOf y < i := by
 constructor
 ·
  intro h
  refine ⟨List.mem_of_mem_take h, ?_⟩
  have e : l = l.take i ++ l.drop i := (List.take_append_drop i l).symm
  have h2 := List.idxOf_lt_length_of_mem h
  rw [List.length_take] at h2
  rw [e, List.idxOf_append, if_pos h]
  omega
 ·
  rintro ⟨h, hlt⟩
  have h1 := List.idxOf_lt_length_of_mem h
  have : l[l.idxOf y] = y := List.getElem_idxOf h1
  rw [List.mem_take_iff_getElem]
  exact ⟨l.idxOf y, by omega, this⟩
theorem Yl9 {l : List Pr} {y : Pr} {i : Nat} (hi : i ≤ l.length) : y ∈ l.take i ↔ 0 < posP l y ∧ posP l y ≤ i := by
 rw [Yl8 hi, Yl6]
 unfold posP
 constructor
 ·
  rintro ⟨h, hlt⟩; rw [if_pos h]; exact ⟨h, by omega⟩
 ·
  rintro ⟨h, hlt⟩; rw [if_pos h] at hlt; exact ⟨h, by omega⟩
theorem Yla {α : Type} {l : List α} (h : l.Nodup) {i j : Nat} (hi : i < l.length) (hj : j < l.length) (e : l[i] = l[j]) : i = j := by
 have hp := List.pairwise_iff_getElem.1 (List.nodup_iff_pairwise_ne.1 h)
 rcases Nat.lt_trichotomy i j with h1 | h1 | h1
 ·
  exact absurd e (hp i j hi hj h1)
 ·
  exact h1
 ·
  exact absurd e.symm (hp j i hj hi h1)
theorem Ylb {l : List Pr} (h : l.Nodup) {i : Nat} (hi : i < l.length) : l.idxOf l[i] = i := by
 have hm : l[i] ∈ l := List.getElem_mem hi
 have h1 := List.idxOf_lt_length_of_mem hm
 have e : l[l.idxOf l[i]] = l[i] := List.getElem_idxOf h1
 exact Yla h h1 hi e
theorem Ylc {l : List Pr} : l.Nodup ↔ ∀ (i : Nat) (hi : i < l.length), l[i] ∉ l.take i := by
 constructor
 ·
  intro h i hi hm
  have := (Yl8 (by omega)).1 hm
  rw [Ylb h hi] at this
  omega
 ·
  intro h
  rw [List.nodup_iff_pairwise_ne, List.pairwise_iff_getElem]
  intro i j hi hj hij e
  exact h j hj (by rw [List.mem_take_iff_getElem]; exact ⟨i, by omega, e⟩)

theorem Yld : ∀ {a l : List Pr}, a.Nodup → (∀ x ∈ a, x ∈ l) → a.length ≤ l.length
 | [], _, _, _ => Nat.zero_le _
 | x :: a, l, hn, hs => by
  simp only [List.nodup_cons] at hn
  have hx : x ∈ l := hs x (by simp)
  have := Yld (l := l.erase x) hn.2 fun y hy => (List.mem_erase_of_ne (fun e => hn.1 (by rw [← e]; exact hy))).2 (hs y (by simp [hy]))
  rw [List.length_erase_of_mem hx] at this
  have : 0 < l.length := List.length_pos_of_mem hx
  simp only [List.length_cons]; omega
theorem Yle {a l : List Pr} (hn : a.Nodup) (hs : ∀ x ∈ a, x ∈ l) (hl : l.length ≤ a.length) : ∀ x ∈ l, x ∈ a := by
 intro x hx
 by_cases h : x ∈ a
 ·
  exact h
 ·
  have := Yld (a := x :: a) (l := l) (List.nodup_cons.2 ⟨h, hn⟩) fun y hy => by
   rcases List.mem_cons.1 hy with rfl | hy
   ·
    exact hx
   ·
    exact hs y hy
  simp only [List.length_cons] at this
  omega


def Ylf : Y95 := ⟨⟨0, [], []⟩, [], [], [], []⟩
def hiG (g : Y90) : Y95 := (Zee g).getD Ylf
def knG (g : Y90) : Y93 := (Z5o g).getD ⟨[], [], [], []⟩
theorem Ylg {g : Y90} (hr : Yjs g) : Zee g = some (hiG g) ∧ Z5o g = some (knG g) ∧ Both g (hiG g) (knG g) := by
 obtain ⟨h, w, h1, h2, h3⟩ := Yjx hr
 unfold hiG knG
 rw [h1, h2]
 exact ⟨rfl, rfl, h3⟩

def okB (g : Y90) (id : Int) : Bool := refB (hiG g) id
def posG (s : List Pr) (g : Y90) : List Int := g.events.map fun e => posP s (g.room, e.id)
def nowG (g : Y90) : List Y92 := nowT g (hiG g) (okB g)
def wOf (h : Y91) : Y94 := ⟨h, h.rooms.map knG, h.rooms.map (posG (prs h.stream)), h.rooms.map nowG⟩

theorem Ylh {s : List Pr} {g : Y90} {j : Nat} (hj : j < g.events.length) (h2 : j < (posG s g).length) : (posG s g)[j] = posP s (g.room, g.events[j].id) := List.getElem_map _

theorem Yli {h : Y91} {g : Y90} (hr : Yjs g) (hn : (prs h.stream).Nodup) (hl : h.stream.length ≤ 120) :
  iter (fun z : List Int × Int => Z6d h g z.1 z.2) big (List.replicate g.events.length 0, 0) = some (posG (prs h.stream) g) := by
 have hfl := hr.fits.len
 obtain ⟨o, e1, rfl⟩ := Ydl (τ := List Int × Int) (ω := List Int) (σ := List Int) (step := fun z : List Int × Int => Z6d h g z.1 z.2) (n := h.stream.length) (fun s j => (s, j)) (fun i s => s = posG ((prs h.stream).take i) g) (fun o => o = posG (prs h.stream) g) (by omega) (by
  rintro i s hi rfl
  have hil : i < (prs h.stream).length := by unfold prs; rw [List.length_map]; exact hi
  have eL : (prs h.stream)[i] = (h.stream[i].room, h.stream[i].id) := List.getElem_map pr
  have etk : (prs h.stream).take (i + 1) = (prs h.stream).take i ++ [(h.stream[i].room, h.stream[i].id)] := by rw [List.take_add_one, List.getElem?_eq_getElem hil, eL]; rfl
  have hnot := Ylc.1 hn i hil
  rw [eL] at hnot
  have hw := Ydo hi (by omega : h.stream.length < 9223372036854775807)
  have hlt : ((prs h.stream).take i).length = i := by rw [List.length_take]; omega
  have hskip : (∀ e ∈ g.events, (g.room, e.id) ≠ (h.stream[i].room, h.stream[i].id)) → posG ((prs h.stream).take i) g = posG ((prs h.stream).take (i + 1)) g := fun hx => by
   unfold posG
   refine List.map_congr_left fun e he => ?_
   rw [etk, Yl5]
   by_cases hm : (g.room, e.id) ∈ (prs h.stream).take i
   ·
    rw [if_pos hm]
   ·
    rw [if_neg hm, if_neg (hx e he)]
    unfold posP; rw [if_neg hm]
  simp only [Z6d]
  rw [dlt hi, cond_true, Ydn hi, Option.bind_some, Yek _ _ (by omega), Option.bind_some, beqd]
  by_cases hroom : h.stream[i].room = g.room
  ·
   rw [decide_eq_true hroom, cond_true, Yel]
   cases hh : hasE g.events h.stream[i].id with
   | false =>
    refine ⟨_, by simp only [Z6c, Z6b, cond_false]; rw [hw], hskip fun e he ee => ?_⟩
    have : e.id = h.stream[i].id := (Prod.mk.inj ee).2
    have := Yeq.2 ⟨e, he, this⟩
    rw [hh] at this; cases this
   | true =>
    obtain ⟨k, hk, h1, h2, h3⟩ := Yen hh
    have hkl : k < (posG ((prs h.stream).take i) g).length := by unfold posG; rw [List.length_map]; exact hk
    refine ⟨(posG ((prs h.stream).take i) g).set k ((i + 1 : Nat) : Int), by simp only [Z6c, Z6b, cond_true]; rw [h1, Ydn hkl, Option.bind_some, Int.toNat_natCast, hw], ?_⟩
    refine List.ext_getElem (by simp [posG]) fun j hj1 hj2 => ?_
    have hj : j < g.events.length := by simpa [posG] using hj2
    have hj0 : j < (posG ((prs h.stream).take i) g).length := by simpa [posG] using hj
    rw [List.getElem_set, Ylh hj hj2, Ylh hj hj0]
    simp only [etk]
    rw [Yl5]
    by_cases hjk : k = j
    ·
     subst hjk
     have ee : (g.room, g.events[k].id) = (h.stream[i].room, h.stream[i].id) := by rw [h2, hroom]
     rw [if_pos rfl, ee, if_neg hnot, if_pos rfl, hlt]; omega
    ·
     rw [if_neg hjk]
     by_cases hm : (g.room, g.events[j].id) ∈ (prs h.stream).take i
     ·
      rw [if_pos hm]
     ·
      rw [if_neg hm, if_neg (fun ee => hjk (hr.fits.up.inj hk hj (by rw [h2]; exact (Prod.mk.inj ee).2.symm)))]
      unfold posP; rw [if_neg hm]
  ·
   rw [decide_eq_false hroom, cond_false]
   exact ⟨_, by simp only [Z6c, Z6b, cond_false]; rw [hw], hskip fun e he ee => hroom (Prod.mk.inj ee).1.symm⟩) (by
  rintro s rfl
  simp only [Z6d]
  rw [dnlt, cond_false]
  exact ⟨_, rfl, by rw [show h.stream.length = (prs h.stream).length by simp [prs], List.take_length]⟩) (s := List.replicate g.events.length 0) (by
  show List.replicate g.events.length 0 = posG [] g
  exact List.ext_getElem (by simp [posG]) fun j h1 h2 => by simp [posG, posP])
 exact e1

theorem Ylj {h : Y91} (hr : ∀ g ∈ h.rooms, Yjs g) (hn : (prs h.stream).Nodup) (hl : h.stream.length ≤ 120) (h3 : h.rooms.length = 3) : Z6f h = some (wOf h) := by
 unfold Z6f
 have := Ye4 (l := h.rooms) (step := fun z : List Y93 × List (List Int) × List (List Y92) × Int => Z6e h z.1 z.2.1 z.2.2.1 z.2.2.2) (fun (q : List Y93 × List (List Int) × List (List Y92)) j => (q.1, q.2.1, q.2.2, j)) (fun q => q)
  (fun q g => (q.1 ++ [knG g], q.2.1 ++ [posG (prs h.stream) g], q.2.2 ++ [nowG g])) (fun i q => q.1.length = i ∧ q.2.1.length = i ∧ q.2.2.length = i) (by omega) (fun i q hi ⟨q1, q2, q3⟩ => by
  refine ⟨?_, by simp [q1], by simp [q2], by simp [q3]⟩
  have hg := hr _ (List.getElem_mem hi)
  have hfl := hg.fits.len
  obtain ⟨b1, b2, b3⟩ := Ylg hg
  have hp := Yli hg hn hl
  simp only [Z6e]
  rw [dlt hi, cond_true, Ydn hi, Option.bind_some, b2, Option.bind_some, Y4k (decide_eq_true (by simp; omega)), Option.bind_some, Yl3 b3 hg, Option.bind_some, Yl2 b3 hg, Option.bind_some, Yh1 (by simp; omega), Option.bind_some, Y4k (decide_eq_true (by omega)), Option.bind_some, Int.toNat_natCast, hp, Option.bind_some]
  simp only [Z6a]
  rw [Yh1 (by simp; omega), Option.bind_some, Ydo hi (by omega)]
  rfl)
  (fun q _ => by simp only [Z6e]; rw [dnlt, cond_false]) (s := ([], [], [])) ⟨rfl, rfl, rfl⟩
 rw [this.1, Option.bind_some]
 have key : ∀ (l : List Y90) (q : List Y93 × List (List Int) × List (List Y92)), l.foldl (fun q g => (q.1 ++ [knG g], q.2.1 ++ [posG (prs h.stream) g], q.2.2 ++ [nowG g])) q = (q.1 ++ l.map knG, q.2.1 ++ l.map (posG (prs h.stream)), q.2.2 ++ l.map nowG) := by
  intro l
  induction l with
  | nil => intro q; simp
  | cons g l ih => intro q; rw [List.foldl_cons, ih]; simp
 rw [key]
 simp only [List.nil_append, Z69]
 rfl
end Go.Proofs.YtbgichfjcnibpaaGreat
namespace Go.Proofs.YtbgichfjcnibpaaGreat
open Go Go.Abs

def inS (s : List Pr) (g : Y90) (e : Y8x) : Bool := decide (0 < posP s (g.room, e.id))
def strE (s : List Pr) (g : Y90) (e : Y8x) : Bool := (okB g e.id == inS s g e) && (!inS s g e || e.prev.all fun p => decide (posP s (g.room, p) < posP s (g.room, e.id)))
def Ylk (s : List Pr) (g : Y90) : Nat := (g.events.filter (inS s g)).length
def Yll (s : List Pr) (l : List Y90) : Nat := (l.map (Ylk s)).sum

theorem Ylm (s : List Pr) (g : Y90) : ∀ (l : List Y8x) (m : Int), l.foldl (fun m e => if inS s g e = true then m + 1 else m) m = m + (l.filter (inS s g)).length
 | [], m => by simp
 | e :: l, m => by
  rw [List.foldl_cons, Ylm s g l]
  cases h : inS s g e with
  | true => rw [if_pos rfl, List.filter_cons_of_pos h, List.length_cons]; omega
  | false => rw [if_neg (by simp), List.filter_cons_of_neg (by simp [h])]
theorem Yln (s : List Pr) : ∀ (l : List Y90) (m : Int), l.foldl (fun m g => m + (Ylk s g : Int)) m = m + (Yll s l : Nat)
 | [], m => by simp [Yll]
 | g :: l, m => by
  rw [List.foldl_cons, Yln s l]
  unfold Yll
  rw [List.map_cons, List.sum_cons]
  omega

def atB {α : Type} (l : List α) (p : α → Bool) (i : Nat) : Bool := if h : i < l.length then p l[i] else true
theorem Ylo {α : Type} {l : List α} {p : α → Bool} {i : Nat} (h : i < l.length) : atB l p i = p l[i] := by unfold atB; rw [dif_pos h]
theorem Ylp {α : Type} {l : List α} {p : α → Bool} : (∀ i, i < l.length → atB l p i = true) ↔ l.all p = true := Ye2
theorem Ylq {α : Type} {l : List α} {p : α → Bool} (h : ∃ i, i < l.length ∧ atB l p i = false) : l.all p = false := by
 obtain ⟨i, hi, hb⟩ := h
 rw [Bool.eq_false_iff]
 intro ha
 have := Ylp.2 ha i hi
 rw [hb] at this; cases this

theorem Ylr {s : List Pr} {g : Y90} (hr : Yjs g) {k : Nat} (hk : k < g.events.length) :
  iter (Z6m g (k : Int) (posG s g) (posP s (g.room, g.events[k].id))) big 0 = some (cond (!inS s g g.events[k] || g.events[k].prev.all fun p => decide (posP s (g.room, p) < posP s (g.room, g.events[k].id))) (.inr ()) (.inl false)) := by
 have hpl := hr.fits.plen _ (List.getElem_mem hk)
 have hfl := hr.fits.len
 cases hin : inS s g g.events[k] with
 | false =>
  have h0 : decide (posP s (g.room, g.events[k].id) > 0) = false := hin
  rw [Y4n (o := .inr ()) (fun m (x : Int) => x = 0 ∧ m = 0) ?_ (m := 0) ⟨rfl, rfl⟩ (Ydi (by omega))]
  ·
   rfl
  ·
   rintro m x ⟨rfl, rfl⟩
   left
   simp only [Z6m]
   rw [Ydn hk, Option.bind_some, h0]
   cases decide ((0 : Int) < (g.events[k].prev.length : Int)) <;> rfl
 | true =>
  have h0 : decide (posP s (g.room, g.events[k].id) > 0) = true := hin
  rw [Ye3 (l := g.events[k].prev) (fun p => decide (posP s (g.room, p) < posP s (g.room, g.events[k].id))) (.inl false) (.inr ()) hpl (fun i hi => by
   obtain ⟨j, hj, j1, j2, _⟩ := Yen (hr.fits.whole _ (List.getElem_mem hk) _ (List.getElem_mem hi))
   have hjl : j < (posG s g).length := by unfold posG; rw [List.length_map]; exact hj
   simp only [Z6m]
   rw [Ydn hk, Option.bind_some, dlt hi, cond_true, h0]
   simp only [Z6l]
   rw [Ydn hk, cond_true, Option.bind_some, Ydn hi, Option.bind_some, Yek _ _ (by omega), Option.bind_some, j1, Ydn hjl, Option.bind_some, Ylh hj, j2, Ydo hi hpl]
   by_cases hc : posP s (g.room, g.events[k].prev[i]) < posP s (g.room, g.events[k].id)
   ·
    rw [decide_eq_true hc, decide_eq_false (by omega)]; rfl
   ·
    rw [decide_eq_false hc, decide_eq_true (by omega)]; rfl) (by
   simp only [Z6m]
   rw [Ydn hk, Option.bind_some, dnlt, cond_false]; rfl)]
  rfl

theorem Yls {g : Y90} (hr : Yjs g) {k : Nat} (hk : k < g.events.length) : ∃ c, getI (knG g).code (k : Int) = some c ∧ (c == 0) = okB g g.events[k].id := by
 obtain ⟨c, h1, h2⟩ := (Ylg hr).2.2.code (List.getElem_mem hk)
 rw [(hr.fits.up.plc hk).1] at h1
 refine ⟨c, h1, ?_⟩
 unfold okB refB
 rw [h2, beqd]

theorem Ylt {h : Y91} {i : Nat} (hi : i < h.rooms.length) (hr : Yjs h.rooms[i]) {m : Int} (hm : 0 ≤ m ∧ m ≤ 1000) :
  iter (fun z : Int × Int => Z6n (wOf h) (i : Int) h.rooms[i] z.1 z.2) big (m, 0) = some (cond (h.rooms[i].events.all (strE (prs h.stream) h.rooms[i])) (.inr (m + (Ylk (prs h.stream) h.rooms[i] : Int))) (.inl false)) := by
 have hfl := hr.fits.len
 have g1 : getI (wOf h).rooms (i : Int) = some (knG h.rooms[i]) := Ykx knG hi
 have g2 : getI (wOf h).pos (i : Int) = some (posG (prs h.stream) h.rooms[i]) := Ykx _ hi
 have := Yl4 (l := h.rooms[i].events) (step := fun z : Int × Int => Z6n (wOf h) (i : Int) h.rooms[i] z.1 z.2) (fun q j => (q, j)) (fun q => Sum.inr q) (Sum.inl false) (atB h.rooms[i].events (strE (prs h.stream) h.rooms[i])) (fun m e => if inS (prs h.stream) h.rooms[i] e = true then m + 1 else m) (fun k q => 0 ≤ q ∧ q ≤ 1000 + k) (by omega) (fun k q hk ⟨q1, q2⟩ _ => by
  refine ⟨?_, fun _ => by split <;> omega⟩
  obtain ⟨c, c1, c2⟩ := Yls hr hk
  have hkl : k < (posG (prs h.stream) h.rooms[i]).length := by unfold posG; rw [List.length_map]; exact hk
  have hp := Ylr (s := prs h.stream) hr hk
  have hw := Ydo hk (by omega : h.rooms[i].events.length < 9223372036854775807)
  have hin : decide (posP (prs h.stream) (h.rooms[i].room, h.rooms[i].events[k].id) > 0) = inS (prs h.stream) h.rooms[i] h.rooms[i].events[k] := rfl
  simp only [Z6n]
  rw [dlt hk, cond_true, g1, Option.bind_some, c1, Option.bind_some, g2, Option.bind_some, Ydn hkl, Option.bind_some, Ylh hk, c2, hin, hp, Option.bind_some, Ylo hk]
  unfold strE
  cases ho : okB h.rooms[i] h.rooms[i].events[k].id == inS (prs h.stream) h.rooms[i] h.rooms[i].events[k] with
  | false => rfl
  | true =>
   rw [cond_true, Bool.true_and]
   cases hc : (!inS (prs h.stream) h.rooms[i] h.rooms[i].events[k] || h.rooms[i].events[k].prev.all fun p => decide (posP (prs h.stream) (h.rooms[i].room, p) < posP (prs h.stream) (h.rooms[i].room, h.rooms[i].events[k].id))) with
   | false => rfl
   | true =>
    simp only [cond_true, Z6k, Z6j]
    rw [hin, hw, Y4j (n := q + 1) (by omega) (by omega)]
    cases inS (prs h.stream) h.rooms[i] h.rooms[i].events[k] <;> rfl)
  (fun q _ => by simp only [Z6n]; rw [dnlt, cond_false]) (s := m) ⟨hm.1, by omega⟩
 rcases this with ⟨a1, a2, _⟩ | ⟨a1, a2⟩
 ·
  rw [a2, Ylp.1 a1, Ylm]; rfl
 ·
  rw [a2, Ylq a1]; rfl

theorem Ylu {s : List Pr} {g : Y90} (hr : Yjs g) : Ylk s g ≤ 60 := Nat.le_trans (List.length_filter_le _ _) hr.fits.len

theorem Ylv {h : Y91} (hr : ∀ g ∈ h.rooms, Yjs g) (h3 : h.rooms.length = 3) (hl : h.stream.length ≤ 120) :
  Z6p (wOf h) = some ((h.rooms.all fun g => g.events.all (strE (prs h.stream) g)) && decide (Yll (prs h.stream) h.rooms = h.stream.length)) := by
 unfold Z6p
 have := Yl4 (l := h.rooms) (step := fun z : Int × Int => Z6o (wOf h) z.1 z.2) (fun q j => (q, j)) (fun q => Sum.inr q) (Sum.inl false) (atB h.rooms fun g => g.events.all (strE (prs h.stream) g)) (fun m g => m + (Ylk (prs h.stream) g : Int)) (fun k q => 0 ≤ q ∧ q ≤ 60 * k) (by omega) (fun k q hk ⟨q1, q2⟩ _ => by
  have hg := hr _ (List.getElem_mem hk)
  have hml := Ylu (s := prs h.stream) hg
  refine ⟨?_, fun _ => by omega⟩
  have hev := Ylt (h := h) hk hg (m := q) ⟨q1, by omega⟩
  have g0 : getI (wOf h).h.rooms (k : Int) = some h.rooms[k] := Ydn hk
  have hw := Ydo hk (by omega : h.rooms.length < 9223372036854775807)
  have hd : decide ((k : Int) < ((wOf h).h.rooms.length : Int)) = true := dlt hk
  simp only [Z6o]
  rw [hd, cond_true, g0, Option.bind_some, hev, Option.bind_some, Ylo hk]
  cases h.rooms[k].events.all (strE (prs h.stream) h.rooms[k]) with
  | false => rfl
  | true => simp only [cond_true, Z6i]; rw [hw])
  (fun q _ => by
   have hd : decide ((h.rooms.length : Int) < ((wOf h).h.rooms.length : Int)) = false := dnlt _
   simp only [Z6o]; rw [hd, cond_false]) (s := 0) ⟨by omega, by omega⟩
 rcases this with ⟨a1, a2, _⟩ | ⟨a1, a2⟩
 ·
  rw [a2, Ylp.1 a1, Yln, Option.bind_some]
  simp only [Z6h]
  rw [beqd, Bool.true_and]
  congr 1
  rw [Bool.eq_iff_iff]
  simp only [decide_eq_true_eq]
  show (0 + ((Yll (prs h.stream) h.rooms : Nat) : Int) = (h.stream.length : Int)) ↔ _
  omega
 ·
  rw [a2, Ylq a1]; rfl
end Go.Proofs.YtbgichfjcnibpaaGreat
namespace Go.Proofs.YtbgichfjcnibpaaGreat
open Go Go.Abs

structure Ylw (h : Y91) : Prop where
 rl : h.rooms.length ≤ 1048576
 sl : h.stream.length ≤ 1048576
 fine : ∀ g ∈ h.rooms, Fine g

def gB (g : Y90) : Bool := (Z2u g).getD false
theorem Ylx {g : Y90} (hg : Fine g) : Z2u g = some (gB g) ∧ Z9w g = some (gB g) ∧ (gB g = true ↔ GOk g) := by
 obtain ⟨b, h1, h2, h3⟩ := Ygw hg
 unfold gB
 rw [h1]
 exact ⟨rfl, h2, h3⟩
def rB (l : List Y90) (i : Nat) : Bool := if h : i < l.length then gB l[i] && decide (l[i].room = (i : Int) + 1) else true
theorem Yly {l : List Y90} {i : Nat} (h : i < l.length) : rB l i = (gB l[i] && decide (l[i].room = (i : Int) + 1)) := by unfold rB; rw [dif_pos h]
def Ylz (h : Y91) : Prop := ∀ (i : Nat) (hi : i < h.rooms.length), GOk h.rooms[i] ∧ h.rooms[i].room = (i : Int) + 1
theorem Ym0 {h : Y91} (hf : Ylw h) : (∀ i, i < h.rooms.length → rB h.rooms i = true) ↔ Ylz h := by
 constructor
 ·
  intro k i hi
  have := k i hi
  rw [Yly hi, Bool.and_eq_true] at this
  exact ⟨(Ylx (hf.fine _ (List.getElem_mem hi))).2.2.1 this.1, by simpa using this.2⟩
 ·
  intro k i hi
  rw [Yly hi, Bool.and_eq_true]
  exact ⟨(Ylx (hf.fine _ (List.getElem_mem hi))).2.2.2 (k i hi).1, by simpa using (k i hi).2⟩
theorem Ylz.right {h : Y91} (k : Ylz h) : ∀ g ∈ h.rooms, Yjs g := fun g hg => by
 obtain ⟨i, hi, rfl⟩ := List.mem_iff_getElem.1 hg
 exact (k i hi).1.right


def zW : Y94 := ⟨⟨[], []⟩, [], [], []⟩
def OkS (h : Y91) : Prop := h.rooms.length = 3 ∧ h.stream.length ≤ 120 ∧ Ylz h ∧ (prs h.stream).Nodup ∧ (∀ g ∈ h.rooms, ∀ e ∈ g.events, strE (prs h.stream) g e = true) ∧ Yll (prs h.stream) h.rooms = h.stream.length

theorem Ym1 {l : List Y8z} {i : Nat} (hi : i < l.length) (h2 : i < (prs l).length) : (prs l)[i] = (l[i].room, l[i].id) := List.getElem_map pr
theorem Ym2 (l : List Y8z) : (prs l).length = l.length := List.length_map pr

theorem eqSp (a b c d : Int) : ((a == b) && ((c == d) && true)) = decide ((b, d) = (a, c)) := by
 rw [Bool.eq_iff_iff]
 simp only [Bool.and_eq_true, beq_iff_eq, and_true, decide_eq_true_eq, Prod.mk.injEq]
 exact ⟨fun x => ⟨x.1.symm, x.2.symm⟩, fun x => ⟨x.1.symm, x.2.symm⟩⟩

theorem Ym3 {h : Y91} (hl : h.stream.length ≤ 120) {i : Nat} (hi : i < h.stream.length) :
  iter (Z6t h (i : Int)) big 0 = some (cond (!decide ((h.stream[i].room, h.stream[i].id) ∈ (prs h.stream).take i)) (.inr ()) (.inl (zW, false))) := by
 have hlt : ((prs h.stream).take i).length = i := by rw [List.length_take, Ym2]; omega
 have hgt : ∀ (k : Nat) (hk : k < ((prs h.stream).take i).length), ((prs h.stream).take i)[k] = (h.stream[k].room, h.stream[k].id) := fun k hk => by
  rw [List.getElem_take]; exact Ym1 _ _
 rw [Ye3 (l := (prs h.stream).take i) (step := Z6t h (i : Int)) (fun y => !decide (y = (h.stream[i].room, h.stream[i].id))) (.inl (zW, false)) (.inr ()) (by omega) (fun k hk => by
  have hki : k < i := by omega
  simp only [Z6t]
  rw [dlt hki, cond_true, Ydn hi, Option.bind_some, Ydn (by omega : k < h.stream.length), Option.bind_some, hgt k hk, Ydo hki (by omega)]
  rw [eqSp]
  cases decide ((h.stream[k].room, h.stream[k].id) = (h.stream[i].room, h.stream[i].id)) <;> rfl) (by
  simp only [Z6t]
  rw [hlt, dnlt, cond_false])]
 congr 2
 rw [Bool.eq_iff_iff, List.all_eq_true]
 simp only [Bool.not_eq_true', decide_eq_false_iff_not]
 constructor
 ·
  exact fun k hm => k _ hm rfl
 ·
  exact fun k y hy e => k (e ▸ hy)

theorem Ym4 {h : Y91} (hf : Ylw h) : ∃ b : Bool, (b = true ↔ OkS h) ∧ Z6z h = some (cond b (wOf h, true) (zW, false)) := by
 have hrl := hf.rl
 have hsl := hf.sl
 unfold Z6z
 by_cases h3 : (h.rooms.length : Int) = 3
 rotate_left
 ·
  refine ⟨false, ⟨fun x => (by cases x), fun x => absurd x.1 (by omega)⟩, ?_⟩
  rw [bned, decide_eq_false h3]; rfl
 by_cases hl : (h.stream.length : Int) > 120
 ·
  refine ⟨false, ⟨fun x => (by cases x), fun x => absurd x.2.1 (by omega)⟩, ?_⟩
  rw [bned, decide_eq_true h3, decide_eq_true hl]; rfl
 rw [bned, decide_eq_true h3, decide_eq_false hl]
 simp only [Bool.not_true, cond_false, Z6y]
 have hl' : h.stream.length ≤ 120 := by omega
 have h3' : h.rooms.length = 3 := by omega
 have := Yl4 (l := h.rooms) (step := fun z : Int => Z6x h z) (fun (_ : Unit) j => j) (fun _ => Sum.inr ()) (Sum.inl (zW, false)) (rB h.rooms) (fun q _ => q) (fun _ _ => True) (by omega) (fun k q hk _ _ => by
  refine ⟨?_, fun _ => trivial⟩
  obtain ⟨b1, _, _⟩ := Ylx (hf.fine _ (List.getElem_mem hk))
  have hw := Ydo hk (by omega : h.rooms.length < 9223372036854775807)
  simp only [Z6x]
  rw [dlt hk, cond_true, Ydn hk, Option.bind_some, b1, Option.bind_some, Yly hk, hw, bned]
  cases gB h.rooms[k] with
  | false => rfl
  | true =>
   simp only [cond_true, Bool.true_and, Z6w, hw]
   by_cases hc : h.rooms[k].room = (k : Int) + 1
   ·
    rw [decide_eq_true hc, decide_eq_true (by omega)]; rfl
   ·
    rw [decide_eq_false hc, decide_eq_false (by omega)]; rfl)
  (fun q _ => by simp only [Z6x]; rw [dnlt, cond_false]) (s := ()) trivial
 rcases this with ⟨a1, a2, _⟩ | ⟨⟨i, hi, a1⟩, a2⟩
 rotate_left
 ·
  refine ⟨false, ⟨fun x => (by cases x), fun x => ?_⟩, ?_⟩
  ·
   have := (Ym0 hf).2 x.2.2.1 i hi
   rw [a1] at this; cases this
  ·
   have a2' : iter (Z6x h) big 0 = some (Sum.inl (zW, false)) := a2
   rw [a2']; rfl
 have hro := (Ym0 hf).1 a1
 have a2' : iter (Z6x h) big 0 = some (Sum.inr ()) := a2
 rw [a2', Option.bind_some]
 simp only [Z6v]
 -- no repetition
 have := Yl4 (l := prs h.stream) (step := fun z : Int => Z6u h z) (fun (_ : Unit) j => j) (fun _ => Sum.inr ()) (Sum.inl (zW, false)) (fun i => if hi : i < (prs h.stream).length then !decide ((prs h.stream)[i] ∈ (prs h.stream).take i) else true) (fun q _ => q) (fun _ _ => True) (by rw [Ym2]; omega) (fun k q hk _ _ => by
  refine ⟨?_, fun _ => trivial⟩
  have hk' : k < h.stream.length := by rw [Ym2] at hk; exact hk
  have hw := Ydo hk' (by omega : h.stream.length < 9223372036854775807)
  have hd := Ym3 hl' hk'
  simp only [Z6u]
  rw [dlt hk', cond_true, hd, Option.bind_some, dif_pos hk, Ym1 hk']
  cases decide ((h.stream[k].room, h.stream[k].id) ∈ (prs h.stream).take k) with
  | false => simp only [Bool.not_false, cond_true, Z6s]; rw [hw]
  | true => rfl)
  (fun q _ => by simp only [Z6u]; rw [Ym2, dnlt, cond_false]) (s := ()) trivial
 rcases this with ⟨n1, n2, _⟩ | ⟨⟨i, hi, n1⟩, n2⟩
 rotate_left
 ·
  refine ⟨false, ⟨fun x => (by cases x), fun x => ?_⟩, ?_⟩
  ·
   rw [dif_pos hi] at n1
   have := Ylc.1 x.2.2.2.1 i hi
   simp [this] at n1
  ·
   have n2' : iter (Z6u h) big 0 = some (Sum.inl (zW, false)) := n2
   rw [n2']; rfl
 have hnd : (prs h.stream).Nodup := Ylc.2 fun i hi => by
  have := n1 i hi
  rw [dif_pos hi] at this
  simpa using this
 have n2' : iter (Z6u h) big 0 = some (Sum.inr ()) := n2
 rw [n2', Option.bind_some]
 simp only [Z6r]
 rw [Ylj hro.right hnd hl' h3', Option.bind_some, Ylv hro.right h3' hl', Option.bind_some]
 refine ⟨(h.rooms.all fun g => g.events.all (strE (prs h.stream) g)) && decide (Yll (prs h.stream) h.rooms = h.stream.length), ?_, ?_⟩
 ·
  rw [Bool.and_eq_true, List.all_eq_true, decide_eq_true_eq]
  constructor
  ·
   rintro ⟨k1, k2⟩
   exact ⟨h3', hl', hro, hnd, fun g hg e he => List.all_eq_true.1 (k1 g hg) e he, k2⟩
  ·
   rintro ⟨_, _, _, _, k1, k2⟩
   exact ⟨fun g hg => List.all_eq_true.2 fun e he => k1 g hg e he, k2⟩
 ·
  cases (h.rooms.all fun g => g.events.all (strE (prs h.stream) g)) && decide (Yll (prs h.stream) h.rooms = h.stream.length) <;> rfl
end Go.Proofs.YtbgichfjcnibpaaGreat
namespace Go.Proofs.YtbgichfjcnibpaaGreat
open Go Go.Abs

def zS : Y96 := ⟨⟨[], []⟩, []⟩
def sOf (h : Y91) : Y96 := ⟨h, h.rooms.map hiG⟩
def zG : Y90 := ⟨0, [], []⟩
def rmG (h : Y91) (r : Int) : Y90 := h.rooms.getD (r - 1).toNat zG
def stX (h : Y91) (i : Nat) (x : Y8z) : Bool :=
 decide (1 ≤ x.room ∧ x.room ≤ 3) && !decide ((x.room, x.id) ∈ (prs h.stream).take i) && hasE (rmG h x.room).events x.id && okB (rmG h x.room) x.id &&
  (evD (rmG h x.room).events x.id).prev.all fun p => !okB (rmG h x.room) p || decide ((x.room, p) ∈ (prs h.stream).take i)
def stB (h : Y91) (i : Nat) : Bool := if hi : i < h.stream.length then stX h i h.stream[i] else true
def Ym5 (g : Y90) : Nat := (accT g.events (okB g)).length
def Ym6 (l : List Y90) : Nat := (l.map Ym5).sum
theorem Ym7 : ∀ (l : List Y90) (q : List Y95 × Int), l.foldl (fun q g => (q.1 ++ [hiG g], q.2 + (Ym5 g : Int))) q = (q.1 ++ l.map hiG, q.2 + (Ym6 l : Nat))
 | [], q => by simp [Ym6]
 | g :: l, q => by
  rw [List.foldl_cons, Ym7 l]
  unfold Ym6
  rw [List.map_cons, List.map_cons, List.sum_cons, List.append_assoc]
  congr 1
  omega

theorem Ym8 {g : Y90} (hr : Yjs g) : Ym5 g ≤ 60 := Ykq hr.fits _

def OkI (h : Y91) : Prop := h.rooms.length = 3 ∧ h.stream.length ≤ 120 ∧ Ylz h ∧ (∀ i, i < h.stream.length → stB h i = true) ∧ Ym6 h.rooms = h.stream.length

theorem Ym9 {h : Y91} (h3 : h.rooms.length = 3) {r : Int} (hr : 1 ≤ r ∧ r ≤ 3) : ∃ (k : Nat) (hk : k < h.rooms.length), r = (k : Int) + 1 ∧ IntKind.i64.wrap (r - 1) = (k : Int) ∧ rmG h r = h.rooms[k] := by
 refine ⟨(r - 1).toNat, by omega, by omega, ?_, ?_⟩
 ·
  rw [Y4j (by omega) (by omega)]; omega
 ·
  unfold rmG
  rw [List.getD_eq_getElem?_getD, List.getElem?_eq_getElem (by omega)]; rfl

theorem Yma {g : Y90} (hg : Yjs g) {m : List (Pr × Bool)} {s : List Pr} {x : Y8z} (hm : ∀ y, Option.getD (pget m y) false = decide (y ∈ s)) (p : Int) :
  Zeo p (hiG g) m x = some (!(!okB g p || decide ((x.room, p) ∈ s))) := by
 unfold Zeo
 rw [beqd]
 show cond (okB g p) _ _ = _
 cases okB g p with
 | false => rfl
 | true => simp only [cond_true, Zen, hm]; simp

theorem Ymb {g : Y90} (hg : Yjs g) {m : List (Pr × Bool)} {s : List Pr} {x : Y8z} (hm : ∀ y, Option.getD (pget m y) false = decide (y ∈ s)) (l : List Int) (hl : l.length < 9223372036854775807) :
  Zeu l (hiG g) m x = some (!l.all fun p => !okB g p || decide ((x.room, p) ∈ s)) := by
 unfold Zeu Zes
 rw [Ye6 (Ye1 (l := l) (step := Zer l (hiG g) m x) (fun p => !(!okB g p || decide ((x.room, p) ∈ s))) hl (fun i hi => by
  simp only [Zer]
  rw [dlt hi, cond_true, Ydn hi, Option.bind_some, Yma hg hm, Option.bind_some, Ydo hi hl]
  cases (!okB g l[i] || decide ((x.room, l[i]) ∈ s)) <;> rfl) (by simp only [Zer]; rw [dnlt, cond_false])) (fun _ => rfl) rfl, Option.bind_some, Ye5, Yir]

theorem Ymc {h : Y91} (hro : Ylz h) (h3 : h.rooms.length = 3) (hl : h.stream.length ≤ 120) :
  ((∀ i, i < h.stream.length → stB h i = true) ∧ iter (fun z : List (Pr × Bool) × Int => Zf0 h (h.rooms.map hiG) z.1 z.2) big ([], 0) = some (.inr ())) ∨
  ((∃ i, i < h.stream.length ∧ stB h i = false) ∧ iter (fun z : List (Pr × Bool) × Int => Zf0 h (h.rooms.map hiG) z.1 z.2) big ([], 0) = some (.inl (zS, false))) := by
 have := Yl4 (l := h.stream) (step := fun z : List (Pr × Bool) × Int => Zf0 h (h.rooms.map hiG) z.1 z.2) (fun q j => (q, j)) (fun _ => Sum.inr ()) (Sum.inl (zS, false)) (stB h) (fun m x => pset m (x.room, x.id) true) (fun i m => ∀ y, Option.getD (pget m y) false = decide (y ∈ (prs h.stream).take i)) (by omega) (fun i m hi hm _ => by
  have hil : i < (prs h.stream).length := by rw [Ym2]; exact hi
  have etk : (prs h.stream).take (i + 1) = (prs h.stream).take i ++ [(h.stream[i].room, h.stream[i].id)] := by rw [List.take_add_one, List.getElem?_eq_getElem hil, Ym1 hi]; rfl
  refine ⟨?_, fun _ y => ?_⟩
  rotate_left
  ·
   rw [Y8c, etk]
   by_cases hy : y = (h.stream[i].room, h.stream[i].id)
   ·
    rw [if_pos hy, Option.getD_some]; simp [hy]
   ·
    rw [if_neg hy, hm]; simp [hy]
  have hw := Ydo hi (by omega : h.stream.length < 9223372036854775807)
  have hb : stB h i = stX h i h.stream[i] := by unfold stB; rw [dif_pos hi]
  rw [hb]
  simp only [Zf0]
  rw [dlt hi, cond_true, Ydn hi, Option.bind_some, Ydv, Option.bind_some]
  generalize h.stream[i] = x
  unfold stX
  by_cases hx : 1 ≤ x.room ∧ x.room ≤ 3
  rotate_left
  ·
   rw [decide_eq_false hx]; rfl
  rw [decide_eq_true hx, cond_true, hm, Bool.true_and]
  simp only [Zez]
  cases decide ((x.room, x.id) ∈ (prs h.stream).take i) with
  | true => rfl
  | false =>
   rw [cond_false, Bool.not_false, Bool.true_and]
   obtain ⟨k, hk, k1, k2, k3⟩ := Ym9 h3 hx
   have hg := hro.right _ (List.getElem_mem hk)
   have hfl := hg.fits.len
   have hgr : (hiG h.rooms[k]).graph = h.rooms[k] := (Ylg hg).2.2.graph
   have e1 : Zel (Y96.mk h (h.rooms.map hiG)) x.room = some (hiG h.rooms[k]) := by
    unfold Zel
    rw [k2]
    show (getI (h.rooms.map hiG) (k : Int)).bind _ = _
    rw [Ykx hiG hk]; rfl
   rw [e1, Option.bind_some, hgr, c_at _ _ hg.fits.up (by omega), Option.bind_some, k3]
   simp only [Zey]
   cases hh : hasE h.rooms[k].events x.id with
   | false => rfl
   | true =>
    rw [cond_true, Bool.true_and, bned]
    show cond (!okB h.rooms[k] x.id) _ _ = _
    cases okB h.rooms[k] x.id with
    | false => rfl
    | true =>
     rw [Bool.not_true, cond_false, Bool.true_and]
     have hev : Option.getD (evAt h.rooms[k].events x.id) zEv = evD h.rooms[k].events x.id := rfl
     have hpl := (hg.walk.prev (Yj4.1 hh)).1
     rw [hev, Ymb hg hm _ (by omega), Option.bind_some]
     simp only [Zex, hw]
     cases (evD h.rooms[k].events x.id).prev.all fun p => !okB h.rooms[k] p || decide ((x.room, p) ∈ (prs h.stream).take i) <;> rfl)
  (fun q _ => by simp only [Zf0]; rw [dnlt, cond_false]) (s := []) (fun y => by simp [pget])
 rcases this with ⟨a1, a2, _⟩ | ⟨a1, a2⟩
 ·
  exact .inl ⟨a1, a2⟩
 ·
  exact .inr ⟨a1, a2⟩

theorem Ymd {h : Y91} (hf : Ylw h) : ∃ b : Bool, (b = true ↔ OkI h) ∧ Zf5 h = some (cond b (sOf h, true) (zS, false)) := by
 have hrl := hf.rl
 have hsl := hf.sl
 unfold Zf5
 by_cases h3 : (h.rooms.length : Int) = 3
 rotate_left
 ·
  refine ⟨false, ⟨fun x => (by cases x), fun x => absurd x.1 (by omega)⟩, ?_⟩
  rw [bned, decide_eq_false h3]; rfl
 by_cases hl : (h.stream.length : Int) > 120
 ·
  refine ⟨false, ⟨fun x => (by cases x), fun x => absurd x.2.1 (by omega)⟩, ?_⟩
  rw [bned, decide_eq_true h3, decide_eq_true hl]; rfl
 rw [bned, decide_eq_true h3, decide_eq_false hl]
 simp only [Bool.not_true, cond_false, Zf4]
 have hl' : h.stream.length ≤ 120 := by omega
 have h3' : h.rooms.length = 3 := by omega
 have := Yl4 (l := h.rooms) (step := fun z : List Y95 × Int × Int => Zf3 h z.1 z.2.1 z.2.2) (fun (q : List Y95 × Int) j => (q.1, q.2, j)) (fun q => Sum.inr q) (Sum.inl (zS, false)) (rB h.rooms) (fun q g => (q.1 ++ [hiG g], q.2 + (Ym5 g : Int))) (fun i q => q.1.length = i ∧ 0 ≤ q.2 ∧ q.2 ≤ 60 * i) (by omega) (fun k q hk ⟨q1, q2, q3⟩ hp => by
  obtain ⟨_, b2, b3⟩ := Ylx (hf.fine _ (List.getElem_mem hk))
  have hw := Ydo hk (by omega : h.rooms.length < 9223372036854775807)
  have hb := Yly hk
  refine ⟨?_, fun ht => ?_⟩
  rotate_left
  ·
   rw [hb, Bool.and_eq_true] at ht
   have := Ym8 (b3.1 ht.1).right
   simp only [List.length_append, List.length_singleton]; omega
  simp only [Zf3]
  rw [dlt hk, cond_true, Ydn hk, Option.bind_some, b2, Option.bind_some, hb, hw, bned]
  cases hgB : gB h.rooms[k] with
  | false => rfl
  | true =>
   have hg := (b3.1 hgB).right
   obtain ⟨n1, _, n3⟩ := Ylg hg
   have hle := Ym8 hg
   have hac : Zej (hiG h.rooms[k]) = some (accT h.rooms[k].events (okB h.rooms[k])) := by
    have := Ykl (h := hiG h.rooms[k]) (by rw [n3.graph]; exact hg)
    rw [n3.graph] at this; exact this
   have hgt : getI (q.1 ++ [hiG h.rooms[k]]) (k : Int) = some (hiG h.rooms[k]) := Yfj (X := q.1) (Y := []) rfl q1.symm
   simp only [cond_true, Bool.true_and, Zf2]
   by_cases hc : h.rooms[k].room = (k : Int) + 1
   ·
    rw [decide_eq_true hc, decide_eq_true (by omega), Bool.not_true, cond_false, n1, Option.bind_some, Y4k (decide_eq_true (by simp; omega)), Option.bind_some, hgt, Option.bind_some, hac, Option.bind_some, hw, Y4j (n := q.2 + ((accT h.rooms[k].events (okB h.rooms[k])).length : Int)) (by unfold Ym5 at hle; omega) (by unfold Ym5 at hle; omega)]
    rfl
   ·
    rw [decide_eq_false hc, decide_eq_false (by omega)]; rfl)
  (fun q _ => by simp only [Zf3]; rw [dnlt, cond_false]) (s := ([], 0)) ⟨rfl, by omega, by omega⟩
 rcases this with ⟨a1, a2, _⟩ | ⟨⟨i, hi, a1⟩, a2⟩
 rotate_left
 ·
  refine ⟨false, ⟨fun x => (by cases x), fun x => ?_⟩, ?_⟩
  ·
   have := (Ym0 hf).2 x.2.2.1 i hi
   rw [a1] at this; cases this
  ·
   have a2' : iter (fun z : List Y95 × Int × Int => Zf3 h z.1 z.2.1 z.2.2) big ([], 0, 0) = some (Sum.inl (zS, false)) := a2
   rw [a2']; rfl
 have hro := (Ym0 hf).1 a1
 rw [Ym7] at a2
 have a2' : iter (fun z : List Y95 × Int × Int => Zf3 h z.1 z.2.1 z.2.2) big ([], 0, 0) = some (Sum.inr (h.rooms.map hiG, 0 + (Ym6 h.rooms : Int))) := a2
 rw [a2', Option.bind_some]
 simp only [Zf1]
 rcases Ymc hro h3' hl' with ⟨s1, s2⟩ | ⟨⟨i, hi, s1⟩, s2⟩
 ·
  rw [s2, Option.bind_some]
  simp only [Zew]
  rw [beqd]
  refine ⟨decide (0 + (Ym6 h.rooms : Int) = (h.stream.length : Int)), ?_, ?_⟩
  ·
   rw [decide_eq_true_eq]
   exact ⟨fun k => ⟨h3', hl', hro, s1, by omega⟩, fun k => by have := k.2.2.2.2; omega⟩
  ·
   cases decide (0 + (Ym6 h.rooms : Int) = (h.stream.length : Int)) <;> rfl
 ·
  rw [s2, Option.bind_some]
  exact ⟨false, ⟨fun x => (by cases x), fun x => by have := x.2.2.2.1 i hi; rw [s1] at this; cases this⟩, rfl⟩
end Go.Proofs.YtbgichfjcnibpaaGreat
namespace Go.Proofs.YtbgichfjcnibpaaGreat
open Go Go.Abs

def accG (g : Y90) : List Pr := (accT g.events (okB g)).map fun id => (g.room, id)
def accA (l : List Y90) : List Pr := l.flatMap accG
theorem Yme : ∀ l : List Y90, (accA l).length = Ym6 l
 | [] => rfl
 | g :: l => by
  unfold accA Ym6
  rw [List.flatMap_cons, List.length_append, List.map_cons, List.sum_cons]
  show (accG g).length + (accA l).length = _
  rw [Yme l]
  unfold accG Ym5
  rw [List.length_map]; rfl
theorem Ymf {g : Y90} {y : Pr} : y ∈ accG g ↔ y.1 = g.room ∧ hasE g.events y.2 = true ∧ okB g y.2 = true := by
 unfold accG accT
 rw [List.mem_map]
 constructor
 ·
  rintro ⟨id, h, rfl⟩
  obtain ⟨h1, h2⟩ := List.mem_filter.1 h
  exact ⟨rfl, Yj4.2 h1, h2⟩
 ·
  rintro ⟨h1, h2, h3⟩
  exact ⟨y.2, List.mem_filter.2 ⟨Yj4.1 h2, h3⟩, Prod.ext h1.symm rfl⟩
theorem Ylz.inj {h : Y91} (k : Ylz h) {g g' : Y90} (hg : g ∈ h.rooms) (hg' : g' ∈ h.rooms) (e : g.room = g'.room) : g = g' := by
 obtain ⟨i, hi, rfl⟩ := List.mem_iff_getElem.1 hg
 obtain ⟨j, hj, rfl⟩ := List.mem_iff_getElem.1 hg'
 rw [(k i hi).2, (k j hj).2] at e
 obtain rfl : i = j := by omega
 rfl
theorem Ymg {h : Y91} (k : Ylz h) : (accA h.rooms).Nodup := by
 unfold accA
 rw [List.nodup_iff_pairwise_ne, List.pairwise_flatMap]
 constructor
 ·
  intro g hg
  unfold accG
  rw [List.pairwise_map]
  exact (Ykp (k.right g hg).fits _).imp fun {a b} h e => by have := (Prod.mk.inj e).2; omega
 ·
  rw [List.pairwise_iff_getElem]
  intro i j hi hj hij x hx y hy e
  have h1 := (Ymf.1 hx).1
  have h2 := (Ymf.1 hy).1
  rw [(k i hi).2] at h1
  rw [(k j hj).2] at h2
  rw [e] at h1
  omega
theorem Ymh {h : Y91} (k : Ylz h) {g : Y90} (hg : g ∈ h.rooms) {id : Int} : (g.room, id) ∈ accA h.rooms ↔ hasE g.events id = true ∧ okB g id = true := by
 unfold accA
 rw [List.mem_flatMap]
 constructor
 ·
  rintro ⟨g', h1, h2⟩
  obtain ⟨h3, h4⟩ := Ymf.1 h2
  obtain rfl := k.inj hg h1 h3
  exact h4
 ·
  exact fun h' => ⟨g, hg, Ymf.2 ⟨rfl, h'⟩⟩

theorem Ymi {s : List Pr} {g : Y90} (h : ∀ e ∈ g.events, okB g e.id = inS s g e) : Ylk s g = Ym5 g := by
 unfold Ylk Ym5 accT
 rw [List.filter_map, List.length_map]
 exact congrArg List.length (List.filter_congr fun e he => (h e he).symm)
theorem Ymj {s : List Pr} : ∀ {l : List Y90}, (∀ g ∈ l, ∀ e ∈ g.events, okB g e.id = inS s g e) → Yll s l = Ym6 l
 | [], _ => rfl
 | g :: l, h => by
  unfold Yll Ym6
  rw [List.map_cons, List.map_cons, List.sum_cons, List.sum_cons, Ymi (h g (by simp))]
  have := Ymj (s := s) (l := l) fun g' hg' => h g' (by simp [hg'])
  unfold Yll Ym6 at this
  rw [this]

structure Ymk (h : Y91) : Prop where
 three : h.rooms.length = 3
 slen : h.stream.length ≤ 120
 rooms : Ylz h
 nodup : (prs h.stream).Nodup
 all : ∀ y, y ∈ prs h.stream ↔ y ∈ accA h.rooms

theorem OkI.hub {h : Y91} (k : OkI h) : Ymk h := by
 obtain ⟨h3, hl, hro, hst, hle⟩ := k
 have hX : ∀ (i : Nat) (hi : i < h.stream.length), stX h i h.stream[i] = true := fun i hi => by
  have := hst i hi
  unfold stB at this
  rwa [dif_pos hi] at this
 have hnd : (prs h.stream).Nodup := Ylc.2 fun i hi => by
  have hi' : i < h.stream.length := by rw [Ym2] at hi; exact hi
  have := hX i hi'
  unfold stX at this
  simp only [Bool.and_eq_true] at this
  rw [Ym1 hi']
  simpa using this.1.1.1.2
 have hsub : ∀ y ∈ prs h.stream, y ∈ accA h.rooms := fun y hy => by
  obtain ⟨i, hi, rfl⟩ := List.mem_iff_getElem.1 hy
  have hi' : i < h.stream.length := by rw [Ym2] at hi; exact hi
  have := hX i hi'
  unfold stX at this
  simp only [Bool.and_eq_true, decide_eq_true_eq] at this
  obtain ⟨k, hk, k1, _, k3⟩ := Ym9 h3 this.1.1.1.1
  rw [Ym1 hi']
  rw [k3] at this
  have hr : h.stream[i].room = h.rooms[k].room := by rw [(hro k hk).2]; exact k1
  rw [hr]
  exact (Ymh hro (List.getElem_mem hk)).2 ⟨this.1.1.2, this.1.2⟩
 refine ⟨h3, hl, hro, hnd, fun y => ⟨hsub y, Yle hnd hsub (by rw [Yme, Ym2]; omega) y⟩⟩

theorem Ymk.inS {h : Y91} (k : Ymk h) {g : Y90} (hg : g ∈ h.rooms) {e : Y8x} (he : e ∈ g.events) : okB g e.id = inS (prs h.stream) g e := by
 unfold Go.Proofs.YtbgichfjcnibpaaGreat.inS
 rw [Bool.eq_iff_iff, decide_eq_true_eq, Yl6, k.all, Ymh k.rooms hg]
 exact ⟨fun h' => ⟨Yeq.2 ⟨e, he, rfl⟩, h'⟩, fun h' => h'.2⟩

theorem Yml {h : Y91} : OkI h ↔ OkS h := by
 constructor
 ·
  intro k
  have hu := k.hub
  obtain ⟨h3, hl, hro, hst, hle⟩ := k
  refine ⟨h3, hl, hro, hu.nodup, fun g hg e he => ?_, by rw [Ymj fun g hg e he => hu.inS hg he]; exact hle⟩
  unfold strE
  rw [hu.inS hg he]
  cases hin : inS (prs h.stream) g e with
  | false => rfl
  | true =>
   simp only [beq_self_eq_true, Bool.not_true, Bool.false_or, Bool.true_and, List.all_eq_true, decide_eq_true_eq]
   intro p hp
   have hin' : 0 < posP (prs h.stream) (g.room, e.id) := by simpa [inS] using hin
   have hy := Yl6.1 hin'
   obtain ⟨i, hi, hiy⟩ := List.mem_iff_getElem.1 hy
   have hi' : i < h.stream.length := by rw [Ym2] at hi; exact hi
   have hpi : posP (prs h.stream) (g.room, e.id) = (i : Int) + 1 := by
    unfold posP; rw [if_pos hy, ← hiy, Ylb hu.nodup hi]
   have hx := hst i hi'
   unfold stB at hx
   rw [dif_pos hi'] at hx
   unfold stX at hx
   simp only [Bool.and_eq_true, decide_eq_true_eq] at hx
   rw [Ym1 hi'] at hiy
   obtain ⟨e1, e2⟩ := Prod.mk.inj hiy
   obtain ⟨k, hk, k1, _, k3⟩ := Ym9 h3 hx.1.1.1.1
   have hgk : h.rooms[k] = g := hro.inj (List.getElem_mem hk) hg (by rw [(hro k hk).2, ← k1, e1])
   rw [k3, hgk, e1, e2] at hx
   have hev : evD g.events e.id = e := by unfold evD; rw [(hro.right g hg).fits.up.evAt_mem he]; rfl
   rw [hev] at hx
   have hpp := List.all_eq_true.1 hx.2 p hp
   simp only [Bool.or_eq_true, Bool.not_eq_true', decide_eq_true_eq] at hpp
   rcases hpp with hpp | hpp
   ·
    have : (g.room, p) ∉ prs h.stream := fun hm => by
     have := ((Ymh hro hg).1 ((hu.all _).1 hm)).2
     rw [hpp] at this; cases this
    have h0 : posP (prs h.stream) (g.room, p) = 0 := by unfold posP; rw [if_neg this]
    omega
   ·
    have := ((Yl9 (by omega)).1 hpp).2
    omega
 ·
  rintro ⟨h3, hl, hro, hnd, hst, hma⟩
  have hok : ∀ g ∈ h.rooms, ∀ e ∈ g.events, okB g e.id = inS (prs h.stream) g e := fun g hg e he => by
   have := hst g hg e he
   unfold strE at this
   rw [Bool.and_eq_true] at this
   simpa using this.1
  have hle : Ym6 h.rooms = h.stream.length := by rw [← Ymj hok]; exact hma
  have hsub : ∀ y ∈ accA h.rooms, y ∈ prs h.stream := fun y hy => by
   unfold accA at hy
   obtain ⟨g, hg, hy⟩ := List.mem_flatMap.1 hy
   obtain ⟨h1, h2, h4⟩ := Ymf.1 hy
   obtain ⟨e, he, h5⟩ := Yeq.1 h2
   have := hok g hg e he
   rw [h5, h4] at this
   have h6 : 0 < posP (prs h.stream) (g.room, e.id) := by simpa [inS] using this.symm
   have := Yl6.1 h6
   rw [h5, ← h1] at this
   exact this
  have hall := Yle (Ymg hro) hsub (by rw [Yme, Ym2]; omega)
  refine ⟨h3, hl, hro, fun i hi => ?_, hle⟩
  have hil : i < (prs h.stream).length := by rw [Ym2]; exact hi
  have hmem : (h.stream[i].room, h.stream[i].id) ∈ prs h.stream := by rw [← Ym1 hi hil]; exact List.getElem_mem _
  have hacc := hall _ hmem
  unfold accA at hacc
  obtain ⟨g, hg, hy⟩ := List.mem_flatMap.1 hacc
  obtain ⟨h1, h2, h4⟩ := Ymf.1 hy
  simp only at h1 h2 h4
  obtain ⟨k, hk, hkg⟩ := List.mem_iff_getElem.1 hg
  have hroom : g.room = (k : Int) + 1 := by rw [← hkg]; exact (hro k hk).2
  have hx : 1 ≤ h.stream[i].room ∧ h.stream[i].room ≤ 3 := by omega
  obtain ⟨k', hk', k1, _, k3⟩ := Ym9 h3 hx
  obtain rfl : k' = k := by omega
  rw [hkg] at k3
  have hnt := Ylc.1 hnd i hil
  rw [Ym1 hi] at hnt
  unfold stB
  rw [dif_pos hi]
  unfold stX
  rw [k3, h2, h4, decide_eq_true hx, decide_eq_false hnt]
  simp only [Bool.not_false, Bool.true_and, List.all_eq_true, Bool.or_eq_true, Bool.not_eq_true', decide_eq_true_eq]
  intro p hp
  cases hop : okB g p with
  | false => exact .inl rfl
  | true =>
   right
   have hr := hro.right g hg
   obtain ⟨_, e2, e3⟩ := Yiu (Yj4.1 h2) hr.fits.up
   have hse := hst g hg _ e2
   unfold strE at hse
   rw [Bool.and_eq_true] at hse
   have hine : inS (prs h.stream) g (evD g.events h.stream[i].id) = true := by rw [← hok g hg _ e2, e3]; exact h4
   rw [hine] at hse
   simp only [Bool.not_true, Bool.false_or, List.all_eq_true, decide_eq_true_eq] at hse
   have hlt := hse.2 p hp
   rw [e3, ← h1] at hlt
   have hpi : posP (prs h.stream) (h.stream[i].room, h.stream[i].id) = (i : Int) + 1 := by
    unfold posP; rw [if_pos hmem]
    have := Ylb hnd hil
    rw [Ym1 hi] at this
    rw [this]
   obtain ⟨ep, hep, hepi⟩ := Yeq.1 (hr.fits.whole _ e2 p hp)
   have hinp := hok g hg ep hep
   rw [hepi, hop] at hinp
   have h7 : 0 < posP (prs h.stream) (g.room, ep.id) := by simpa [inS] using hinp.symm
   rw [hepi, ← h1] at h7
   exact (Yl9 (by omega)).2 ⟨h7, by omega⟩

theorem Ymm {h : Y91} (hf : Ylw h) : ∃ b : Bool, (b = true → Ymk h) ∧ Z6z h = some (cond b (wOf h, true) (zW, false)) ∧ Zf5 h = some (cond b (sOf h, true) (zS, false)) := by
 obtain ⟨b, b1, b2⟩ := Ym4 hf
 obtain ⟨c, c1, c2⟩ := Ymd hf
 have : b = c := by rw [Bool.eq_iff_iff, b1, c1]; exact Yml.symm
 subst this
 exact ⟨b, fun x => (c1.1 x).hub, b2, c2⟩
end Go.Proofs.YtbgichfjcnibpaaGreat
namespace Go.Proofs.YtbgichfjcnibpaaGreat
open Go Go.Abs


def wtG {α : Type} (n : α → Nat) (l : List α) : Nat := (l.map n).sum
theorem Ymn {α : Type} (n : α → Nat) {l : List α} {i : Nat} (hi : i < l.length) : wtG n (l.take (i + 1)) = wtG n (l.take i) + n l[i] := by
 rw [List.take_add_one, List.getElem?_eq_getElem hi]
 show ((List.take i l ++ [l[i]]).map n).sum = ((List.take i l).map n).sum + n l[i]
 rw [List.map_append, List.sum_append]
 simp only [List.map_cons, List.map_nil, List.sum_cons, List.sum_nil, Nat.add_zero]
def nG (g : Y8y) : Nat := g.events.length + g.parked.length
def nG' (g : Y90) : Nat := g.events.length + g.parked.length

structure HIn (h : THub) : Prop where
 rl : h.rooms.length ≤ maxLen
 rg : ∀ g ∈ h.rooms, GIn g
 sl : h.stream.length ≤ maxLen
structure Ymo (h : THub) : Prop where
 rl : h.rooms.length ≤ 1048576
 rg : ∀ g ∈ h.rooms, Yk0 g.events ∧ Yk0 g.parked
 wt : wtG nG h.rooms ≤ 1048576
 sl : h.stream.length ≤ 1048576

theorem Ymp (p : List Y8y) (n : Int) (hl : p.length ≤ maxLen) (hp : ∀ g ∈ p, GIn g) (h0 : 0 ≤ n) (hn : n ≤ 1048576) : ∃ r, Zd p n = some r ∧ ((0 ≤ r ∧ r + (p.length + wtG nG p : Nat) ≤ n ∧ ∀ g ∈ p, Yk0 g.events ∧ Yk0 g.parked) ∨ r = -1) := by
 simp only [maxLen] at hl
 unfold Zd
 rw [Y4j (by omega) (by omega)]
 by_cases h : n - (p.length : Int) < 0
 ·
  rw [decide_eq_true h]; exact ⟨_, rfl, .inr rfl⟩
 ·
  rw [decide_eq_false h, cond_false]
  obtain ⟨o, h1, h2⟩ := Ydm (τ := Int × Int) (ω := Int ⊕ Int) (σ := Int) (step := fun z : Int × Int => Zc p z.1 z.2) (n := p.length) (fun s j => (s, j))
   (fun i s => 0 ≤ s ∧ s + (p.length + wtG nG (p.take i) : Nat) ≤ n ∧ ∀ (j : Nat) (hj : j < p.length), j < i → Yk0 p[j].events ∧ Yk0 p[j].parked) (fun o => o = .inl (-1) ∨ ∃ r, o = .inr r ∧ 0 ≤ r ∧ r + (p.length + wtG nG p : Nat) ≤ n ∧ ∀ g ∈ p, Yk0 g.events ∧ Yk0 g.parked) (by omega) (by
   rintro i s hi ⟨hs0, hsn, hI⟩
   obtain ⟨r, e1, e2⟩ := Yk2 p[i] s (hp _ (List.getElem_mem hi)) hs0 (by omega)
   simp only [Zc]
   rw [dlt hi, cond_true, Ydn hi, Option.bind_some, e1, Option.bind_some, Ydo hi (by omega)]
   rcases e2 with ⟨e2, e3, e4⟩ | rfl
   ·
    rw [decide_eq_false (by omega), cond_false]
    refine .inl ⟨r, rfl, e2, by have hng : nG p[i] = p[i].events.length + p[i].parked.length := rfl; rw [Ymn nG hi]; omega, fun j hj hji => ?_⟩
    rcases Nat.lt_or_ge j i with h | h
    ·
     exact hI j hj h
    ·
     obtain rfl : j = i := by omega
     exact e4
   ·
    exact .inr ⟨_, rfl, .inl rfl⟩) (by
   rintro s ⟨hs0, hsn, hI⟩
   simp only [Zc]
   rw [dnlt, cond_false]
   rw [List.take_length] at hsn
   refine ⟨_, rfl, .inr ⟨s, rfl, hs0, hsn, fun e he => ?_⟩⟩
   obtain ⟨j, hj, rfl⟩ := List.mem_iff_getElem.1 he
   exact hI j hj hj) (s := n - (p.length : Int)) ⟨by omega, by simp [wtG], fun j hj h => by omega⟩
  rw [h1, Option.bind_some]
  rcases h2 with rfl | ⟨r, rfl, h3⟩
  ·
   exact ⟨_, rfl, .inr rfl⟩
  ·
   exact ⟨_, rfl, .inl h3⟩

theorem Ymq (h : THub) (n : Int) (hh : HIn h) (h0 : 0 ≤ n) (hn : n ≤ 1048576) : ∃ r, Zh h n = some r ∧ ((0 ≤ r ∧ r ≤ n ∧ Ymo h) ∨ r = -1) := by
 have hsl := hh.sl
 simp only [maxLen] at hsl
 unfold Zh
 obtain ⟨r, h1, h2⟩ := Ymp h.rooms n hh.rl hh.rg h0 hn
 rw [h1, Option.bind_some]
 rcases h2 with ⟨h2, h3, h4⟩ | rfl
 ·
  rw [decide_eq_false (by omega), cond_false]
  unfold Zf
  rw [Y4j (by omega) (by omega)]
  by_cases h5 : r - (h.stream.length : Int) < 0
  ·
   rw [decide_eq_true h5]; exact ⟨_, rfl, .inr rfl⟩
  ·
   rw [decide_eq_false h5, cond_false, Option.bind_some, decide_eq_false h5]
   exact ⟨_, rfl, .inl ⟨by omega, by omega, by omega, h4, by omega, by omega⟩⟩
 ·
  exact ⟨_, rfl, .inr rfl⟩


def toH (h : THub) : Y91 := ⟨h.rooms.map toG, h.stream⟩
theorem Ymr (p : List Y8y) (hl : p.length ≤ 1048576) (hp : ∀ g ∈ p, Yk0 g.events ∧ Yk0 g.parked) : Zx p = some (p.map toG) := by
 unfold Zx
 rw [Y4k (decide_eq_true ⟨by omega, by omega⟩), Option.bind_some, Int.toNat_natCast]
 rw [Yk3 (xs := p) toG (by omega) (fun i s hi hs => by
  have := hp _ (List.getElem_mem hi)
  simp only [Zw]
  rw [dlt hi, cond_true, Ydn hi, Option.bind_some, Yk7 _ this.1 this.2, Option.bind_some, Ydn (by omega : i < s.length), Option.bind_some, Ydo hi (by omega), Int.toNat_natCast]) (fun s => by simp only [Zw]; rw [dnlt, cond_false])]
 rfl
theorem Yms (p : List Y8z) (hl : p.length ≤ 1048576) : Z13 p = some p := by
 unfold Z13
 rw [Y4k (decide_eq_true ⟨by omega, by omega⟩), Option.bind_some, Int.toNat_natCast]
 rw [Yk3 (xs := p) (fun x => x) (by omega) (fun i s hi hs => by
  simp only [Z12]
  rw [dlt hi, cond_true, Ydn hi, Option.bind_some]
  unfold Zz
  rw [Option.bind_some, Ydn (by omega : i < s.length), Option.bind_some, Ydo hi (by omega), Int.toNat_natCast]) (fun s => by simp only [Z12]; rw [dnlt, cond_false])]
 simp [Z11]
theorem Ymt (h : THub) (hs : Ymo h) : Z15 h = some (toH h) := by
 unfold Z15
 rw [Ymr _ hs.rl hs.rg, Option.bind_some, Yms _ hs.sl]; rfl


theorem Ymu (p : List Y90) (hl : p.length ≤ 1048576) (hp : ∀ g ∈ p, Yk0 g.events ∧ Yk0 g.parked) : Zh9 p p = some true := by
 unfold Zh9
 rw [bned, decide_eq_true rfl]
 simp only [Bool.not_true, cond_false]
 rw [Ye3 (l := p) (fun _ => true) (.inl false) (.inr ()) (by omega) (fun i hi => by
  have := hp _ (List.getElem_mem hi)
  simp only [Zh8]
  rw [dlt hi, cond_true, Ydn hi, Option.bind_some, Option.bind_some, Ykc _ this.1 this.2, Option.bind_some, Ydo hi (by omega)]; rfl) (by simp only [Zh8]; rw [dnlt, cond_false])]
 rw [show (p.all fun _ => true) = true by simp]; rfl
theorem Ymv (p : List Y8z) (hl : p.length ≤ 1048576) : Zhf p p = some true := by
 unfold Zhf
 rw [bned, decide_eq_true rfl]
 simp only [Bool.not_true, cond_false]
 rw [Ye3 (l := p) (fun _ => true) (.inl false) (.inr ()) (by omega) (fun i hi => by
  simp only [Zhe]
  rw [dlt hi, cond_true, Ydn hi, Option.bind_some, Option.bind_some, show Zhb p[i] p[i] = some true by simp [Zhb], Option.bind_some, Ydo hi (by omega)]; rfl) (by simp only [Zhe]; rw [dnlt, cond_false])]
 rw [show (p.all fun _ => true) = true by simp]; rfl
theorem Ymw {h : THub} (hs : Ymo h) : ∀ g ∈ (toH h).rooms, Yk0 g.events ∧ Yk0 g.parked := fun g hg => by
 obtain ⟨g0, h1, rfl⟩ := List.mem_map.1 hg
 exact hs.rg g0 h1
theorem Ymx {h : THub} (hs : Ymo h) : Zhh (toH h) (toH h) = some true := by
 unfold Zhh
 rw [Ymu _ (by show (h.rooms.map toG).length ≤ _; rw [List.length_map]; exact hs.rl) (Ymw hs), Option.bind_some, cond_true]
 show (Zhf h.stream h.stream).bind _ = _
 rw [Ymv _ hs.sl]; rfl
theorem Ymy (p : List Y92) (hl : p.length ≤ 1048576) : Zgt p p = some true := by
 unfold Zgt
 rw [bned, decide_eq_true rfl]
 simp only [Bool.not_true, cond_false]
 rw [Ye3 (l := p) (fun _ => true) (.inl false) (.inr ()) (by omega) (fun i hi => by
  simp only [Zgs]
  rw [dlt hi, cond_true, Ydn hi, Option.bind_some, Option.bind_some, show Zgp p[i] p[i] = some true by simp [Zgp], Option.bind_some, Ydo hi (by omega)]; rfl) (by simp only [Zgs]; rw [dnlt, cond_false])]
 rw [show (p.all fun _ => true) = true by simp]; rfl


theorem w1 (x : Int) (h0 : 0 ≤ x) (h1 : x ≤ 1000000000000000) : IntKind.i64.wrap (x + 1) = x + 1 := Y4j (by omega) (by omega)

theorem Ymz (p : List Y90) (n : Int) (hl : p.length ≤ 1048576) (hp : ∀ g ∈ p, Yk0 g.events ∧ Yk0 g.parked) (hw : wtG nG' p ≤ 1048576) (h0 : 0 ≤ n) (hn : n ≤ 1000000) : ∃ r, Zhx p n = some r ∧ 0 ≤ r.1 ∧ r.1 ≤ 10000000000000 := by
 unfold Zhx
 obtain ⟨o, e1, e2⟩ := Ydl (τ := List Y90 × Int × Int) (ω := Int × List Y90) (σ := List Y90 × Int) (step := fun z : List Y90 × Int × Int => Zhw z.1 z.2.1 z.2.2) (n := p.length) (fun s j => (s.1, s.2, j)) (fun i s => s.1.length = p.length ∧ s.1.drop i = p.drop i ∧ 0 ≤ s.2 ∧ s.2 ≤ n + i + (wtG nG' (p.take i) : Int) * 2000000) (fun o => 0 ≤ o.1 ∧ o.1 ≤ 10000000000000) (by omega) (by
  rintro i ⟨l, k⟩ hi ⟨hll, hd, hk0, hk⟩
  simp only at hll hd hk0 hk
  have hil : i < l.length := by omega
  have hli : l[i] = p[i] := by
   have := congrArg (fun x : List Y90 => x[0]?) hd
   simpa [List.getElem?_drop, hil, hi] using this
  have hwt := Ymn nG' hi
  have hle : wtG nG' (p.take (i + 1)) ≤ wtG nG' p := by
   have e := List.take_append_drop (i + 1) p
   have : wtG nG' p = wtG nG' (p.take (i + 1)) + wtG nG' (p.drop (i + 1)) := by
    conv => lhs; rw [← e]
    unfold wtG; rw [List.map_append, List.sum_append]
   omega
  have hsm := hp _ (List.getElem_mem hi)
  obtain ⟨r, a1, a2, a3⟩ := Ykj p[i].events (k + 1) hsm.1 (by omega) (by omega)
  have hng : nG' p[i] = p[i].events.length + p[i].parked.length := rfl
  obtain ⟨r', b1, b2, b3⟩ := Ykj p[i].parked r.1 hsm.2 a2 (by omega)
  simp only [Zhw]
  rw [decide_eq_true (by omega : (i : Int) < (l.length : Int)), cond_true, Ydn hil, Option.bind_some, w1 k hk0 (by omega)]
  simp only [Int.toNat_natCast, Yki, List.length_set, hil, Option.bind_some, hli, a1, b1, Ydo hi (by omega : p.length < 9223372036854775807)]
  refine ⟨(_, _), rfl, by simp [hll], ?_, b2, by show r'.1 ≤ n + ((i + 1 : Nat) : Int) + (wtG nG' (p.take (i + 1)) : Int) * 2000000; omega⟩
  simp only
  rw [List.drop_set_of_lt (by omega), List.drop_set_of_lt (by omega), List.drop_set_of_lt (by omega)]
  have := congrArg (List.drop 1) hd
  rwa [List.drop_drop, List.drop_drop] at this) (by
  rintro ⟨l, k⟩ ⟨hll, _, hk0, hk⟩
  simp only at hll hk0 hk
  simp only [Zhw]
  rw [hll, dnlt, cond_false]
  rw [List.take_length] at hk
  exact ⟨_, rfl, hk0, by simp only; omega⟩) (s := (p, n)) ⟨rfl, rfl, h0, by simp [wtG]⟩
 rw [e1, Option.bind_some]
 exact ⟨_, rfl, e2⟩

theorem Yn0 (p : List Y8z) (n : Int) (hl : p.length ≤ 1048576) (h0 : 0 ≤ n) (hn : n ≤ 10000000000000) : ∃ r, Zi1 p n = some r ∧ 0 ≤ r.1 ∧ r.1 ≤ n + 2 * p.length := by
 unfold Zi1
 obtain ⟨o, e1, e2⟩ := Ydl (τ := List Y8z × Int × Int) (ω := Int × List Y8z) (σ := List Y8z × Int) (step := fun z : List Y8z × Int × Int => Zi0 z.1 z.2.1 z.2.2) (n := p.length) (fun s j => (s.1, s.2, j)) (fun i s => s.1.length = p.length ∧ 0 ≤ s.2 ∧ s.2 ≤ n + 2 * i) (fun o => 0 ≤ o.1 ∧ o.1 ≤ n + 2 * p.length) (by omega) (by
  rintro i ⟨l, k⟩ hi ⟨hll, hk0, hk⟩
  simp only at hll hk0 hk
  have hil : i < l.length := by omega
  simp only [Zi0]
  rw [decide_eq_true (by omega : (i : Int) < (l.length : Int)), cond_true, Ydn hil, Option.bind_some, w1 k hk0 (by omega), w1 (k + 1) (by omega) (by omega)]
  simp only [Int.toNat_natCast, Yki, hil, Option.bind_some, Ydo hi (by omega : p.length < 9223372036854775807)]
  exact ⟨(_, _), rfl, by simp [hll], by simp only; omega, by simp only; omega⟩) (by
  rintro ⟨l, k⟩ ⟨hll, hk0, hk⟩
  simp only at hll hk0 hk
  simp only [Zi0]
  rw [hll, dnlt, cond_false]
  exact ⟨_, rfl, hk0, hk⟩) (s := (p, n)) ⟨rfl, h0, by simp⟩
 rw [e1, Option.bind_some]
 exact ⟨_, rfl, e2⟩

theorem Yn1 {h : THub} (hs : Ymo h) (n : Int) (h0 : 0 ≤ n) (hn : n ≤ 1000000) : ∃ r, Zi3 (toH h) n = some r ∧ 0 ≤ r.1 ∧ r.1 ≤ 10000002097152 := by
 have hwt : wtG nG' (toH h).rooms = wtG nG h.rooms := by
  show wtG nG' (h.rooms.map toG) = _
  unfold wtG
  rw [List.map_map]; rfl
 have hsl := hs.sl
 obtain ⟨r, a1, a2, a3⟩ := Ymz (toH h).rooms n (by show (h.rooms.map toG).length ≤ _; rw [List.length_map]; exact hs.rl) (Ymw hs) (by rw [hwt]; exact hs.wt) h0 hn
 obtain ⟨r', b1, b2, b3⟩ := Yn0 h.stream r.1 hs.sl a2 a3
 unfold Zi3
 rw [a1, Option.bind_some]
 show ∃ x, (Zi1 h.stream r.1).bind _ = some x ∧ _
 rw [b1]
 exact ⟨_, rfl, b2, by simp only; omega⟩

def Yn2 (n : Int) : Nat → List Y92
 | 0 => []
 | k + 1 => ⟨n, n + 1, n + 2⟩ :: Yn2 (n + 3) k
theorem Yn3 : ∀ (k : Nat) (n : Int), (Yn2 n k).length = k
 | 0, _ => rfl
 | k + 1, n => by simp [Yn2, Yn3 k]
theorem Yn4 : ∀ (k : Nat) (n : Int) (i : Nat) (hi : i < (Yn2 n k).length), (Yn2 n k)[i] = ⟨n + 3 * i, n + 3 * i + 1, n + 3 * i + 2⟩
 | 0, _, i, hi => by simp [Yn2] at hi
 | k + 1, n, 0, hi => by simp [Yn2]
 | k + 1, n, i + 1, hi => by
  simp only [Yn2, List.getElem_cons_succ]
  rw [Yn4 k]
  simp only [Y92.mk.injEq]; omega
theorem Yn5 : ∀ (k : Nat) (n : Int), Yn2 n (k + 1) = Yn2 n k ++ [⟨n + 3 * k, n + 3 * k + 1, n + 3 * k + 2⟩]
 | 0, n => by simp [Yn2]
 | k + 1, n => by
  rw [Yn2, Yn5 k (n + 3)]
  simp [Yn2]; omega

theorem Yn6 (p : List Y92) (n : Int) (hp : p.length ≤ 1048576) (h0 : 0 ≤ n) (hn : n ≤ 100000000000000) : Zi7 p n = some (n + 3 * p.length, Yn2 n p.length) := by
 unfold Zi7
 obtain ⟨o, e1, rfl⟩ := Ydl (τ := List Y92 × Int × Int) (ω := Int × List Y92) (σ := List Y92 × Int) (step := fun z : List Y92 × Int × Int => Zi6 z.1 z.2.1 z.2.2) (n := p.length) (fun s j => (s.1, s.2, j)) (fun i s => s = (Yn2 n i ++ p.drop i, n + 3 * i)) (fun o => o = (n + 3 * p.length, Yn2 n p.length)) (by omega) (by
  rintro i s hi rfl
  have e0 : p.drop i = p[i] :: p.drop (i + 1) := List.drop_eq_getElem_cons hi
  generalize hR : p.drop (i + 1) = R at e0
  generalize p[i] = u at e0
  refine ⟨(Yn2 n (i + 1) ++ R, n + 3 * i + 3), ?_, by simp; omega⟩
  have hlen : (Yn2 n i ++ p.drop i).length = p.length := by rw [List.length_append, Yn3, List.length_drop]; omega
  have hm : ∀ v : Y92, getI (Yn2 n i ++ v :: R) (i : Int) = some v := fun v => Yfj (X := Yn2 n i) (u := v) (Y := R) rfl (Yn3 i n).symm
  have hsv : ∀ v v' : Y92, List.set (Yn2 n i ++ v :: R) i v' = Yn2 n i ++ v' :: R := fun v v' => Yfk (X := Yn2 n i) (u := v) (Y := R) rfl (Yn3 i n).symm
  simp only [Zi6]
  rw [hlen, dlt hi, cond_true, e0, Ydo hi (by omega), w1 _ (by omega) (by omega), w1 _ (by omega) (by omega), w1 _ (by omega) (by omega)]
  simp only [Int.toNat_natCast, hm, hsv, Option.bind_some]
  rw [Yn5]
  simp; omega) (by
  rintro s rfl
  simp only [Zi6]
  rw [show (Yn2 n p.length ++ p.drop p.length).length = p.length by simp [Yn3], dnlt, cond_false]
  exact ⟨_, rfl, by simp⟩) (s := (p, n)) (by simp [Yn2])
 rw [e1, Option.bind_some]; rfl

theorem Yn7 (k : Nat) (n : Int) (hk : k ≤ 1048576) (h0 : 0 ≤ n) (hn : n ≤ 100000000000000) : Zib (Yn2 n k) n = some (n + 3 * k) := by
 unfold Zib
 obtain ⟨o, e1, rfl⟩ := Ydl (τ := Int × Int) (ω := Int ⊕ Int) (σ := Int) (step := fun z : Int × Int => Zia (Yn2 n k) z.1 z.2) (n := k) (fun s j => (s, j)) (fun i s => s = n + 3 * i) (fun o => o = .inr (n + 3 * k)) (by omega) (by
  rintro i s hi rfl
  refine ⟨n + 3 * i + 3, ?_, by omega⟩
  simp only [Zia, Yn3]
  have hi' : i < (Yn2 n k).length := by rw [Yn3]; exact hi
  rw [dlt hi, cond_true, Ydn hi', Option.bind_some, Yn4, Ydo hi (by omega), w1 _ (by omega) (by omega), w1 _ (by omega) (by omega), w1 _ (by omega) (by omega)]
  rw [show n + 3 * (i : Int) + 1 + 1 = n + 3 * i + 2 by omega, show n + 3 * (i : Int) + 2 + 1 = n + 3 * i + 3 by omega]
  simp only [bne_self_eq_false, cond_false]) (by
  rintro s rfl
  simp only [Zia, Yn3]
  rw [dnlt, cond_false]
  exact ⟨_, rfl, rfl⟩) (s := n) (by simp)
 rw [e1, Option.bind_some]; rfl
end Go.Proofs.YtbgichfjcnibpaaGreat
namespace Go.Proofs.YtbgichfjcnibpaaGreat
open Go Go.Abs

def tkT (s : List Pr) (r pos : Int) (id : Int) : Bool := decide (0 < posP s (r, id) ∧ posP s (r, id) ≤ pos)
def curT (h : Y91) (r pos : Int) : List Y92 := nowT (rmG h r) (hiG (rmG h r)) (tkT (prs h.stream) r pos)

structure Yn8 (h : Y91) (r : Int) (k : Nat) : Prop where
 lt : k < h.rooms.length
 wrap : IntKind.i64.wrap (r - 1) = (k : Int)
 rm : ∀ hk : k < h.rooms.length, rmG h r = h.rooms[k]
 mem : rmG h r ∈ h.rooms
 room : (rmG h r).room = r
 right : Yjs (rmG h r)
 hist : getI (sOf h).rooms (k : Int) = some (hiG (rmG h r))
 gr : getI (wOf h).h.rooms (k : Int) = some (rmG h r)
 kn : getI (wOf h).rooms (k : Int) = some (knG (rmG h r))
 pos : getI (wOf h).pos (k : Int) = some (posG (prs h.stream) (rmG h r))
 now : getI (wOf h).now (k : Int) = some (nowG (rmG h r))
 both : Both (rmG h r) (hiG (rmG h r)) (knG (rmG h r))
 graph : (hiG (rmG h r)).graph = rmG h r
theorem Ymk.room {h : Y91} (u : Ymk h) {r : Int} (hr : 1 ≤ r ∧ r ≤ 3) : ∃ k, Yn8 h r k := by
 obtain ⟨k, hk, k1, k2, k3⟩ := Ym9 u.three hr
 have hg : Yjs (rmG h r) := by rw [k3]; exact u.rooms.right _ (List.getElem_mem hk)
 have hb := (Ylg hg).2.2
 refine ⟨k, hk, k2, fun _ => k3, by rw [k3]; exact List.getElem_mem hk, by rw [k3, (u.rooms k hk).2]; exact k1.symm, hg, ?_, ?_, ?_, ?_, ?_, hb, hb.graph⟩
 ·
  rw [k3]; exact Ykx hiG hk
 ·
  rw [k3]; exact Ydn hk
 ·
  rw [k3]; exact Ykx knG hk
 ·
  rw [k3]; exact Ykx _ hk
 ·
  rw [k3]; exact Ykx nowG hk

theorem Yn9 {α β : Type} {xs : List α} {z : β} (f : α → β) {step : List β × Int → Option ((List β × Int) ⊕ List β)} (hl : xs.length < 9223372036854775807)
  (h1 : ∀ (i : Nat) (s : List β) (hi : i < xs.length), s.length = xs.length → step (s, (i : Int)) = some (.inl (s.set i (f xs[i]), ((i + 1 : Nat) : Int)))) (h2 : ∀ s : List β, s.length = xs.length → step (s, (xs.length : Int)) = some (.inr s)) :
  iter step big (List.replicate xs.length z, 0) = some (xs.map f) := by
 obtain ⟨o, e1, rfl⟩ := Ydl (τ := List β × Int) (ω := List β) (σ := List β) (step := step) (n := xs.length) (fun s j => (s, j)) (fun i s => s = (xs.take i).map f ++ List.replicate (xs.length - i) z) (fun o => o = xs.map f) hl (by
  rintro i s hi rfl
  refine ⟨_, h1 i _ hi (by simp; omega), ?_⟩
  have e0 : List.replicate (xs.length - i) z = z :: List.replicate (xs.length - (i + 1)) z := by
   rw [show xs.length - i = (xs.length - (i + 1)) + 1 by omega, List.replicate_succ]
  have e1 : xs.take (i + 1) = xs.take i ++ [xs[i]] := by rw [List.take_add_one, List.getElem?_eq_getElem hi]; rfl
  rw [e0, Yfk (X := (xs.take i).map f) (u := z) (Y := List.replicate (xs.length - (i + 1)) z) rfl (by simp; omega), e1, List.map_append, List.append_assoc]
  rfl) (by
  rintro s rfl
  exact ⟨_, h2 _ (by simp), by simp⟩) (s := List.replicate xs.length z) (by simp)
 exact e1

theorem Yna {h : Y91} (u : Ymk h) {r : Int} (pos : Int) (hr : 1 ≤ r ∧ r ≤ 3) : Z74 (wOf h) r pos = some (curT h r pos) := by
 obtain ⟨k, q⟩ := u.room hr
 have hfl := q.right.fits.len
 have hpl : (posG (prs h.stream) (rmG h r)).length = (rmG h r).events.length := List.length_map _
 unfold Z74
 rw [q.wrap, q.pos, Option.bind_some, Y4k (decide_eq_true (by omega)), Option.bind_some, Int.toNat_natCast]
 rw [Yn9 (xs := posG (prs h.stream) (rmG h r)) (fun v => decide (0 < v ∧ v ≤ pos)) (by omega) (fun i s hi hs => by
  have hw := Ydo hi (by omega : (posG (prs h.stream) (rmG h r)).length < 9223372036854775807)
  simp only [Z73]
  rw [decide_eq_true (by omega : (i : Int) < (s.length : Int)), cond_true, Ydn hi, Option.bind_some, Ydn (by omega : i < s.length)]
  by_cases hc : (posG (prs h.stream) (rmG h r))[i] > 0
  ·
   rw [decide_eq_true hc, cond_true, Option.bind_some]
   simp only [Z72, Int.toNat_natCast, hw]
   congr 5
   exact propext ⟨fun x => ⟨by omega, x⟩, fun x => x.2⟩
  ·
   rw [decide_eq_false hc, cond_false, Option.bind_some]
   simp only [Z72, Int.toNat_natCast, hw]
   rw [decide_eq_false (by omega)]) (fun s hs => by
  simp only [Z73]
  rw [hs, dnlt, cond_false]), Option.bind_some]
 simp only [Z71]
 rw [q.wrap, q.gr, Option.bind_some, q.kn, Option.bind_some]
 have e : (posG (prs h.stream) (rmG h r)).map (fun v => decide (0 < v ∧ v ≤ pos)) = Yku (rmG h r).events (tkT (prs h.stream) r pos) := by
  unfold posG Yku tkT
  rw [List.map_map]
  refine List.map_congr_left fun e _ => ?_
  simp only [Function.comp, q.room]
 rw [e, Yl2 q.both q.right]
 rfl

theorem Ynb (r : Int) : ∀ (l : List Y8z) (q : List Int), l.foldl (fun q x => if x.room = r then q ++ [x.id] else q) q = q ++ (l.filter fun x => decide (x.room = r)).map (·.id)
 | [], q => by simp
 | x :: l, q => by
  rw [List.foldl_cons, Ynb r l]
  by_cases h : x.room = r
  ·
   rw [if_pos h, List.filter_cons_of_pos (by simp [h])]; simp
  ·
   rw [if_neg h, List.filter_cons_of_neg (by simp [h])]

theorem Ync (l : List Y8z) (n : Nat) : prs (l.take n) = (prs l).take n := List.map_take

theorem Ynd {h : Y91} (u : Ymk h) {r : Int} {pos : Int} (hr : 1 ≤ r ∧ r ≤ 3) (hp : 0 ≤ pos) : Zgk (sOf h) r pos = some (curT h r pos) := by
 obtain ⟨k, q⟩ := u.room hr
 have hsl := u.slen
 have hfl := q.right.fits.len
 obtain ⟨n, hn, hn2, hn3⟩ : ∃ n : Nat, n ≤ h.stream.length ∧ (if (h.stream.length : Int) < pos then (h.stream.length : Int) else pos) = (n : Int) ∧ ∀ x : Int, x ≤ h.stream.length → (x ≤ n ↔ x ≤ pos) := by
  by_cases hc : (h.stream.length : Int) < pos
  ·
   exact ⟨h.stream.length, Nat.le_refl _, by rw [if_pos hc], fun x hx => by omega⟩
  ·
   exact ⟨pos.toNat, by omega, by rw [if_neg hc]; omega, fun x hx => by omega⟩
 have hlt : (h.stream.take n).length = n := by rw [List.length_take]; omega
 unfold Zgk
 show (Y28 h.stream 0 (if (h.stream.length : Int) < pos then (h.stream.length : Int) else pos)).bind _ = _
 rw [hn2, show Y28 h.stream 0 (n : Int) = some (h.stream.take n) from (Y5o (l := 0) (h := n) (Nat.zero_le _) hn).trans (by simp), Option.bind_some]
 have := Ye4 (l := h.stream.take n) (step := fun z : List Int × Int => Zgj r (h.stream.take n) z.1 z.2) (fun q j => (q, j)) (fun q => q) (fun q x => if x.room = r then q ++ [x.id] else q) (fun i q => q.length ≤ i) (by omega) (fun i q hi hq => by
  refine ⟨?_, by split <;> first | omega | (rw [List.length_append, List.length_singleton]; omega)⟩
  simp only [Zgj, Zgi]
  rw [dlt hi, cond_true, Ydn hi, Option.bind_some, Ydo hi (by omega), chk8 (by simp; omega), beqd]
  by_cases hc : (h.stream.take n)[i].room = r
  ·
   rw [decide_eq_true hc, if_pos hc]; rfl
  ·
   rw [decide_eq_false hc, if_neg hc]; rfl)
  (fun q _ => by simp only [Zgj]; rw [dnlt, cond_false]) (s := []) (by simp)
 rw [this.1, Option.bind_some, Ynb, List.nil_append]
 simp only [Zgh]
 have e1 : Zgf (sOf h) r = some (hiG (rmG h r)) := by unfold Zgf; rw [q.wrap, q.hist]; rfl
 have hmem : ∀ x, x ∈ ((h.stream.take n).filter fun y => decide (y.room = r)).map (·.id) ↔ (r, x) ∈ (prs h.stream).take n := fun x => by
  rw [← Ync, List.mem_map]
  unfold prs
  rw [List.mem_map]
  constructor
  ·
   rintro ⟨y, hy, rfl⟩
   obtain ⟨h1, h2⟩ := List.mem_filter.1 hy
   exact ⟨y, h1, Prod.ext (by show y.room = r; simpa using h2) rfl⟩
  ·
   rintro ⟨y, hy, e⟩
   exact ⟨y, List.mem_filter.2 ⟨hy, by simpa using (Prod.mk.inj e).1⟩, (Prod.mk.inj e).2⟩
 have hacc : ∀ x, (r, x) ∈ (prs h.stream).take n ↔ x ∈ accT (rmG h r).events (tkT (prs h.stream) r pos) := fun x => by
  unfold accT tkT
  rw [Yl9 (by rw [Ym2]; exact hn), List.mem_filter, decide_eq_true_eq, ← Yj4]
  have hle := (Yl7 (prs h.stream) (r, x)).2
  rw [Ym2] at hle
  rw [hn3 _ hle]
  constructor
  ·
   intro h'
   refine ⟨?_, h'⟩
   have hm := (u.all _).1 (Yl6.1 h'.1)
   rw [← q.room] at hm
   exact ((Ymh u.rooms q.mem).1 hm).1
  ·
   exact fun h' => h'.2
 have hnd : (((h.stream.take n).filter fun y => decide (y.room = r)).map (·.id)).Nodup := by
  have h1 : (prs (h.stream.take n)).Nodup := by rw [Ync]; exact u.nodup.sublist (List.take_sublist _ _)
  rw [List.nodup_iff_pairwise_ne] at h1 ⊢
  unfold prs at h1
  rw [List.pairwise_map] at h1 ⊢
  refine List.Pairwise.imp_of_mem (fun {a b} ha hb hab e => hab (Prod.ext ?_ e)) (h1.filter _)
  have h2 := (List.mem_filter.1 ha).2
  have h3 := (List.mem_filter.1 hb).2
  simp only [decide_eq_true_eq] at h2 h3
  show a.room = b.room
  rw [h2, h3]
 have hen := Ykt (h := hiG (rmG h r)) (T := tkT (prs h.stream) r pos) (by rw [q.graph]; exact q.right) hnd (fun x => by rw [hmem, hacc, q.graph])
 rw [q.graph] at hen
 rw [e1, Option.bind_some, hen, Option.bind_some]
 exact (Yl1 q.both q.right _).1

theorem Yne {h : Y91} (u : Ymk h) {r : Int} (pos : Int) (hr : 1 ≤ r ∧ r ≤ 3) : (curT h r pos).length ≤ 60 := by
 obtain ⟨k, q⟩ := u.room hr
 exact Nat.le_trans (Yl1 q.both q.right (tkT (prs h.stream) r pos)).2.len q.right.fits.len

theorem Ynf {h : Y91} (hf : Ylw h) (r pos : Int) : ∃ v, Z77 h r pos = some v ∧ Zgn h r pos = some v ∧ v.length ≤ 60 := by
 obtain ⟨b, b1, b2, b3⟩ := Ymm hf
 unfold Z77 Zgn
 rw [b2, b3, Option.bind_some, Option.bind_some]
 cases b with
 | false => exact ⟨[], rfl, rfl, by simp⟩
 | true =>
  have u := b1 rfl
  simp only [cond_true]
  rw [Ydr, Ydv, Option.bind_some, Option.bind_some]
  by_cases hr : 1 ≤ r ∧ r ≤ 3
  rotate_left
  ·
   rw [decide_eq_false hr]; exact ⟨[], rfl, rfl, by simp⟩
  rw [decide_eq_true hr]
  simp only [cond_true, Z76, Zgm]
  by_cases hp : pos < 0
  ·
   rw [decide_eq_true hp]; exact ⟨[], rfl, rfl, by simp⟩
  ·
   rw [decide_eq_false hp, cond_false, cond_false, Yna u pos hr, Ynd u hr (by omega)]
   exact ⟨_, rfl, rfl, Yne u pos hr⟩
end Go.Proofs.YtbgichfjcnibpaaGreat
