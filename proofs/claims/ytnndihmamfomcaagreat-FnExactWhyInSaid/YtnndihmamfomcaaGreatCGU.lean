/- Plain laws for the graphs: ends, the current state, alike on both sides. -/
import Derived.Test.YtnndihmamfomcaaGreatCGT
set_option autoImplicit false
set_option linter.unusedVariables false
set_option linter.unusedSimpArgs false
namespace Go.Proofs.YtnndihmamfomcaaGreat
open Go Go.Abs


def accI (h : THistory) : List Int := (h.graph.events.map (·.id)).filter (refB h)
def endB (h : THistory) (x : Int) : Bool := (accI h).all fun id => !decide (x ∈ (evD h.graph.events id).prev)
def endsI (h : THistory) : List Int := (accI h).filter (endB h)

theorem ids_up {l : List TEvent} (h : Up2 l) : UpI (l.map (·.id)) := by
 show (l.map (·.id)).Pairwise (· < ·)
 rw [List.pairwise_map]; exact h

theorem c_accepted {h : THistory} (hr : Right h.graph) : Z7f h = some (accI h) := by
 have hfl := hr.fits.len
 unfold Z7f
 have := loop_fold (l := h.graph.events) (step := fun z : List Int × Int => Z1l h z.1 z.2) (fun q j => (q, j)) (fun q => q) (fun q e => if refB h e.id = true then q ++ [e.id] else q) (fun i q => q.length ≤ i) (by omega) (fun i q hi hq => by
  refine ⟨?_, by split <;> first | omega | (rw [List.length_append, List.length_singleton]; omega)⟩
  simp only [Z1l, Z5b]
  rw [dlt hi, cond_true, get_of_lt hi, Option.bind_some, wrap1 hi (by omega), chk8 (by simp; omega), beqd]
  unfold refB
  by_cases hc : Option.getD (mget h.refused h.graph.events[i].id) 0 = 0
  ·
   rw [decide_eq_true hc]; rfl
  ·
   rw [decide_eq_false hc]; rfl)
  (fun q _ => by simp only [Z1l]; rw [dnlt, cond_false]) (s := []) (by simp)
 rw [this.1, Option.bind_some]
 have key : ∀ (l : List TEvent) (q : List Int), l.foldl (fun q e => if refB h e.id = true then q ++ [e.id] else q) q = q ++ (l.map (·.id)).filter (refB h) := by
  intro l
  induction l with
  | nil => intro q; simp
  | cons e l ih =>
   intro q
   rw [List.foldl_cons, ih]
   cases hc : refB h e.id with
   | true => rw [if_pos rfl, List.map_cons, List.filter_cons_of_pos hc]; simp
   | false => rw [if_neg (by simp), List.map_cons, List.filter_cons_of_neg (by simp [hc])]
 rw [key]; rfl

theorem c_Compact {l : List Int} (hl : UpI l) (hn : l.length < 1000000) : Z8b l = some l := by
 unfold Z8b
 by_cases h2 : (l.length : Int) < 2
 ·
  rw [decide_eq_true h2]; rfl
 ·
  rw [decide_eq_false h2, cond_false, iter_is (o := .inr ()) (fun m (x : Int) => ∃ i : Nat, x = i ∧ 1 ≤ i ∧ i ≤ l.length ∧ m = l.length - i) ?_ (m := l.length - 1) (x := 1) ⟨1, rfl, by omega, by omega, rfl⟩ (big_gt (by omega))]
  ·
   rfl
  ·
   rintro m x ⟨i, rfl, h1, hi, rfl⟩
   simp only [Z5t]
   by_cases hil : i < l.length
   ·
    right
    have hm : i - 1 < l.length := by omega
    have := List.pairwise_iff_getElem.1 hl (i - 1) i hm hil (by omega)
    rw [dlt hil, cond_true, get_of_lt hil, Option.bind_some, wrapm1 (by omega) (by omega), get_of_lt hm, Option.bind_some, beqd, decide_eq_false (by omega), cond_false, wrap1 hil (by omega)]
    exact ⟨_, l.length - (i + 1), rfl, by omega, i + 1, rfl, by omega, by omega, rfl⟩
   ·
    left
    obtain rfl : i = l.length := by omega
    rw [dnlt, cond_false]

theorem c_sorted {l : List Int} (hl : UpI l) (hn : l.length < 1000000) : Z7t l = some l := by
 unfold Z7t
 rw [chk_t (decide_eq_true (by omega)), Option.bind_some, List.mergeSort_of_pairwise (le := fun x y => decide (x ≤ y)) (hl.imp fun {a b} h => by simp; omega), c_Compact hl hn]; rfl

theorem c_DeleteFunc (e : TEvent) (l : List Int) (hl : l.length < 1000000) (he : e.prev.length < 1000000) : Z5v l e = some (l.filter fun x => !decide (x ∈ e.prev)) := by
 have hc : ∀ x, Z5e x e = some (decide (x ∈ e.prev)) := fun x => by unfold Z5e; rw [c_Contains_int64 _ _ (by omega)]; rfl
 unfold Z5v Zam
 rw [bind_idx (loop_idx (l := l) (step := Z21 l e) (fun x => decide (x ∈ e.prev)) (by omega) (fun i hi => by
  simp only [Z21]
  rw [dlt hi, cond_true, get_of_lt hi, Option.bind_some, hc, Option.bind_some, wrap1 hi (by omega)]
  cases decide (l[i] ∈ e.prev) <;> rfl) (by simp only [Z21]; rw [dnlt, cond_false])) (fun _ => rfl) rfl, Option.bind_some]
 unfold idxP
 cases hf : l.findIdx? (fun x => decide (x ∈ e.prev)) with
 | none =>
  rw [List.findIdx?_eq_none_iff] at hf
  rw [beqd, decide_eq_true rfl, cond_true]
  exact congrArg some (List.filter_eq_self.2 fun x hx => by simp [hf x hx]).symm
 | some k =>
  obtain ⟨hk, hkp, hkn⟩ := List.findIdx?_eq_some_iff_getElem.1 hf
  simp only
  rw [beqd, decide_eq_false (by omega), cond_false, wrap1 hk (by omega)]
  -- the rest
  have hpre : (l.take k).filter (fun x => !decide (x ∈ e.prev)) = l.take k := List.filter_eq_self.2 fun x hx => by
   obtain ⟨j, hj, hjk, rfl⟩ := mem_take hx
   have := hkn j hjk
   simpa using this
  obtain ⟨⟨o1, o2⟩, e1, w, hw1, hw2, hw3, hw4⟩ := iter_total (step := fun z : List Int × Int × Int => Z3r e z.1 z.2.1 z.2.2) (p := fun o : List Int × Int => ∃ w : Nat, o.2 = (w : Int) ∧ w ≤ l.length ∧ o.1.length = l.length ∧ o.1.take w = l.filter fun x => !decide (x ∈ e.prev))
   (fun m (z : List Int × Int × Int) => ∃ (w i : Nat), z.2.1 = (w : Int) ∧ z.2.2 = (i : Int) ∧ w < i ∧ i ≤ l.length ∧ z.1.length = l.length ∧ z.1.take w = (l.take i).filter (fun x => !decide (x ∈ e.prev)) ∧ z.1.drop i = l.drop i ∧ m = l.length - i) (by
   rintro m ⟨q, x, y⟩ ⟨w, i, hx, hy, hwi, hi, hq, ht, hd, rfl⟩
   simp only at hx hy hq ht hd
   subst hx hy
   simp only [Z3r, Z5w]
   by_cases hil : i < l.length
   ·
    right
    have hiq : i < q.length := by omega
    have hwq : w < q.length := by omega
    have hqi : q[i] = l[i] := by
     have h1 : (q.drop i)[0]? = (l.drop i)[0]? := by rw [hd]
     simpa [hiq, hil] using h1
    have etk : l.take (i + 1) = l.take i ++ [l[i]] := by rw [List.take_add_one, List.getElem?_eq_getElem hil]; rfl
    rw [dlt hiq, cond_true, get_of_lt hiq, Option.bind_some, hc, Option.bind_some, hqi, get_of_lt hwq, wrap1 hiq (by omega)]
    have hd' : ∀ v : Int, (q.set w v).drop (i + 1) = l.drop (i + 1) := fun v => by
     rw [List.drop_set_of_lt (by omega)]
     have := congrArg (List.drop 1) hd
     rwa [List.drop_drop, List.drop_drop] at this
    by_cases hp : l[i] ∈ e.prev
    ·
     rw [decide_eq_true hp, cond_true]
     refine ⟨_, l.length - (i + 1), rfl, by omega, w, i + 1, rfl, rfl, by omega, by omega, hq, ?_, ?_, rfl⟩
     ·
      rw [etk, List.filter_append, List.filter_cons_of_neg (by simp [hp]), List.filter_nil, List.append_nil]; exact ht
     ·
      have := congrArg (List.drop 1) hd
      rwa [List.drop_drop, List.drop_drop] at this
    ·
     rw [decide_eq_false hp, cond_false, Option.bind_some, Int.toNat_natCast, wrap1 hwq (by omega)]
     refine ⟨_, l.length - (i + 1), rfl, by omega, w + 1, i + 1, rfl, rfl, by omega, by omega, by simp [hq], ?_, hd' _, rfl⟩
     simp only
     rw [etk, List.filter_append, List.filter_cons_of_pos (by simp [hp]), List.filter_nil, ← ht, List.take_add_one, List.getElem?_set_self hwq]
     rw [List.take_set_of_le (Nat.le_refl _)]; rfl
   ·
    left
    obtain rfl : i = l.length := by omega
    rw [decide_eq_false (by omega), cond_false]
    refine ⟨_, rfl, w, rfl, by omega, hq, ?_⟩
    rw [List.take_length] at ht
    exact ht) big (l.length - (k + 1)) (l, (k : Int), ((k + 1 : Nat) : Int)) ⟨k, k + 1, rfl, rfl, by omega, by omega, rfl, by
    rw [List.take_add_one, List.getElem?_eq_getElem hk, List.filter_append, hpre]
    simp at hkp
    simp [hkp], rfl, rfl⟩ (big_gt (by omega))
  rw [e1, Option.bind_some]
  simp only at hw1 hw2 hw3 hw4
  subst hw1
  simp only [Z8g, Int.toNat_natCast]
  rw [chk_t (decide_eq_true (by omega)), Option.bind_some, chk_t (decide_eq_true (by omega)), Option.bind_some, chk_t (decide_eq_true (by simp; omega)), Option.bind_some]
  congr 1
  rw [← hw4, List.take_append_of_le_length (by simp; omega), List.take_take, Nat.min_self]

theorem c_ends_impl {h : THistory} (hr : Right h.graph) : Z7h h = some (endsI h) := by
 have hfl := hr.fits.len
 have hup : UpI (accI h) := (ids_up hr.fits.up).filter _
 have hal : (accI h).length ≤ 60 := by
  have := List.length_filter_le (refB h) (h.graph.events.map (·.id))
  rw [List.length_map] at this
  unfold accI; omega
 unfold Z7h
 rw [c_accepted hr, Option.bind_some]
 unfold Z9t
 have hcl : Z3q (accI h) = some (accI h) := by unfold Z3q; rw [chk8 (by omega)]; rfl
 rw [hcl, Option.bind_some, c_sorted hup (by omega), Option.bind_some]
 have := loop_fold (l := accI h) (step := fun z : List Int × Int => Z1m h (accI h) z.1 z.2) (fun q j => (q, j)) (fun q => q) (fun q id => q.filter fun x => !decide (x ∈ (evD h.graph.events id).prev)) (fun _ q => q.length ≤ 60) (by omega) (fun i q hi hq => by
  refine ⟨?_, Nat.le_trans (List.length_filter_le _ _) hq⟩
  have hm : (accI h)[i] ∈ h.graph.events.map (·.id) := (List.mem_filter.1 (List.getElem_mem hi)).1
  have hp := (hr.walk.prev hm).1
  simp only [Z1m]
  rw [dlt hi, cond_true, get_of_lt hi, Option.bind_some, c_at _ _ hr.fits.up (by omega), Option.bind_some]
  show (Z5v q (evD h.graph.events (accI h)[i])).bind _ = _
  rw [c_DeleteFunc _ _ (by omega) (by omega), Option.bind_some, wrap1 hi (by omega)])
  (fun q _ => by simp only [Z1m]; rw [dnlt, cond_false]) (s := accI h) hal
 rw [this.1, Option.bind_some]
 simp only [Z7i, Option.bind_some]
 congr 1
 have key : ∀ (r q : List Int), r.foldl (fun q id => q.filter fun x => !decide (x ∈ (evD h.graph.events id).prev)) q = q.filter fun x => r.all fun id => !decide (x ∈ (evD h.graph.events id).prev) := by
  intro r
  induction r with
  | nil => intro q; exact (List.filter_eq_self.2 fun x _ => rfl).symm
  | cons id r ih =>
   intro q
   rw [List.foldl_cons, ih, List.filter_filter]
   congr 1
   funext x
   simp [Bool.and_comm]
 rw [key]; rfl

def takeB (h : THistory) : List Bool := h.graph.events.map fun e => refB h e.id

theorem taken_code {g : TGraph'} {h : THistory} {w : TL06Known} (hb : Both g h w) (hr : Right g) : w.code.map (fun c => decide (c = 0)) = takeB h := by
 unfold takeB
 rw [hb.graph]
 refine List.ext_getElem (by simp [hb.lc]) fun i h1 h2 => ?_
 simp only [List.length_map] at h1 h2
 simp only [List.getElem_map]
 obtain ⟨c, k1, k2⟩ := hb.code (List.getElem_mem h2)
 rw [(hr.fits.up.plc h2).1, get_of_lt h1] at k1
 cases k1
 unfold refB
 rw [k2]

theorem loop_taken {w : TL06Known} {step : List Bool × Int → Option ((List Bool × Int) ⊕ List Bool)} (hl : w.code.length < 1000000)
  (h1 : ∀ (l : List Bool) (i : Nat), step (l, (i : Int)) = cond (decide ((i : Int) < (l.length : Int))) ((getI w.code (i : Int)).bind fun e12 => (getI l (i : Int)).bind fun e14 => some (.inl ((List.set l (Int.toNat (i : Int)) (e12 == 0)), (IntKind.i64.wrap ((i : Int) + 1))))) (some (.inr l))) :
  iter step big (List.replicate w.code.length false, 0) = some (w.code.map fun c => decide (c = 0)) := by
 obtain ⟨o, e1, rfl⟩ := loop_state (τ := List Bool × Int) (ω := List Bool) (σ := List Bool) (step := step) (n := w.code.length) (fun s j => (s, j)) (fun i s => s = (w.code.take i).map (fun c => decide (c = 0)) ++ List.replicate (w.code.length - i) false) (fun o => o = w.code.map fun c => decide (c = 0)) (by omega) (by
  rintro i s hi rfl
  have e0 : List.replicate (w.code.length - i) false = false :: List.replicate (w.code.length - (i + 1)) false := by
   rw [show w.code.length - i = (w.code.length - (i + 1)) + 1 by omega, List.replicate_succ]
  have etk : w.code.take (i + 1) = w.code.take i ++ [w.code[i]] := by rw [List.take_add_one, List.getElem?_eq_getElem hi]; rfl
  refine ⟨_, ?_, rfl⟩
  rw [h1, decide_eq_true (by simp; omega), cond_true, get_of_lt hi, Option.bind_some, e0, get_mid (X := (w.code.take i).map fun c => decide (c = 0)) rfl (by simp; omega), Option.bind_some, Int.toNat_natCast, set_mid (X := (w.code.take i).map fun c => decide (c = 0)) rfl (by simp; omega), wrap1 hi (by omega), etk, beqd, List.map_append, List.append_assoc]
  rfl) (by
  rintro s rfl
  refine ⟨_, ?_, rfl⟩
  rw [h1, decide_eq_false (by simp), cond_false]
  simp) (s := List.replicate w.code.length false) (by simp)
 exact e1

theorem get_map {α β : Type} (f : α → β) {l : List α} {i : Nat} (hi : i < l.length) : getI (l.map f) (i : Int) = some (f l[i]) := by
 rw [get_of_lt (by simpa using hi)]; simp

theorem c_ends_spec {h : THistory} (hr : Right h.graph) : Z6x h.graph (takeB h) = some (endsI h) := by
 have hfl := hr.fits.len
 unfold Z6x
 -- whether one stands behind an event
 have inner1 : ∀ (i k : Nat) (hi : i < h.graph.events.length) (hk : k < h.graph.events.length) (b : Bool), iter (fun z : Bool × Int => Zj h.graph (takeB h) (i : Int) (k : Int) z.1 z.2) big (b, 0) = some (b && (!refB h h.graph.events[k].id || !decide (h.graph.events[i].id ∈ h.graph.events[k].prev))) := by
  intro i k hi hk b
  have hpl := hr.fits.plen _ (List.getElem_mem hk)
  have ht : getI (takeB h) (k : Int) = some (refB h h.graph.events[k].id) := get_map _ hk
  cases hrk : refB h h.graph.events[k].id with
  | false =>
   rw [iter_is (o := b) (fun m (z : Bool × Int) => z = (b, 0)) ?_ (m := 0) rfl (big_gt (by omega))]
   ·
    simp
   ·
    rintro m z rfl
    left
    simp only [Zj, Z2p]
    rw [ht, Option.bind_some, hrk]; rfl
  | true =>
   have := loop_fold (l := h.graph.events[k].prev) (step := fun z : Bool × Int => Zj h.graph (takeB h) (i : Int) (k : Int) z.1 z.2) (fun q j => (q, j)) (fun q => q) (fun q p => q && !decide (p = h.graph.events[i].id)) (fun _ _ => True) hpl (fun j q hj _ => by
    refine ⟨?_, trivial⟩
    simp only [Zj, Z2p, Z6z]
    rw [ht, Option.bind_some, hrk, cond_true, get_of_lt hk, Option.bind_some, dlt hj, cond_true, get_of_lt hi, wrap1 hj hpl]
    cases q with
    | false => rfl
    | true =>
     simp only [cond_true, Option.bind_some]
     rw [get_of_lt hj, Option.bind_some, bned]; rfl)
    (fun q _ => by
     simp only [Zj, Z2p]
     rw [ht, Option.bind_some, hrk, cond_true, get_of_lt hk, Option.bind_some, dnlt, cond_false]) (s := b) trivial
   rw [this.1]
   congr 1
   have key : ∀ (ps : List Int) (q : Bool), ps.foldl (fun q p => q && !decide (p = h.graph.events[i].id)) q = (q && !decide (h.graph.events[i].id ∈ ps)) := by
    intro ps
    induction ps with
    | nil => intro q; simp
    | cons p ps ih =>
     intro q
     rw [List.foldl_cons, ih]
     by_cases hp : p = h.graph.events[i].id
     ·
      simp [hp]
     ·
      simp [hp, show ¬ h.graph.events[i].id = p from fun h => hp h.symm]
   rw [key]; simp
 have inner2 : ∀ (i : Nat) (hi : i < h.graph.events.length) (b : Bool), iter (fun z : Bool × Int => Z17 h.graph (takeB h) (i : Int) z.1 z.2) big (b, 0) = some (b && endB h h.graph.events[i].id) := by
  intro i hi b
  have := loop_fold (l := h.graph.events) (step := fun z : Bool × Int => Z17 h.graph (takeB h) (i : Int) z.1 z.2) (fun q j => (q, j)) (fun q => q) (fun q e => q && (!refB h e.id || !decide (h.graph.events[i].id ∈ e.prev))) (fun _ _ => True) (by omega) (fun k q hk _ => by
   refine ⟨?_, trivial⟩
   simp only [Z17]
   rw [dlt hk, cond_true, inner1 i k hi hk, Option.bind_some]
   simp only [Z9b]
   rw [wrap1 hk (by omega)])
   (fun q _ => by simp only [Z17]; rw [dnlt, cond_false]) (s := b) trivial
  rw [this.1]
  congr 1
  have key : ∀ (l : List TEvent) (q : Bool), l.foldl (fun q e => q && (!refB h e.id || !decide (h.graph.events[i].id ∈ e.prev))) q = (q && l.all fun e => (!refB h e.id || !decide (h.graph.events[i].id ∈ e.prev))) := by
   intro l
   induction l with
   | nil => intro q; simp
   | cons e l ih => intro q; rw [List.foldl_cons, ih, List.all_cons, Bool.and_assoc]
  rw [key]
  congr 1
  unfold endB accI
  rw [Bool.eq_iff_iff, List.all_eq_true, List.all_eq_true]
  constructor
  ·
   intro h1 id hid
   obtain ⟨h2, h3⟩ := List.mem_filter.1 hid
   obtain ⟨_, e2, e3⟩ := evD_is h2 hr.fits.up
   have := h1 _ e2
   rw [e3, h3] at this
   simpa using this
  ·
   intro h1 e he
   cases h3 : refB h e.id with
   | false => rfl
   | true =>
    have := h1 e.id (List.mem_filter.2 ⟨List.mem_map.2 ⟨e, he, rfl⟩, h3⟩)
    have e1 : evD h.graph.events e.id = e := by unfold evD; rw [hr.fits.up.evAt_mem he]; rfl
    rw [e1] at this
    simpa using this
 have := loop_fold (l := h.graph.events) (step := fun z : List Int × Int => Z2q h.graph (takeB h) z.1 z.2) (fun q j => (q, j)) (fun q => q) (fun q e => if (refB h e.id && endB h e.id) = true then q ++ [e.id] else q) (fun i q => q.length ≤ i) (by omega) (fun i q hi hq => by
  refine ⟨?_, by split <;> first | omega | (rw [List.length_append, List.length_singleton]; omega)⟩
  have ht : getI (takeB h) (i : Int) = some (refB h h.graph.events[i].id) := get_map _ hi
  simp only [Z2q]
  rw [dlt hi, cond_true, ht, Option.bind_some, inner2 i hi, Option.bind_some]
  simp only [Z9a, Z6y]
  rw [get_of_lt hi, wrap1 hi (by omega), Option.bind_some, chk8 (by simp; omega)]
  cases (refB h h.graph.events[i].id && endB h h.graph.events[i].id) <;> rfl)
  (fun q _ => by simp only [Z2q]; rw [dnlt, cond_false]) (s := []) (by simp)
 rw [this.1, Option.bind_some]
 simp only [Z99]
 congr 1
 unfold endsI accI
 rw [List.filter_filter]
 have key : ∀ (l : List TEvent) (q : List Int), l.foldl (fun q e => if (refB h e.id && endB h e.id) = true then q ++ [e.id] else q) q = q ++ (l.map (·.id)).filter fun x => endB h x && refB h x := by
  intro l
  induction l with
  | nil => intro q; simp
  | cons e l ih =>
   intro q
   rw [List.foldl_cons, ih]
   cases hc : refB h e.id && endB h e.id with
   | true => rw [if_pos rfl, List.map_cons, List.filter_cons_of_pos (by rw [Bool.and_comm]; exact hc)]; simp
   | false => rw [if_neg (by simp), List.map_cons, List.filter_cons_of_neg (by rw [Bool.and_comm, hc]; simp)]
 rw [key]; rfl

theorem endsI_mem {h : THistory} {id : Int} (hi : id ∈ endsI h) : id ∈ h.graph.events.map (·.id) := (List.mem_filter.1 (List.mem_filter.1 hi).1).1
theorem endsI_len {h : THistory} (hr : Right h.graph) : (endsI h).length ≤ 60 := by
 have h1 := List.length_filter_le (endB h) (accI h)
 have h2 := List.length_filter_le (refB h) (h.graph.events.map (·.id))
 rw [List.length_map] at h2
 have := hr.fits.len
 unfold endsI
 unfold accI at h1 ⊢
 omega


def nowOf (h : THistory) : List TEntry := resOf h.graph ((endsI h).map (behI h.after))

theorem states_map {h : THistory} (l : List Int) (hl : l.length < 1000000) : Z1s h l = some (l.map (behI h.after)) := by
 unfold Z1s
 have := loop_fold (l := l) (step := fun z : List (List TEntry) × Int => Zd h l z.1 z.2) (fun q j => (q, j)) (fun q => q) (fun q p => q ++ [behI h.after p]) (fun i q => q.length = i) (by omega) (fun i q hi hq => by
  refine ⟨?_, by simp [hq]⟩
  simp only [Zd]
  rw [dlt hi, cond_true, get_of_lt hi, Option.bind_some, chk24 (by simp; omega), Option.bind_some, wrap1 hi (by omega)]; rfl)
  (fun q _ => by simp only [Zd]; rw [dnlt, cond_false]) (s := []) rfl
 rw [this.1, map_append_fold]; rfl

theorem Both.ends {g : TGraph'} {h : THistory} {w : TL06Known} (hb : Both g h w) (hr : Right g) : Mrg g ((endsI h).map (behI h.after)) := by
 have hgr := hb.graph
 refine ⟨hr.fits, hr.ev, hr.deep, fun s hs => ?_, by have := endsI_len (hgr ▸ hr : Right h.graph); simp; omega⟩
 obtain ⟨id, hid, rfl⟩ := List.mem_map.1 hs
 have hm := endsI_mem hid
 rw [hgr] at hm
 obtain ⟨_, e2, e3⟩ := evD_is hm hr.fits.up
 have := (hb.behind hr e2).2
 rwa [e3] at this

theorem now_impl {g : TGraph'} {h : THistory} {w : TL06Known} (hb : Both g h w) (hr : Right g) : Z7j h = some (nowOf h) ∧ StOk g.events (nowOf h) := by
 have hgr := hb.graph
 have hr' : Right h.graph := hgr ▸ hr
 have hm := hb.ends hr
 have hel := endsI_len hr'
 unfold Z7j
 rw [c_ends_impl hr', Option.bind_some, states_map _ (by omega), Option.bind_some]
 have hm' : Mrg h.graph ((endsI h).map (behI h.after)) := by rw [hgr]; exact hm
 obtain ⟨_, c2, c3⟩ := c_resolve hm' hb.depth
 rw [c2, ← hgr]
 exact ⟨rfl, c3⟩

theorem now_spec {g : TGraph'} {h : THistory} {w : TL06Known} (hb : Both g h w) (hr : Right g) {step : List (List TEntry) × Int → Option ((List (List TEntry) × Int) ⊕ List (List TEntry))}
  (h1 : ∀ (l : List (List TEntry)) (i : Nat), step (l, (i : Int)) = cond (decide ((i : Int) < ((endsI h).length : Int))) ((getI (endsI h) (i : Int)).bind fun e46 => (Z4 g.events e46).bind fun r48 => (getI w.behind r48).bind fun e50 => (chk (decide ((l.length + [e50].length) * 24 ≤ 140737488355328))).bind fun u54 => some (.inl ((l ++ [e50]), (IntKind.i64.wrap ((i : Int) + 1))))) (some (.inr l))) :
  iter step big ([], 0) = some ((endsI h).map (behI h.after)) ∧ Z18 g w.depths ((endsI h).map (behI h.after)) = some (nowOf h) := by
 have hgr := hb.graph
 have hr' : Right h.graph := hgr ▸ hr
 have hel := endsI_len hr'
 have hfl := hr.fits.len
 constructor
 ·
  have := loop_fold (l := endsI h) (step := step) (fun q j => (q, j)) (fun q => q) (fun q p => q ++ [behI h.after p]) (fun i q => q.length = i) (by omega) (fun i q hi hq => by
   refine ⟨?_, by simp [hq]⟩
   have hm := endsI_mem (List.getElem_mem hi)
   rw [hgr] at hm
   obtain ⟨_, e2, e3⟩ := evD_is hm hr.fits.up
   have hbe := (hb.behind hr e2).1
   rw [e3] at hbe
   rw [h1, dlt hi, cond_true, get_of_lt hi, Option.bind_some, c_l03At _ _ (by omega), Option.bind_some, hbe, Option.bind_some, chk24 (by simp; omega), Option.bind_some, wrap1 hi (by omega)])
   (fun q _ => by rw [h1, dnlt, cond_false]) (s := []) rfl
  rw [this.1, map_append_fold]; rfl
 ·
  have hm' : Mrg h.graph ((endsI h).map (behI h.after)) := by rw [hgr]; exact hb.ends hr
  obtain ⟨c1, _, _⟩ := c_resolve hm' hb.depth
  rw [hb.depths, ← hgr]
  exact c1
end Go.Proofs.YtnndihmamfomcaaGreat
