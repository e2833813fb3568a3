/- Plain laws for the graphs: rows of events, places, binary search. -/
import Derived.Test.YtnndihmamfomcaaGreatCGB
set_option autoImplicit false
set_option linter.unusedVariables false
set_option linter.unusedSimpArgs false
namespace Go.Proofs.YtnndihmamfomcaaGreat
open Go Go.Abs

abbrev Up2 (l : List TEvent) : Prop := l.Pairwise fun a b => a.id < b.id
def Row (l : List TEvent) (room : Int) : Prop := (∀ e ∈ l, evOk e = true ∧ e.room = room) ∧ Up2 l
instance (l : List TEvent) (room : Int) : Decidable (Row l room) := by unfold Row; infer_instance

theorem pairw {l : List TEvent} : (∀ (i : Nat) (hi : i < l.length), 0 < i → l[i - 1].id < l[i].id) ↔ Up2 l := by
 have h1 := pair_of (l.map (·.id))
 have h2 : Up2 l ↔ (l.map (·.id)).Pairwise (· < ·) := by rw [List.pairwise_map]
 rw [h2, ← h1]
 simp only [List.length_map, List.getElem_map]

theorem row_loop {l : List TEvent} {room : Int} {step : Int → Option (Int ⊕ (Bool ⊕ Unit))} (hl : l.length < 9223372036854775807)
  (h1 : ∀ (i : Nat) (hi : i < l.length), step (i : Int) = some (cond (evOk l[i] && (decide (l[i].room = room) && (decide (i = 0) || decide (l[i - 1].id < l[i].id)))) (.inl ((i + 1 : Nat) : Int)) (.inr (.inl false)))) (h2 : step (l.length : Int) = some (.inr (.inr ()))) :
  iter step big 0 = some (cond (decide (Row l room)) (.inr ()) (.inl false)) := by
 rw [loop_all (fun i => if h : i < l.length then (evOk l[i] && (decide (l[i].room = room) && (decide (i = 0) || decide (l[i - 1].id < l[i].id)))) else true) (.inl false) (.inr ()) hl (fun i hi => by simp only [hi, dif_pos]; exact h1 i hi) h2]
 have : (∀ i, i < l.length → (if h : i < l.length then (evOk l[i] && (decide (l[i].room = room) && (decide (i = 0) || decide (l[i - 1].id < l[i].id)))) else true) = true) ↔ Row l room := by
  unfold Row
  rw [← pairw]
  constructor
  ·
   intro h
   have hx : ∀ (i : Nat) (hi : i < l.length), evOk l[i] = true ∧ l[i].room = room ∧ (i = 0 ∨ l[i - 1].id < l[i].id) := fun i hi => by
    have := h i hi
    simpa [hi] using this
   refine ⟨fun x hx' => ?_, fun i hi h0 => ((hx i hi).2.2).resolve_left (by omega)⟩
   obtain ⟨i, hi, rfl⟩ := List.mem_iff_getElem.1 hx'
   exact ⟨(hx i hi).1, (hx i hi).2.1⟩
  ·
   rintro ⟨h3, h4⟩ i hi
   have := h3 _ (List.getElem_mem hi)
   have h5 := h4 i hi
   simp only [hi, dif_pos, this.1, this.2, decide_true, Bool.true_and, Bool.or_eq_true, decide_eq_true_eq]
   omega
 by_cases hP : Row l room
 ·
  rw [if_pos (this.2 hP), decide_eq_true hP]; rfl
 ·
  rw [if_neg (fun h => hP (this.1 h)), decide_eq_false hP]; rfl

theorem c_l03Row (l : List TEvent) (room most : Int) (hl : l.length < 9223372036854775807) : Z6e l room most = some (decide ((l.length : Int) ≤ most) && decide (Row l room)) := by
 unfold Z6e
 by_cases hm : (l.length : Int) ≤ most
 ·
  rw [decide_eq_false (by omega : ¬ (l.length : Int) > most), cond_false, decide_eq_true hm, Bool.true_and]
  rw [row_loop (room := room) hl ?_ (by unfold Z4c; rw [dnlt, cond_false])]
  ·
   cases decide (Row l room) <;> rfl
  ·
   intro i hi
   unfold Z4c
   rw [dlt hi, cond_true, get_of_lt hi, Option.bind_some, (c_EventRight _).1, Option.bind_some, bned]
   simp only [Z2h, wrap1 hi hl]
   cases evOk l[i] with
   | false => rfl
   | true =>
    by_cases h2 : l[i].room = room
    ·
     by_cases h3 : i = 0
     ·
      subst h3; simp [h2]
     ·
      have hm : i - 1 < l.length := by omega
      rw [show decide ((i : Int) > 0) = true from decide_eq_true (by omega), wrapm1 (by omega) (by omega), get_of_lt hm]
      by_cases h5 : l[i - 1].id < l[i].id
      ·
       simp [h2, h3, h5, show ¬ l[i].id ≤ l[i - 1].id from by omega]
      ·
       simp [h2, h3, h5, show l[i].id ≤ l[i - 1].id from by omega]
    ·
     simp [h2]
 ·
  rw [decide_eq_true (by omega : (l.length : Int) > most), cond_true, decide_eq_false hm]; rfl

theorem c_areRight (g : TGraph') (l : List TEvent) (hl : l.length < 9223372036854775807) (hp : ∀ e ∈ l, e.prev.length < 9223372036854775807) : Z53 g l = some (decide (Row l g.room)) := by
 unfold Z53
 rw [row_loop (room := g.room) hl ?_ (by unfold Z36; rw [dnlt, cond_false])]
 ·
  cases decide (Row l g.room) <;> rfl
 ·
  intro i hi
  unfold Z36
  rw [dlt hi, cond_true, get_of_lt hi, Option.bind_some, same_EventRight _ (hp _ (List.getElem_mem hi)), Option.bind_some, bned]
  simp only [Z1g, wrap1 hi hl]
  cases evOk l[i] with
  | false => rfl
  | true =>
   by_cases h2 : l[i].room = g.room
   ·
    by_cases h3 : i = 0
    ·
     subst h3; simp [h2]
    ·
     have hm : i - 1 < l.length := by omega
     rw [show decide ((i : Int) > 0) = true from decide_eq_true (by omega), wrapm1 (by omega) (by omega), get_of_lt hm]
     by_cases h5 : l[i - 1].id < l[i].id
     ·
      simp [h2, h3, h5, show ¬ l[i].id ≤ l[i - 1].id from by omega]
     ·
      simp [h2, h3, h5, show l[i].id ≤ l[i - 1].id from by omega]
   ·
    simp [h2]


def evAt (l : List TEvent) (id : Int) : Option TEvent := l.find? fun e => e.id == id
def hasE (l : List TEvent) (id : Int) : Bool := l.any fun e => e.id == id
def plc (l : List TEvent) (id : Int) : Int := idxP (fun e : TEvent => e.id == id) l
def cutE (l : List TEvent) (id : Int) : Nat := l.countP fun e => decide (e.id < id)

theorem c_l03At (l : List TEvent) (id : Int) (hl : l.length < 9223372036854775807) : Z4 l id = some (plc l id) := by
 unfold Z4
 exact bind_idx (loop_idx (step := Z2d l id) (fun e => e.id == id) hl (fun i hi => by
  unfold Z2d
  rw [dlt hi, cond_true, get_of_lt hi, Option.bind_some, wrap1 hi hl]
  cases l[i].id == id <;> rfl) (by unfold Z2d; rw [dnlt, cond_false])) (fun _ => rfl) rfl

theorem plc_nn (l : List TEvent) (id : Int) : decide (plc l id ≥ 0) = hasE l id := idxP_nn _ _
theorem plc_neg (l : List TEvent) (id : Int) : decide (plc l id < 0) = !hasE l id := by
 rw [← plc_nn]
 by_cases h : plc l id < 0
 ·
  rw [decide_eq_true h, decide_eq_false (by omega)]; rfl
 ·
  rw [decide_eq_false h, decide_eq_true (by omega)]; rfl

theorem plc_has {l : List TEvent} {id : Int} (h : hasE l id = true) : ∃ (k : Nat) (hk : k < l.length), plc l id = k ∧ l[k].id = id ∧ evAt l id = some l[k] := by
 unfold plc idxP
 cases hf : l.findIdx? (fun e => e.id == id) with
 | none =>
  rw [List.findIdx?_eq_none_iff] at hf
  obtain ⟨e, he, h1⟩ := List.any_eq_true.1 h
  rw [hf e he] at h1; cases h1
 | some k =>
  obtain ⟨hk, hp, hn⟩ := List.findIdx?_eq_some_iff_getElem.1 hf
  refine ⟨k, hk, rfl, by simpa using hp, ?_⟩
  unfold evAt
  rw [List.find?_eq_some_iff_getElem]
  exact ⟨hp, k, hk, rfl, fun j hj => by have := hn j hj; simpa using this⟩
theorem evAt_none {l : List TEvent} {id : Int} (h : hasE l id = false) : evAt l id = none := by
 unfold evAt
 rw [List.find?_eq_none]
 intro e he h1
 have := List.any_eq_false.1 h e he
 exact this h1
theorem has_of_mem {l : List TEvent} {e : TEvent} (h : e ∈ l) : hasE l e.id = true := List.any_eq_true.2 ⟨e, h, by simp⟩
theorem has_iff {l : List TEvent} {id : Int} : hasE l id = true ↔ ∃ e ∈ l, e.id = id := by
 unfold hasE; simp
theorem evAt_some {l : List TEvent} {id : Int} {e : TEvent} (h : evAt l id = some e) : e ∈ l ∧ e.id = id := by
 unfold evAt at h
 exact ⟨List.mem_of_find?_eq_some h, by have := List.find?_some h; simpa using this⟩
theorem Up2.inj {l : List TEvent} (h : Up2 l) {i j : Nat} (hi : i < l.length) (hj : j < l.length) (e : l[i].id = l[j].id) : i = j := by
 have := List.pairwise_iff_getElem.1 h
 rcases Nat.lt_trichotomy i j with h1 | h1 | h1
 ·
  have := this i j hi hj h1; omega
 ·
  exact h1
 ·
  have := this j i hj hi h1; omega
theorem Up2.plc {l : List TEvent} (h : Up2 l) {i : Nat} (hi : i < l.length) : plc l l[i].id = i ∧ evAt l l[i].id = some l[i] := by
 obtain ⟨k, hk, h1, h2, h3⟩ := plc_has (has_of_mem (List.getElem_mem hi))
 obtain rfl := h.inj hk hi h2
 exact ⟨h1, h3⟩
theorem Up2.evAt_mem {l : List TEvent} (h : Up2 l) {e : TEvent} (he : e ∈ l) : evAt l e.id = some e := by
 obtain ⟨i, hi, rfl⟩ := List.mem_iff_getElem.1 he
 exact (h.plc hi).2

theorem c_l03All (l : List TEvent) (e : TEvent) (hl : l.length < 9223372036854775807) (he : e.prev.length < 9223372036854775807) : Z6b l e = some (e.prev.all fun p => hasE l p) := by
 unfold Z6b
 rw [loop_allL (l := e.prev) (fun p => hasE l p) (.inl false) (.inr ()) he (fun i hi => by
  unfold Z4b
  rw [dlt hi, cond_true, get_of_lt hi, Option.bind_some, c_l03At _ _ hl, Option.bind_some, plc_neg, wrap1 hi he]
  cases hasE l e.prev[i] <;> rfl) (by unfold Z4b; rw [dnlt, cond_false])]
 cases e.prev.all fun p => hasE l p <;> rfl


theorem countP_mono {α : Type} {p : α → Bool} : ∀ {l : List α}, l.Pairwise (fun a b => p b = true → p a = true) → ∀ (i : Nat) (hi : i < l.length), p l[i] = true ↔ i < l.countP p
 | [], _, i, hi => by simp at hi
 | a :: r, h, i, hi => by
  obtain ⟨h1, h2⟩ := List.pairwise_cons.1 h
  have ih := countP_mono h2
  by_cases ha : p a = true
  ·
   rw [List.countP_cons_of_pos ha]
   cases i with
   | zero => simp [ha]
   | succ i => simpa using ih i (by simpa using hi)
  ·
   rw [List.countP_cons_of_neg ha]
   have : r.countP p = 0 := List.countP_eq_zero.2 fun b hb hpb => ha (h1 b hb hpb)
   rw [this]
   cases i with
   | zero => simp [ha]
   | succ i =>
    have := ih i (by simpa using hi)
    simp only [List.getElem_cons_succ]
    rw [List.countP_eq_zero.2 fun b hb hpb => ha (h1 b hb hpb)] at this
    exact ⟨fun h => absurd (this.1 h) (by omega), fun h => absurd h (by omega)⟩

theorem mid_is {i j : Nat} (h : i + j < 9223372036854775808) : IntKind.i64.wrap (shrI .u64 (IntKind.u64.wrap (IntKind.i64.wrap ((i : Int) + j))) 1) = (((i + j) / 2 : Nat) : Int) := by
 rw [wrap_id (n := (i : Int) + j) (by omega) (by omega), show (i : Int) + j = ((i + j : Nat) : Int) from by omega, shr1 (by omega), wrap_id (by omega) (by omega)]

theorem bsearch {step : Int × Int → Option ((Int × Int) ⊕ Int)} {n k : Nat} (hn : n < 4611686018427387904) (hk : k ≤ n)
  (h1 : ∀ i j : Nat, i < j → j ≤ n → step ((i : Int), (j : Int)) = some (if (i + j) / 2 < k then .inl ((((i + j) / 2 + 1 : Nat) : Int), (j : Int)) else .inl ((i : Int), (((i + j) / 2 : Nat) : Int))))
  (h2 : ∀ i : Nat, i ≤ n → step ((i : Int), (i : Int)) = some (.inr (i : Int))) : iter step big (0, (n : Int)) = some (k : Int) := by
 refine iter_is (fun m (x : Int × Int) => ∃ i j : Nat, x = ((i : Int), (j : Int)) ∧ i ≤ k ∧ k ≤ j ∧ j ≤ n ∧ j - i ≤ m) ?_ (m := n) ⟨0, n, rfl, by omega, hk, by omega, by omega⟩ (big_gt (by omega))
 rintro m x ⟨i, j, rfl, hi, hj, hjn, hm⟩
 by_cases hij : i < j
 ·
  right
  rw [h1 i j hij hjn]
  by_cases hc : (i + j) / 2 < k
  ·
   rw [if_pos hc]
   exact ⟨_, j - ((i + j) / 2 + 1), rfl, by omega, _, _, rfl, by omega, hj, hjn, by omega⟩
  ·
   rw [if_neg hc]
   exact ⟨_, (i + j) / 2 - i, rfl, by omega, _, _, rfl, hi, by omega, by omega, by omega⟩
 ·
  left
  obtain rfl : i = j := by omega
  obtain rfl : i = k := by omega
  exact h2 i hjn

def cmpI (a b : Int) : Int := if a < b then -1 else if a > b then 1 else 0
theorem c_Compare (a b : Int) : Zb a b = some (cmpI a b) := by
 unfold Zb Z75 cmpI
 by_cases h1 : a < b
 ·
  simp [h1]
 ·
  by_cases h2 : a > b
  ·
   simp [h1, h2]
  ·
   simp [h1, h2]
theorem cmpI_lt (a b : Int) : decide (cmpI a b < 0) = decide (a < b) := by
 unfold cmpI; split
 ·
  simp [*]
 ·
  split <;> simp [*]
theorem cmpI_eq (a b : Int) : (cmpI a b == 0) = decide (a = b) := by
 rw [beqd]
 unfold cmpI
 by_cases h1 : a < b
 ·
  rw [if_pos h1, decide_eq_false (by omega), decide_eq_false (by omega)]
 ·
  rw [if_neg h1]
  by_cases h2 : a > b
  ·
   rw [if_pos h2, decide_eq_false (by omega), decide_eq_false (by omega)]
  ·
   rw [if_neg h2, decide_eq_true rfl, decide_eq_true (by omega)]

theorem Up2.cut {l : List TEvent} (h : Up2 l) (id : Int) {i : Nat} (hi : i < l.length) : l[i].id < id ↔ i < cutE l id := by
 have := countP_mono (p := fun e : TEvent => decide (e.id < id)) (l := l) (h.imp fun {a b} hab hb => by simp at hb ⊢; omega) i hi
 rw [decide_eq_true_eq] at this
 exact this
theorem cutE_le (l : List TEvent) (id : Int) : cutE l id ≤ l.length := List.countP_le_length

theorem Up2.has_cut {l : List TEvent} (h : Up2 l) (id : Int) : hasE l id = true ↔ ∃ hc : cutE l id < l.length, l[cutE l id].id = id := by
 constructor
 ·
  intro hh
  obtain ⟨k, hk, _, h2, _⟩ := plc_has hh
  have h3 := h.cut id hk
  have hc : cutE l id < l.length := by omega
  refine ⟨hc, ?_⟩
  have h4 := h.cut id hc
  rcases Nat.lt_or_ge (cutE l id) k with h5 | h5
  ·
   have := List.pairwise_iff_getElem.1 h _ _ hc hk h5
   omega
  ·
   obtain rfl : k = cutE l id := by omega
   exact h2
 ·
  rintro ⟨hc, h1⟩
  exact has_iff.2 ⟨_, List.getElem_mem hc, h1⟩
theorem Up2.plc_cut {l : List TEvent} (h : Up2 l) {id : Int} (hh : hasE l id = true) : Go.Proofs.YtnndihmamfomcaaGreat.plc l id = cutE l id := by
 obtain ⟨hc, h1⟩ := (h.has_cut id).1 hh
 have := (h.plc hc).1
 rwa [h1] at this

theorem c_find (l : List TEvent) (id : Int) (h : Up2 l) (hl : l.length < 4611686018427387904) : Z3b l id = some ((cutE l id : Int), hasE l id) := by
 unfold Z3b Za7
 have hc : ∀ e : TEvent, Z5a e id = some (cmpI e.id id) := fun e => by unfold Z5a; rw [c_Compare]; rfl
 rw [bsearch (n := l.length) (k := cutE l id) hl (cutE_le _ _) ?_ ?_]
 ·
  rw [Option.bind_some]
  unfold Z8a Z5s
  by_cases hk : cutE l id < l.length
  ·
   rw [dlt hk, cond_true, get_of_lt hk, Option.bind_some, hc, Option.bind_some, cmpI_eq, Option.bind_some]
   simp only [Option.some.injEq, Prod.mk.injEq, true_and]
   by_cases hh : hasE l id = true
   ·
    rw [hh, decide_eq_true ((h.has_cut id).1 hh).2]
   ·
    rw [Bool.eq_false_iff.2 hh, decide_eq_false (fun h1 => hh ((h.has_cut id).2 ⟨hk, h1⟩))]
  ·
   have : hasE l id = false := Bool.eq_false_iff.2 fun hh => hk ((h.has_cut id).1 hh).1
   rw [decide_eq_false (by omega), cond_false, this]; rfl
 ·
  intro i j hij hj
  simp only [Z3p]
  have hm : (i + j) / 2 < l.length := by omega
  rw [dlt hij, cond_true, mid_is (by omega), get_of_lt hm, Option.bind_some, hc, Option.bind_some, cmpI_lt, wrap1 hm (by omega)]
  have := h.cut id hm
  by_cases hlt : l[(i + j) / 2].id < id
  ·
   rw [decide_eq_true hlt, if_pos (this.1 hlt)]; rfl
  ·
   rw [decide_eq_false hlt, if_neg (fun h1 => hlt (this.2 h1))]; rfl
 ·
  intro i hi
  simp only [Z3p]
  rw [dnlt, cond_false]

def zEv : TEvent := TEvent.mk 0 0 0 0 0 0 ByteArray.empty [] 0

theorem c_has (g : TGraph') (id : Int) (h : Up2 g.events) (hl : g.events.length < 4611686018427387904) : Z56 g id = some (hasE g.events id) := by
 unfold Z56; rw [c_find _ _ h hl]; rfl
theorem c_at (g : TGraph') (id : Int) (h : Up2 g.events) (hl : g.events.length < 4611686018427387904) : Zf g id = some ((evAt g.events id).getD zEv, hasE g.events id) := by
 unfold Zf; rw [c_find _ _ h hl, Option.bind_some]
 simp only
 cases hh : hasE g.events id with
 | false => rw [evAt_none hh]; rfl
 | true =>
  obtain ⟨hc, h1⟩ := (h.has_cut id).1 hh
  have := (h.plc hc).2
  rw [h1] at this
  rw [this, cond_true, get_of_lt hc]; rfl

theorem c_complete (g : TGraph') (e : TEvent) (h : Up2 g.events) (hl : g.events.length < 4611686018427387904) (he : e.prev.length < 9223372036854775807) : Z54 g e = some (e.prev.all fun p => hasE g.events p) := by
 unfold Z54 Zad Zak
 rw [bind_idx (loop_idx (step := Z20 e.prev g) (fun p => !hasE g.events p) he (fun i hi => by
  unfold Z20 Z9r
  rw [dlt hi, cond_true, get_of_lt hi, Option.bind_some, c_has _ _ h hl, Option.bind_some, Option.bind_some, wrap1 hi he]
  cases hasE g.events e.prev[i] <;> rfl) (by unfold Z20; rw [dnlt, cond_false])) (fun _ => rfl) rfl]
 simp only [Option.bind_some, idxP_nn, Option.some.injEq]
 rw [Bool.eq_iff_iff]
 simp
end Go.Proofs.YtnndihmamfomcaaGreat
