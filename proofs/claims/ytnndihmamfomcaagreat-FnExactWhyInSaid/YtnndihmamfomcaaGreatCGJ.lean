/- Plain laws for the graphs: right graphs alike on both sides; states. -/
import Derived.Test.YtnndihmamfomcaaGreatCGI
set_option autoImplicit false
set_option linter.unusedVariables false
set_option linter.unusedSimpArgs false
namespace Go.Proofs.YtnndihmamfomcaaGreat
open Go Go.Abs

theorem Zck {g : TGraph'} (hg : Fine g) (he : Row g.events g.room) (h60 : g.events.length ≤ 60) : Zc g false = some (restOk g) := by
 have hel := hg.elen
 have hpl := hg.plen
 simp only [Zc, cond_false, Zab, Zag]
 rw [bind_idx (loop_idx (l := g.events) (step := Z1y g.events g) (fun e => !wholeB g.events e) (by omega) (fun i hi => by
  have := hg.ep _ (List.getElem_mem hi)
  simp only [Z1y, Z9n]
  rw [dlt hi, cond_true, get_of_lt hi, Option.bind_some, c_complete _ _ he.2 (by omega) (by omega), Option.bind_some, Option.bind_some, wrap1 hi (by omega)]
  show cond (!wholeB g.events g.events[i]) _ _ = _
  cases wholeB g.events g.events[i] <;> rfl) (by simp only [Z1y]; rw [dnlt, cond_false])) (fun _ => rfl) rfl]
 rw [Option.bind_some, idxP_nn, Option.bind_some]
 simp only [Zac, Zai]
 rw [bind_idx (loop_idx (l := g.parked) (step := Z1z g.parked g) (fun e => hasE g.events e.id || wholeB g.events e) (by omega) (fun i hi => by
  have := hg.pp _ (List.getElem_mem hi)
  simp only [Z1z, Z9o, Z4u]
  rw [dlt hi, cond_true, get_of_lt hi, Option.bind_some, c_has _ _ he.2 (by omega), Option.bind_some, c_complete _ _ he.2 (by omega) (by omega), wrap1 hi (by omega)]
  show (cond (hasE g.events g.parked[i].id) (some true) (some (wholeB g.events g.parked[i]))).bind _ = _
  cases hasE g.events g.parked[i].id <;> cases wholeB g.events g.parked[i] <;> rfl) (by simp only [Z1z]; rw [dnlt, cond_false])) (fun _ => rfl) rfl]
 simp only [Option.bind_some, idxP_nn]
 have hx : (g.events.all fun e => wholeB g.events e && !hasE g.parked e.id) = ((g.events.all fun e => wholeB g.events e) && g.events.all fun e => !hasE g.parked e.id) := by
  rw [Bool.eq_iff_iff]; simp [List.all_eq_true, forall_and]
 have hy : (g.events.all fun e => !hasE g.parked e.id) = (g.parked.all fun e => !hasE g.events e.id) := by
  rw [Bool.eq_iff_iff, List.all_eq_true, List.all_eq_true]
  constructor
  ·
   intro h e hm
   rw [Bool.not_eq_true', Bool.eq_false_iff]
   intro hh
   obtain ⟨e', h1, h2⟩ := has_iff.1 hh
   have := h e' h1
   rw [Bool.not_eq_true', Bool.eq_false_iff] at this
   exact this (has_iff.2 ⟨e, hm, h2.symm⟩)
  ·
   intro h e hm
   rw [Bool.not_eq_true', Bool.eq_false_iff]
   intro hh
   obtain ⟨e', h1, h2⟩ := has_iff.1 hh
   have := h e' h1
   rw [Bool.not_eq_true', Bool.eq_false_iff] at this
   exact this (has_iff.2 ⟨e, hm, h2.symm⟩)
 unfold restOk
 rw [hx, hy]
 have h1 : (g.events.any fun e => !wholeB g.events e) = !(g.events.all fun e => wholeB g.events e) := by simp [List.all_eq_not_any_not]
 have h2 : (g.parked.any fun e => hasE g.events e.id || wholeB g.events e) = !((g.parked.all fun e => !hasE g.events e.id) && g.parked.all fun e => !wholeB g.events e) := by
  rw [Bool.eq_iff_iff]
  simp only [List.any_eq_true, Bool.or_eq_true, Bool.not_eq_true', Bool.and_eq_false_iff, List.all_eq_false, Bool.not_eq_false']
  constructor
  ·
   rintro ⟨x, hx, h | h⟩
   ·
    exact .inl ⟨x, hx, by simp [h]⟩
   ·
    exact .inr ⟨x, hx, by simp [h]⟩
  ·
   rintro (⟨x, hx, h⟩ | ⟨x, hx, h⟩)
   ·
    exact ⟨x, hx, .inl (by simpa using h)⟩
   ·
    exact ⟨x, hx, .inr (by simpa using h)⟩
 rw [h1, h2]
 cases hw : g.events.all fun e => wholeB g.events e with
 | false => rfl
 | true =>
  have hf : Fits g.events := ⟨he.2, fun e hm p hpm => List.all_eq_true.1 (List.all_eq_true.1 hw e hm) p hpm, h60, fun e hm => by have := hg.ep e hm; omega⟩
  rw [c_depths hf]
  cases (g.parked.all fun e => !hasE g.events e.id) <;> cases (g.parked.all fun e => !wholeB g.events e) <;> cases decide (zeros (depthsOf g.events) = 0) <;> rfl

theorem rest_iff {g : TGraph'} (hg : Fine g) (he : Row g.events g.room) (hp : Row g.parked g.room) (h60 : g.events.length ≤ 60) (h20 : g.parked.length ≤ 20) (hr : 1 ≤ g.room ∧ g.room ≤ 3) : restOk g = true ↔ GOk g := by
 have h1 := row_iff.1 he
 have h2 := row_iff.1 hp
 unfold restOk
 simp only [Bool.and_eq_true, decide_eq_true_eq, List.all_eq_true, Bool.not_eq_true']
 constructor
 ·
  rintro ⟨a, b, c⟩
  have hf : Fits g.events := ⟨he.2, fun e hm p hpm => List.all_eq_true.1 (a e hm).1 p hpm, h60, fun e hm => by have := hg.ep e hm; omega⟩
  exact ⟨hr, hf, h1.1, h20, h2.2, h2.1, fun e hm => (a e hm).2, fun e hm => b e hm, (zeros_deep _ (c_l03Depths hf).2).1 c⟩
 ·
  intro h
  refine ⟨fun e hm => ⟨List.all_eq_true.2 fun p hp => h.fits.whole e hm p hp, h.apart e hm⟩, fun e hm => h.lack e hm, (zeros_deep _ (c_l03Depths h.fits).2).2 h.deep⟩

theorem right_both {g : TGraph'} (hg : Fine g) : ∃ b, Z43 g = some b ∧ Z77 g = some b ∧ (b = true ↔ GOk g) := by
 have hel := hg.elen
 have hpl := hg.plen
 have hno : ∀ x : Bool, x = true → Zt g x = some false := fun x hx => by subst hx; rfl
 have hno2 : ∀ x : Bool, x = true → Zc g x = some false := fun x hx => by subst hx; rfl
 unfold Z43 Z77
 rw [c_l02Is, c_isRoom, Option.bind_some, Option.bind_some, c_l03Row _ _ _ (by omega), c_l03Row _ _ _ (by omega), c_areRight g g.events (by omega) (fun e he => by have := hg.ep e he; omega), c_areRight g g.parked (by omega) (fun e he => by have := hg.pp e he; omega)]
 simp only [Option.bind_some]
 by_cases hr : 1 ≤ g.room ∧ g.room ≤ 3
 ·
  rw [decide_eq_true hr]
  simp only [cond_true]
  by_cases h60 : g.events.length ≤ 60
  ·
   rw [decide_eq_true (by omega : (g.events.length : Int) ≤ 60), decide_eq_false (by omega : ¬ (g.events.length : Int) > 60)]
   simp only [Bool.true_and, cond_false]
   by_cases he : Row g.events g.room
   ·
    rw [decide_eq_true he]
    simp only [cond_true]
    by_cases h20 : g.parked.length ≤ 20
    ·
     rw [decide_eq_true (by omega : (g.parked.length : Int) ≤ 20), decide_eq_false (by omega : ¬ (g.parked.length : Int) > 20)]
     simp only [Bool.true_and, cond_false]
     by_cases hp : Row g.parked g.room
     ·
      rw [decide_eq_true hp]
      exact ⟨restOk g, Zes hg he hp h60, Zck hg he h60, rest_iff hg he hp h60 h20 hr⟩
     ·
      rw [decide_eq_false hp]
      exact ⟨false, hno _ rfl, hno2 _ rfl, (fun h => nomatch h), fun h => absurd (row_iff.2 ⟨h.pev, h.pup⟩) hp⟩
    ·
     rw [decide_eq_false (by omega : ¬ (g.parked.length : Int) ≤ 20), decide_eq_true (by omega : (g.parked.length : Int) > 20)]
     exact ⟨false, hno _ rfl, hno2 _ rfl, (fun h => nomatch h), fun h => absurd h.plen h20⟩
   ·
    rw [decide_eq_false he]
    refine ⟨false, hno _ rfl, ?_, (fun h => nomatch h), fun h => absurd (row_iff.2 ⟨h.ev, h.fits.up⟩) he⟩
    by_cases h20 : g.parked.length ≤ 20
    ·
     rw [decide_eq_false (by omega : ¬ (g.parked.length : Int) > 20)]; exact hno2 _ rfl
    ·
     rw [decide_eq_true (by omega : (g.parked.length : Int) > 20)]; exact hno2 _ rfl
  ·
   rw [decide_eq_false (by omega : ¬ (g.events.length : Int) ≤ 60), decide_eq_true (by omega : (g.events.length : Int) > 60)]
   exact ⟨false, hno _ rfl, hno2 _ rfl, (fun h => nomatch h), fun h => absurd h.fits.len h60⟩
 ·
  rw [decide_eq_false hr]
  exact ⟨false, hno _ rfl, hno2 _ rfl, (fun h => nomatch h), fun h => absurd h.room hr⟩


def ltK (a b : TEntry) : Prop := a.kind < b.kind ∨ a.kind = b.kind ∧ a.key < b.key
instance (a b : TEntry) : Decidable (ltK a b) := by unfold ltK; infer_instance
def eqK (a b : TEntry) : Prop := a.kind = b.kind ∧ a.key = b.key
instance (a b : TEntry) : Decidable (eqK a b) := by unfold eqK; infer_instance
abbrev UpS (s : List TEntry) : Prop := s.Pairwise ltK
def idS (s : List TEntry) (kind key : Int) : Int := match s.find? (fun x => decide (x.kind = kind ∧ x.key = key)) with | some x => x.id | none => 0
def putS : List TEntry → TEntry → List TEntry
 | [], x => [x]
 | e :: r, x => if ltK e x then e :: putS r x else if eqK e x then x :: r else x :: e :: r

theorem c_l04At (s : List TEntry) (kind key : Int) (hl : s.length < 9223372036854775807) : Z14 s kind key = some (idS s kind key) := by
 unfold Z14
 rcases loop_first (step := Z2i s kind key) (n := s.length) (fun i => if h : i < s.length then cond (decide (s[i].kind = kind ∧ s[i].key = key)) (some (.inl s[i].id)) none else none) (.inr ()) hl (fun i hi => by
  simp only [Z2i, Z6i, hi, dif_pos]
  rw [dlt hi, cond_true, get_of_lt hi, Option.bind_some, wrap1 hi hl, Option.bind_some, beqd, beqd]
  by_cases h1 : s[i].kind = kind <;> by_cases h2 : s[i].key = key <;> simp [h1, h2]) (by simp only [Z2i]; rw [dnlt, cond_false]) with ⟨i, o, hi, ho, hb, hx⟩ | ⟨h, hx⟩
 ·
  rw [hx, Option.bind_some]
  simp only [hi, dif_pos] at ho
  unfold idS
  by_cases hp : s[i].kind = kind ∧ s[i].key = key
  ·
   rw [decide_eq_true hp] at ho
   cases ho
   have : s.find? (fun x => decide (x.kind = kind ∧ x.key = key)) = some s[i] := by
    rw [List.find?_eq_some_iff_getElem]
    refine ⟨decide_eq_true hp, i, hi, rfl, fun j hj => ?_⟩
    have hjl : j < s.length := by omega
    have := hb j hj
    simp only [hjl, dif_pos] at this
    by_cases hq : s[j].kind = kind ∧ s[j].key = key
    ·
     rw [decide_eq_true hq] at this; cases this
    ·
     rw [decide_eq_false hq]; rfl
   rw [this]
  ·
   rw [decide_eq_false hp] at ho; cases ho
 ·
  rw [hx, Option.bind_some]
  unfold idS
  have : s.find? (fun x => decide (x.kind = kind ∧ x.key = key)) = none := by
   rw [List.find?_eq_none]
   intro x hxm hx
   obtain ⟨i, hi, rfl⟩ := List.mem_iff_getElem.1 hxm
   have := h i hi
   simp only [hi, dif_pos, hx, cond_true] at this
   cases this
  rw [this]; rfl

theorem c_l04Less (a b : TEntry) : Z8z a b = some (decide (ltK a b)) := by
 unfold Z8z Z4g ltK
 rw [beqd]
 by_cases h1 : a.kind < b.kind
 ·
  simp [h1]
 ·
  by_cases h2 : a.kind = b.kind
  ·
   simp [h2]
  ·
   simp [h1, h2]

theorem loop_while {α : Type} {l : List α} {step : Int → Option (Int ⊕ Int)} (p : α → Bool) (hl : l.length < 9223372036854775807)
  (h1 : ∀ (i : Nat) (hi : i < l.length), step (i : Int) = some (cond (p l[i]) (.inl ((i + 1 : Nat) : Int)) (.inr (i : Int)))) (h2 : step (l.length : Int) = some (.inr (l.length : Int))) :
  iter step big 0 = some (((l.takeWhile p).length : Nat) : Int) := by
 refine iter_is (fun m (x : Int) => ∃ i : Nat, x = i ∧ i ≤ l.length ∧ (l.takeWhile p).length = i + ((l.drop i).takeWhile p).length ∧ m = l.length - i) ?_ (m := l.length) ⟨0, rfl, by omega, by simp, by omega⟩ (big_gt (by omega))
 rintro m x ⟨i, rfl, hi, ht, rfl⟩
 by_cases hil : i < l.length
 ·
  rw [h1 i hil]
  rw [List.drop_eq_getElem_cons hil] at ht
  cases hp : p l[i] with
  | true =>
   right
   rw [List.takeWhile_cons_of_pos hp] at ht
   exact ⟨_, l.length - (i + 1), rfl, by omega, i + 1, rfl, by omega, by simp at ht ⊢; omega, rfl⟩
  | false =>
   left
   rw [List.takeWhile_cons_of_neg (by simp [hp])] at ht
   simp at ht
   rw [ht]; rfl
 ·
  obtain rfl : i = l.length := by omega
  left
  rw [List.drop_length] at ht
  simp at ht
  rw [h2, ht]

theorem take_while_len {α : Type} (p : α → Bool) (l : List α) : l.take (l.takeWhile p).length = l.takeWhile p ∧ l.drop (l.takeWhile p).length = l.dropWhile p := by
 have h : l.takeWhile p ++ l.dropWhile p = l := List.takeWhile_append_dropWhile
 constructor
 ·
  conv => lhs; arg 2; rw [← h]
  rw [List.take_left]
 ·
  conv => lhs; arg 2; rw [← h]
  rw [List.drop_left]

theorem chk24 {n : Nat} (h : n < 1000000000) : chk (decide (n * 24 ≤ 140737488355328)) = some () := chk_t (decide_eq_true (by omega))
theorem chk8 {n : Nat} (h : n < 1000000000) : chk (decide (n * 8 ≤ 140737488355328)) = some () := chk_t (decide_eq_true (by omega))

theorem c_l04Without (s : List TEntry) (x : TEntry) (hl : s.length < 100000000) : Z6j s x = some (s.filter fun e => !decide (eqK e x)) := by
 unfold Z6j
 have := loop_fold (l := s) (step := fun z : List TEntry × Int => Z2k s x z.1 z.2) (fun q j => (q, j)) (fun q => q) (fun q e => if eqK e x then q else q ++ [e]) (fun i q => q.length ≤ i) (by omega) (fun i q hi hq => by
  refine ⟨?_, by split <;> first | omega | (rw [List.length_append, List.length_singleton]; omega)⟩
  simp only [Z2k, Z6l, Z6k]
  rw [dlt hi, cond_true, get_of_lt hi, Option.bind_some, Option.bind_some, wrap1 hi (by omega), bned, bned, chk24 (by simp; omega), Option.bind_some]
  unfold eqK
  by_cases h1 : s[i].kind = x.kind <;> by_cases h2 : s[i].key = x.key <;> simp [h1, h2])
  (fun q _ => by simp only [Z2k]; rw [dnlt, cond_false]) (s := []) (by simp)
 rw [this.1, Option.bind_some]
 simp only [Z91]
 congr 1
 have : ∀ (r q : List TEntry), r.foldl (fun q e => if eqK e x then q else q ++ [e]) q = q ++ r.filter fun e => !decide (eqK e x) := by
  intro r
  induction r with
  | nil => intro q; simp
  | cons e r ih =>
   intro q
   rw [List.foldl_cons, ih]
   by_cases h : eqK e x
   ·
    rw [if_pos h, List.filter_cons_of_neg (by simp [h])]
   ·
    rw [if_neg h, List.filter_cons_of_pos (by simp [h])]; simp
 rw [this]; simp

theorem putS_filter {x : TEntry} : ∀ {s : List TEntry}, UpS s → putS s x = ((s.filter fun e => !decide (eqK e x)).takeWhile fun e => decide (ltK e x)) ++ x :: ((s.filter fun e => !decide (eqK e x)).dropWhile fun e => decide (ltK e x))
 | [], _ => rfl
 | e :: r, h => by
  obtain ⟨h1, h2⟩ := List.pairwise_cons.1 h
  have hgt : ∀ y : TEntry, ¬ ltK e x → y ∈ r → ltK x y := fun y hn hy => by
   have := h1 y hy
   unfold ltK at *; omega
  have hfil : ¬ ltK e x → r.filter (fun e => !decide (eqK e x)) = r := fun hn => List.filter_eq_self.2 fun y hy => by
   have := hgt y hn hy
   rw [Bool.not_eq_true', decide_eq_false_iff_not]
   unfold ltK at this; unfold eqK; omega
  have htw : ¬ ltK e x → r.takeWhile (fun e => decide (ltK e x)) = [] ∧ r.dropWhile (fun e => decide (ltK e x)) = r := fun hn => by
   cases r with
   | nil => exact ⟨rfl, rfl⟩
   | cons y r =>
    have : ¬ ltK y x := by have := hgt y hn (by simp); unfold ltK at *; omega
    rw [List.takeWhile_cons_of_neg (by simp [this]), List.dropWhile_cons_of_neg (by simp [this])]
    exact ⟨rfl, rfl⟩
  unfold putS
  by_cases hlt : ltK e x
  ·
   have hne : ¬ eqK e x := by unfold ltK at hlt; unfold eqK; omega
   rw [if_pos hlt, List.filter_cons_of_pos (by simp [hne]), List.takeWhile_cons_of_pos (by simp [hlt]), List.dropWhile_cons_of_pos (by simp [hlt]), putS_filter h2]
   rfl
  ·
   rw [if_neg hlt]
   by_cases he : eqK e x
   ·
    rw [if_pos he, List.filter_cons_of_neg (by simp [he]), hfil hlt, (htw hlt).1, (htw hlt).2]; rfl
   ·
    rw [if_neg he, List.filter_cons_of_pos (by simp [he]), List.takeWhile_cons_of_neg (by simp [hlt]), List.dropWhile_cons_of_neg (by simp [hlt]), hfil hlt]; rfl

theorem c_l04Put {s : List TEntry} (hs : UpS s) (x : TEntry) (hl : s.length < 1000000) : Z2j s x = some (putS s x) := by
 unfold Z2j
 rw [c_l04Without _ _ (by omega), Option.bind_some, putS_filter hs]
 have hfl : (s.filter fun e => !decide (eqK e x)).length ≤ s.length := List.length_filter_le _ _
 generalize s.filter (fun e => !decide (eqK e x)) = l at hfl
 rw [loop_while (l := l) (fun e => decide (ltK e x)) (by omega) (fun i hi => by
  simp only [Z4i, Z4h]
  rw [dlt hi, cond_true, get_of_lt hi, Option.bind_some, c_l04Less, Option.bind_some, wrap1 hi (by omega)]
  cases decide (ltK l[i] x) <;> rfl) (by simp only [Z4i, Z4h]; rw [dnlt, cond_false, cond_false]), Option.bind_some]
 simp only [Z90]
 have hk : (l.takeWhile fun e => decide (ltK e x)).length ≤ l.length := (List.takeWhile_prefix _).length_le
 obtain ⟨e1, e2⟩ := take_while_len (fun e => decide (ltK e x)) l
 rw [sliceI_to hk, Option.bind_some, e1, chk24 (by simp; omega), Option.bind_some, chk24 (by simp; omega), Option.bind_some, sliceI_from hk, Option.bind_some, e2]
 have hd : (l.dropWhile fun e => decide (ltK e x)).length ≤ l.length := (List.dropWhile_suffix _).length_le
 rw [chk24 (by simp; omega), Option.bind_some]
 simp
end Go.Proofs.YtnndihmamfomcaaGreat
