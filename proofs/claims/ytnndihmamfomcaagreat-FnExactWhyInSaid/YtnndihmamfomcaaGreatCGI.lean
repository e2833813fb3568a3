/- Plain laws for the graphs: the order of events, alike on both sides; right graphs. -/
import Derived.Test.YtnndihmamfomcaaGreatCGH
set_option autoImplicit false
set_option linter.unusedVariables false
set_option linter.unusedSimpArgs false
namespace Go.Proofs.YtnndihmamfomcaaGreat
open Go Go.Abs

theorem idt_get (a n i : Nat) (h : i < (idt a n).length) : (idt a n)[i] = ((a + i : Nat) : Int) := by simp [idt]

def ordPl (l : List TEvent) : List Int := (Z3s (idt 0 l.length) (depthsOf l)).getD []
def idPl (l : List TEvent) (x : Int) : Int := (l.getD x.toNat zEv).id
def ordIds (l : List TEvent) : List Int := (ordPl l).map (idPl l)

theorem c_ordPl {l : List TEvent} (hf : Fits l) : Z3s (idt 0 l.length) (depthsOf l) = some (ordPl l) ∧ IsOrd (depthsOf l) l.length (ordPl l) := by
 obtain ⟨ps, h1, h2⟩ := stable_ok (depthsOf l) l.length (c_l03Depths hf).2.len (by have := hf.len; omega)
 have : ordPl l = ps := by unfold ordPl; rw [h1]; rfl
 rw [this]
 exact ⟨h1, h2⟩

theorem ord_in {l : List TEvent} (hf : Fits l) {x : Int} (hx : x ∈ ordPl l) : ∃ k : Nat, x = (k : Int) ∧ k < l.length := by
 have := idt_mem ((c_ordPl hf).2.1.mem_iff.1 hx)
 exact ⟨x.toNat, by omega, by omega⟩
theorem ord_len {l : List TEvent} (hf : Fits l) : (ordPl l).length = l.length := by rw [(c_ordPl hf).2.1.length_eq, idt_len]

theorem c_order {g : TGraph'} (hf : Fits g.events) : Z59 g = some (ordIds g.events) := by
 have hl := hf.len
 unfold Z59
 rw [c_depths hf, Option.bind_some]
 have h1 := loop_fold (l := List.range g.events.length) (step := fun z : List Int × Int => Z1k g z.1 z.2) (fun s j => (s, j)) (fun s => s) (fun s i => s ++ [(i : Int)]) (fun i s => s.length = i) (by simp; omega) (fun i s hi hs => by
  simp only [List.length_range] at hi
  simp only [List.getElem_range]
  refine ⟨?_, by simp [hs]⟩
  simp only [Z1k]
  rw [dlt hi, cond_true, chk_t (decide_eq_true (by simp; omega)), Option.bind_some, wrap1 hi (by omega)])
  (fun s hs => by simp only [List.length_range, Z1k]; rw [dnlt, cond_false]) (s := []) rfl
 have e1 : ∀ (r : List Nat) (s : List Int), r.foldl (fun s (i : Nat) => s ++ [(i : Int)]) s = s ++ r.map fun i : Nat => (i : Int) := by
  intro r
  induction r with
  | nil => intro s; simp
  | cons i r ih => intro s; rw [List.foldl_cons, ih]; simp
 rw [e1] at h1
 have e2 : ([] : List Int) ++ (List.range g.events.length).map (fun i : Nat => (i : Int)) = idt 0 g.events.length := by unfold idt; rw [List.range_eq_range']; simp
 rw [e2] at h1
 rw [h1.1, Option.bind_some]
 simp only [Z7d, Z7c]
 rw [(c_ordPl hf).1, Option.bind_some]
 have hol := ord_len hf
 have h2 := loop_fold (l := ordPl g.events) (step := fun z : List Int × Int => Z1j g (ordPl g.events) z.1 z.2) (fun s j => (s, j)) (fun s => s) (fun s x => s ++ [idPl g.events x]) (fun i s => s.length = i) (by omega) (fun i s hi hs => by
  refine ⟨?_, by simp [hs]⟩
  simp only [Z1j]
  obtain ⟨k, hk, hkl⟩ := ord_in hf (List.getElem_mem hi)
  rw [dlt hi, cond_true, get_of_lt hi, Option.bind_some, hk, get_of_lt hkl, Option.bind_some, chk_t (decide_eq_true (by simp; omega)), Option.bind_some, wrap1 hi (by omega)]
  unfold idPl
  simp [hkl])
  (fun s hs => by simp only [Z1j]; rw [dnlt, cond_false]) (s := []) rfl
 have e3 : ∀ (r : List Int) (s : List Int), r.foldl (fun s x => s ++ [idPl g.events x]) s = s ++ r.map (idPl g.events) := by
  intro r
  induction r with
  | nil => intro s; simp
  | cons i r ih => intro s; rw [List.foldl_cons, ih]; simp
 rw [h2.1, e3]
 rfl


def layP (d : List Int) (n : Nat) (k : Int) : List Int := (idt 0 n).filter fun x => decide (dd d x = k)
def layers (d : List Int) (n : Nat) : Nat → List Int
 | 0 => []
 | k + 1 => layers d n k ++ layP d n ((k + 1 : Nat) : Int)

theorem filter_or {p q : Int → Bool} : ∀ {l : List Int}, (∀ x ∈ l, p x = true → q x = false) → (l.filter p ++ l.filter q).Perm (l.filter fun x => p x || q x)
 | [], _ => .refl _
 | a :: l, h => by
  have ih := filter_or (l := l) fun x hx => h x (by simp [hx])
  cases hp : p a with
  | true =>
   have hq := h a (by simp) hp
   rw [List.filter_cons_of_pos hp, List.filter_cons_of_neg (by simp [hq]), List.filter_cons_of_pos (by simp [hp])]
   exact ih.cons a
  | false =>
   cases hq : q a with
   | true =>
    rw [List.filter_cons_of_neg (by simp [hp]), List.filter_cons_of_pos hq, List.filter_cons_of_pos (by simp [hq])]
    exact List.perm_middle.trans (ih.cons a)
   | false =>
    rw [List.filter_cons_of_neg (by simp [hp]), List.filter_cons_of_neg (by simp [hq]), List.filter_cons_of_neg (by simp [hp, hq])]
    exact ih

theorem layers_perm {d : List Int} {n : Nat} (hpos : ∀ x ∈ idt 0 n, 1 ≤ dd d x) : ∀ k : Nat, (layers d n k).Perm ((idt 0 n).filter fun x => decide (dd d x ≤ (k : Int)))
 | 0 => by
  have : (idt 0 n).filter (fun x => decide (dd d x ≤ ((0 : Nat) : Int))) = [] := List.filter_eq_nil_iff.2 fun x hx => by have := hpos x hx; simp; omega
  rw [this]; exact .refl _
 | k + 1 => by
  refine ((layers_perm hpos k).append_right _).trans ?_
  unfold layP
  refine (filter_or fun x _ hx => by simp at hx ⊢; omega).trans ?_
  rw [show (fun x => decide (dd d x ≤ ((k + 1 : Nat) : Int))) = fun x => (decide (dd d x ≤ (k : Int)) || decide (dd d x = ((k + 1 : Nat) : Int))) from funext fun x => by
   by_cases h : dd d x ≤ ((k + 1 : Nat) : Int)
   ·
    by_cases h2 : dd d x ≤ (k : Int)
    ·
     rw [decide_eq_true h, decide_eq_true h2]; rfl
    ·
     rw [decide_eq_true h, decide_eq_false h2, decide_eq_true (by omega : dd d x = ((k + 1 : Nat) : Int))]; rfl
   ·
    rw [decide_eq_false h, decide_eq_false (by omega), decide_eq_false (by omega)]; rfl]

theorem layers_srt {d : List Int} {n : Nat} (hpos : ∀ x ∈ idt 0 n, 1 ≤ dd d x) : ∀ k : Nat, Srt2 d (layers d n k)
 | 0 => .nil
 | k + 1 => by
  refine pw_app.2 ⟨layers_srt hpos k, ?_, fun a ha b hb => ?_⟩
  ·
   unfold layP
   refine List.Pairwise.imp_of_mem (fun {x y} hx hy hlt => ?_) ((idt_up 0 n).filter _)
   have h1 := of_decide_eq_true (List.mem_filter.1 hx).2
   have h2 := of_decide_eq_true (List.mem_filter.1 hy).2
   unfold Lt2; omega
  ·
   have h1 := (layers_perm hpos k).mem_iff.1 ha
   have h2 := of_decide_eq_true (List.mem_filter.1 h1).2
   have h3 := of_decide_eq_true (List.mem_filter.1 hb).2
   unfold Lt2; omega

theorem layers_ord {d : List Int} {n k : Nat} (hpos : ∀ x ∈ idt 0 n, 1 ≤ dd d x) (hl : n ≤ (layers d n k).length) : IsOrd d n (layers d n k) := by
 refine ⟨?_, layers_srt hpos k⟩
 have hp := layers_perm hpos k
 have h1 : ((idt 0 n).filter fun x => decide (dd d x ≤ (k : Int))).length = (idt 0 n).length := by
  have h2 := hp.length_eq
  have h3 := List.length_filter_le (fun x => decide (dd d x ≤ (k : Int))) (idt 0 n)
  rw [idt_len] at h3 ⊢
  omega
 rw [List.length_filter_eq_length_iff] at h1
 rw [List.filter_eq_self.2 h1] at hp
 exact hp

theorem ord_unique {d : List Int} {n : Nat} {p q : List Int} (hp : IsOrd d n p) (hq : IsOrd d n q) : p = q :=
 List.Perm.eq_of_pairwise (fun a b _ _ h1 h2 => by unfold Lt2 at h1 h2; omega) hp.2 hq.2 (hp.1.trans hq.1.symm)

def Deep (l : List TEvent) : Prop := ∀ x ∈ depthsOf l, 0 < x

theorem dd_mem {d : List Int} {x : Int} (h : InR d x) : dd d x ∈ d := by
 have := dd_get h
 unfold getI at this
 rw [if_pos h.1] at this
 exact List.mem_of_getElem? this

theorem c_l03Sort {g : TGraph'} (hf : Fits g.events) (hd : Deep g.events) : Z6g g = some (ordIds g.events) := by
 have hl := hf.len
 obtain ⟨e0, hb⟩ := c_l03Depths hf
 unfold Z6g
 rw [e0, Option.bind_some]
 unfold Deep at hd
 have hord := (c_ordPl hf).2
 unfold ordIds
 generalize depthsOf g.events = d at hb hd hord
 have hin : ∀ x ∈ idt 0 g.events.length, InR d x := fun x hx => by have := idt_mem hx; have := hb.len; unfold InR; omega
 have hpos : ∀ x ∈ idt 0 g.events.length, 1 ≤ dd d x := fun x hx => by have := hd _ (dd_mem (hin x hx)); omega
 have hB : g.events.length * g.events.length ≤ 3600 := Nat.mul_le_mul hl hl
 have inner : ∀ (k : Int) (s : List Int), s.length ≤ 1000 → iter (fun z : List Int × Int => Z13 g d k z.1 z.2) big (s, 0) = some (s ++ (layP d g.events.length k).map (idPl g.events)) := by
  intro k s hs
  have h2 := loop_fold (l := idt 0 g.events.length) (step := fun z : List Int × Int => Z13 g d k z.1 z.2) (fun s j => (s, j)) (fun s => s) (fun s x => if dd d x = k then s ++ [idPl g.events x] else s) (fun i s' => s'.length ≤ s.length + i) (by rw [idt_len]; omega) (fun i s' hi hs' => by
   have hi' : i < g.events.length := by rwa [idt_len] at hi
   have hid : i < d.length := by rw [hb.len]; exact hi'
   rw [idt_get, Nat.zero_add]
   have e5 : dd d (i : Int) = d[i] := by unfold dd; simp [hid]
   rw [e5]
   refine ⟨?_, by split <;> first | omega | (rw [List.length_append, List.length_singleton]; omega)⟩
   simp only [Z13]
   rw [dlt hi', cond_true, get_of_lt hid, Option.bind_some, beqd]
   simp only [Z6h, wrap1 hi' (by omega : g.events.length < 9223372036854775807)]
   by_cases hk : d[i] = k
   ·
    rw [decide_eq_true hk, cond_true, if_pos hk, get_of_lt hi', Option.bind_some, chk_t (decide_eq_true (by simp; omega)), Option.bind_some]
    unfold idPl; simp [hi']
   ·
    rw [decide_eq_false hk, cond_false, if_neg hk])
   (fun s hs => by rw [idt_len]; simp only [Z13]; rw [dnlt, cond_false]) (s := s) (by omega)
  rw [h2.1]
  congr 1
  unfold layP
  generalize idt 0 g.events.length = r
  clear h2
  induction r generalizing s with
  | nil => simp
  | cons x r ih =>
   rw [List.foldl_cons]
   by_cases hk : dd d x = k
   ·
    rw [if_pos hk, List.filter_cons_of_pos (by simp [hk])]
    have : ∀ s : List Int, r.foldl (fun s x => if dd d x = k then s ++ [idPl g.events x] else s) s = s ++ (r.filter fun x => decide (dd d x = k)).map (idPl g.events) := by
     clear ih hs
     induction r with
     | nil => intro s; simp
     | cons y r ih2 =>
      intro s
      rw [List.foldl_cons]
      by_cases hy : dd d y = k
      ·
       rw [if_pos hy, List.filter_cons_of_pos (by simp [hy]), ih2]; simp
      ·
       rw [if_neg hy, List.filter_cons_of_neg (by simp [hy]), ih2]
    rw [this]; simp
   ·
    rw [if_neg hk, List.filter_cons_of_neg (by simp [hk])]
    exact ih s hs
 have hlay : ∀ k, (layers d g.events.length k).length ≤ g.events.length := fun k => by
  have h1 := (layers_perm hpos k).length_eq
  have h2 := List.length_filter_le (fun x => decide (dd d x ≤ (k : Int))) (idt 0 g.events.length)
  rw [idt_len] at h2; omega
 obtain ⟨o, h1, rfl⟩ := iter_total (step := fun z : List Int × Int => Z4f g d z.1 z.2) (p := fun o => o = (ordPl g.events).map (idPl g.events))
  (fun m (z : List Int × Int) => ∃ k : Nat, z = ((layers d g.events.length k).map (idPl g.events), ((k + 1 : Nat) : Int)) ∧ k ≤ 3600 ∧ m = 3600 - k) (by
  rintro m z ⟨k, rfl, hk, rfl⟩
  simp only [Z4f, List.length_map]
  by_cases hlt : (layers d g.events.length k).length < g.events.length
  ·
   right
   have hk2 : k < 3600 := by
    rcases Nat.lt_or_ge k 3600 with h | h
    ·
     exact h
    ·
     exfalso
     have h2 := (layers_perm hpos k).length_eq
     rw [List.filter_eq_self.2 (fun x hx => decide_eq_true (by have := (hb.in_ _ (dd_mem (hin x hx))).2; omega)), idt_len] at h2
     omega
   have := hlay k
   rw [dlt hlt, cond_true, inner _ _ (by simp; omega), Option.bind_some]
   simp only [Z8y]
   refine ⟨_, 3600 - (k + 1), rfl, by omega, k + 1, ?_, by omega, rfl⟩
   rw [wrap_id (by omega) (by omega)]
   simp only [layers, List.map_append, Prod.mk.injEq, true_and]
   omega
  ·
   left
   rw [decide_eq_false (by omega), cond_false]
   refine ⟨_, rfl, ?_⟩
   rw [ord_unique (layers_ord hpos (by omega)) hord]) big 3600 (([] : List Int), (1 : Int)) ⟨0, rfl, by omega, rfl⟩ (big_gt (by omega))
 rw [h1]; rfl


structure GOk (g : TGraph') : Prop where
 room : 1 ≤ g.room ∧ g.room ≤ 3
 fits : Fits g.events
 ev : ∀ e ∈ g.events, EvOk e ∧ e.room = g.room
 plen : g.parked.length ≤ 20
 pup : Up2 g.parked
 pev : ∀ e ∈ g.parked, EvOk e ∧ e.room = g.room
 apart : ∀ e ∈ g.events, hasE g.parked e.id = false
 lack : ∀ e ∈ g.parked, (e.prev.all fun p => hasE g.events p) = false
 deep : Deep g.events

structure Fine (g : TGraph') : Prop where
 elen : g.events.length ≤ 1048576
 plen : g.parked.length ≤ 1048576
 ep : ∀ e ∈ g.events, e.prev.length ≤ 1048576
 pp : ∀ e ∈ g.parked, e.prev.length ≤ 1048576

theorem row_iff {l : List TEvent} {room : Int} : Row l room ↔ (∀ e ∈ l, EvOk e ∧ e.room = room) ∧ Up2 l := by
 unfold Row
 constructor
 ·
  rintro ⟨h1, h2⟩
  exact ⟨fun e he => ⟨(c_EventRight e).2.1 (h1 e he).1, (h1 e he).2⟩, h2⟩
 ·
  rintro ⟨h1, h2⟩
  exact ⟨fun e he => ⟨(c_EventRight e).2.2 (h1 e he).1, (h1 e he).2⟩, h2⟩

def wholeB (l : List TEvent) (e : TEvent) : Bool := e.prev.all fun p => hasE l p

theorem zeros_deep (l : List TEvent) {c : Nat} (hb : Bd l c (depthsOf l)) : zeros (depthsOf l) = 0 ↔ Deep l := by
 unfold zeros Deep
 rw [List.countP_eq_zero]
 constructor
 ·
  intro h x hx
  have h1 := h x hx
  have h2 := (hb.in_ x hx).1
  simp at h1
  omega
 ·
  intro h x hx
  have := h x hx
  simp; omega

def restOk (g : TGraph') : Bool := (g.events.all fun e => wholeB g.events e && !hasE g.parked e.id) && ((g.parked.all fun e => !wholeB g.events e) && decide (zeros (depthsOf g.events) = 0))

theorem Zes {g : TGraph'} (hg : Fine g) (he : Row g.events g.room) (hp : Row g.parked g.room) (h60 : g.events.length ≤ 60) : Zt g false = some (restOk g) := by
 have hel := hg.elen
 have hpl := hg.plen
 simp only [Zt, cond_false]
 rw [loop_allL (l := g.events) (fun e => wholeB g.events e && !hasE g.parked e.id) (.inl false) (.inr ()) (by omega) (fun i hi => by
  simp only [Z46]
  have := hg.ep _ (List.getElem_mem hi)
  rw [dlt hi, cond_true, get_of_lt hi, Option.bind_some, c_l03All _ _ (by omega) (by omega), Option.bind_some, c_l03At _ _ (by omega), Option.bind_some, plc_nn]
  simp only [Z67, wrap1 hi (by omega : g.events.length < 9223372036854775807)]
  show cond (wholeB g.events g.events[i]) _ _ = _
  cases wholeB g.events g.events[i] with
  | false => rfl
  | true => cases hasE g.parked g.events[i].id <;> rfl) (by simp only [Z46]; rw [dnlt, cond_false])]
 unfold restOk
 cases h1 : g.events.all fun e => wholeB g.events e && !hasE g.parked e.id with
 | false => rfl
 | true =>
  simp only [cond_true, Option.bind_some, Bool.true_and, Z8p]
  rw [loop_allL (l := g.parked) (fun e => !wholeB g.events e) (.inl false) (.inr ()) (by omega) (fun i hi => by
   simp only [Z45]
   have := hg.pp _ (List.getElem_mem hi)
   rw [dlt hi, cond_true, get_of_lt hi, Option.bind_some, c_l03All _ _ (by omega) (by omega), Option.bind_some, wrap1 hi (by omega)]
   show cond (wholeB g.events g.parked[i]) _ _ = _
   cases wholeB g.events g.parked[i] <;> simp) (by simp only [Z45]; rw [dnlt, cond_false])]
  cases h2 : g.parked.all fun e => !wholeB g.events e with
  | false => rfl
  | true =>
   simp only [cond_true, Option.bind_some, Bool.true_and, Z8o]
   have hf : Fits g.events := ⟨he.2, fun e hm p hpm => by
    have := List.all_eq_true.1 h1 e hm
    simp only [Bool.and_eq_true] at this
    exact List.all_eq_true.1 this.1 p hpm, h60, fun e hm => by have := hg.ep e hm; omega⟩
   obtain ⟨e0, hb⟩ := c_l03Depths hf
   rw [e0, Option.bind_some]
   have hdl := hb.len
   rw [loop_allL (l := depthsOf g.events) (fun x => !decide (x = 0)) (.inl false) (.inr ()) (by omega) (fun i hi => by
    simp only [Z44]
    rw [dlt hi, cond_true, get_of_lt hi, Option.bind_some, beqd, wrap1 hi (by omega)]
    cases decide ((depthsOf g.events)[i] = 0) <;> rfl) (by simp only [Z44]; rw [dnlt, cond_false])]
   have : ((depthsOf g.events).all fun x => !decide (x = 0)) = decide (zeros (depthsOf g.events) = 0) := by
    rw [Bool.eq_iff_iff]
    unfold zeros
    rw [decide_eq_true_eq, List.countP_eq_zero, List.all_eq_true]
    simp
   rw [this]
   cases decide (zeros (depthsOf g.events) = 0) <;> rfl
end Go.Proofs.YtnndihmamfomcaaGreat
