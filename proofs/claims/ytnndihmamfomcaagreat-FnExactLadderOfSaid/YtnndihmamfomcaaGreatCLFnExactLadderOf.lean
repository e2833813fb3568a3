/- FnExactLadderOf: for every graph and every user the law returns true; no condition. -/
import Derived.Test.YtnndihmamfomcaaGreatCGT
import Derived.Test.YtnndihmamfomcaaGreatRows
set_option autoImplicit false
set_option linter.unusedVariables false
set_option linter.unusedSimpArgs false
namespace Go.Proofs.YtnndihmamfomcaaGreat
open Go Go.Abs

structure InEvent (x : TEvent) : Prop where
 id : IntKind.i64.min ≤ x.id ∧ x.id ≤ IntKind.i64.max
 room : IntKind.i64.min ≤ x.room ∧ x.room ≤ IntKind.i64.max
 author : IntKind.i64.min ≤ x.author ∧ x.author ≤ IntKind.i64.max
 kind : IntKind.i64.min ≤ x.kind ∧ x.kind ≤ IntKind.i64.max
 key : IntKind.i64.min ≤ x.key ∧ x.key ≤ IntKind.i64.max
 n : IntKind.i64.min ≤ x.n ∧ x.n ≤ IntKind.i64.max
 text : x.text.size ≤ maxLen
 prev : x.prev.length ≤ maxLen ∧ ∀ y ∈ x.prev, (IntKind.i64.min ≤ y ∧ y ≤ IntKind.i64.max)
 time : IntKind.i64.min ≤ x.time ∧ x.time ≤ IntKind.i64.max
structure InGraph (x : TGraph) : Prop where
 room : IntKind.i64.min ≤ x.room ∧ x.room ≤ IntKind.i64.max
 events : x.events.length ≤ maxLen ∧ ∀ y ∈ x.events, InEvent y
 parked : x.parked.length ≤ maxLen ∧ ∀ y ∈ x.parked, InEvent y


theorem in_event {e : TEvent} (h : InEvent e) : EvIn e := ⟨h.text, h.prev.1⟩
theorem in_graph {g : TGraph} (h : InGraph g) : GIn g := ⟨h.events.1, h.parked.1, fun e he => in_event (h.events.2 e he), fun e he => in_event (h.parked.2 e he)⟩

/-! ### LadderOf -/

theorem ladderOf_same {g : TGraph'} (hg : Fine g) (u : Int) : ∃ r, Z68 g u = some r ∧ Z39 g u = some r ∧ r.length ≤ 60 := by
 obtain ⟨b, b1, b2, b3⟩ := right_both hg
 unfold Z68 Z39
 rw [b1, b2, Option.bind_some, Option.bind_some, c_l02User, c_isUser, Option.bind_some, Option.bind_some]
 have hno : ∀ x : Bool, x = true → Z47 g u x = some [] := fun x hx => by subst hx; rfl
 have hno2 : ∀ x : Bool, x = true → Z3a g u x = some [] := fun x hx => by subst hx; rfl
 cases b with
 | false => exact ⟨[], hno _ rfl, hno2 _ rfl, by simp⟩
 | true =>
  simp only [cond_true]
  by_cases hu : 1 ≤ u ∧ u ≤ 6
  ·
   rw [decide_eq_true hu]
   have hr := (b3.1 rfl).right
   obtain ⟨h, w, h1, h2, hb⟩ := history_both hr
   have hgr := hb.graph
   have hr' : Right h.graph := hgr ▸ hr
   have hfl := hr.fits.len
   have hol := ordIds_len hr.fits
   have hil := inOrd_len hr'
   simp only [Bool.not_true, Z47, Z3a, cond_false]
   rw [h1, h2, Option.bind_some, Option.bind_some, c_l03Sort hr.fits hr.deep, Option.bind_some, c_inOrder hr', Option.bind_some]
   have i1 := loop_fold (l := inOrd h) (step := fun z : Int × List Int × Int => Z1i u h (inOrd h) z.1 z.2.1 z.2.2) (fun (q : List Int × Int) j => (q.2, q.1, j)) (fun q => q.1) (fun q e => if lvl g.events (behI h.after e.id) u = q.2 then q else (q.1 ++ [lvl g.events (behI h.after e.id) u], lvl g.events (behI h.after e.id) u)) (fun i q => q.1.length ≤ i) (by omega) (fun i q hi hq => by
    refine ⟨by
     simp only [Z1i, Z5a]
     have hm := (inOrd_mem hr' (List.getElem_mem hi)).1
     rw [hgr] at hm
     have hbe := (hb.behind hr hm).2
     have hlv := c_level (hr.sts hbe) (user := u) (by omega)
     rw [hgr, dlt hi, cond_true, get_of_lt hi, Option.bind_some]
     show (Zl g (behI h.after (inOrd h)[i].id) u).bind _ = _
     rw [hlv, Option.bind_some, wrap1 hi (by omega), chk8 (by simp; omega), bned]
     by_cases c1 : lvl g.events (behI h.after (inOrd h)[i].id) u = q.2 <;> simp [c1], by split <;> first | omega | (simp only [List.length_append, List.length_singleton]; omega)⟩)
    (fun q _ => by simp only [Z1i]; rw [dnlt, cond_false]) (s := ([], 0)) (by simp)
   have s1 := loop_fold (l := ordIds g.events) (step := fun z : List Int × Int × Int => Z27 g u w (ordIds g.events) z.1 z.2.1 z.2.2) (fun (q : List Int × Int) j => (q.1, q.2, j)) (fun q => q.1) (fun q id => if refB h id = true then (if lvl g.events (behI h.after (evD g.events id).id) u = q.2 then q else (q.1 ++ [lvl g.events (behI h.after (evD g.events id).id) u], lvl g.events (behI h.after (evD g.events id).id) u)) else q) (fun i q => q.1.length ≤ i) (by omega) (fun i q hi hq => by
    refine ⟨by
     simp only [Z27, Z46]
     obtain ⟨o1, o2, o3⟩ := ordD hr.fits hi
     obtain ⟨c, k1, k2⟩ := hb.code o2
     obtain ⟨g1, g2⟩ := hb.behind hr o2
     have hlv := c_l05Level (hr.sts g2) u
     rw [o3] at k1 k2 g1 hlv
     rw [dlt hi, cond_true, get_of_lt hi, Option.bind_some, c_l03At _ _ (by omega), Option.bind_some, k1, Option.bind_some, g1, Option.bind_some, hlv, Option.bind_some, wrap1 hi (by omega), chk8 (by simp; omega), bned, bned, o3]
     unfold refB
     rw [k2]
     by_cases c0 : c = 0
     ·
      by_cases c1 : lvl g.events (behI h.after (ordIds g.events)[i]) u = q.2 <;> simp [c0, c1]
     ·
      simp [c0], by split <;> first | omega | (split <;> first | omega | (simp only [List.length_append, List.length_singleton]; omega))⟩)
    (fun q _ => by simp only [Z27]; rw [dnlt, cond_false]) (s := ([], 0)) (by simp)
   rw [fold_if_filter (refB h) (evD g.events) (fun (q : List Int × Int) e => if lvl g.events (behI h.after e.id) u = q.2 then q else (q.1 ++ [lvl g.events (behI h.after e.id) u], lvl g.events (behI h.after e.id) u))] at s1
   have e1 : ((ordIds g.events).filter (refB h)).map (evD g.events) = inOrd h := by unfold inOrd; rw [hgr]
   rw [e1] at s1
   have i1' := i1.1
   have s1' := s1.1
   simp only at i1' s1'
   rw [i1', s1', Option.bind_some]
   refine ⟨_, rfl, rfl, ?_⟩
   have := i1.2
   omega
  ·
   rw [decide_eq_false hu]
   exact ⟨[], hno _ rfl, hno2 _ rfl, by simp⟩

theorem ladderOf_true (g : TGraph) (u : Int) (hg : InGraph g) (_ : IntKind.i64.min ≤ u ∧ u ≤ IntKind.i64.max) : Z9h g u = some true := by
 unfold Z9h
 obtain ⟨z, z1, z2⟩ := c_szGraph g 1048576 (in_graph hg) (by omega) (by omega)
 rw [z1, Option.bind_some]
 rcases z2 with ⟨z2, _, he, hp⟩ | rfl
 ·
  rw [decide_eq_false (by omega), cond_false]
  obtain ⟨r, s1, i1, rl⟩ := ladderOf_same (toG_fine he hp) u
  obtain ⟨m, m1, m2⟩ := c_markGraph (toG g) 1 he hp (by omega) (by omega)
  have q1 := c_markInt64S r 1 (by omega) (by omega) (by omega)
  have q2 := c_heldInt64S r.length 1 (by omega) (by omega) (by omega)
  have e1 := c_eqInt64S r (by omega)
  have e2 : decide (m.1 < 0) = false := decide_eq_false (by omega)
  have e3 : decide ((1 : Int) + r.length < 0) = false := decide_eq_false (by omega)
  have e4 : ((1 : Int) + (r.length : Int) != 1 + (r.length : Int)) = false := by rw [bned, decide_eq_true rfl]; rfl
  simp only [c_toGraph g he hp, s1, i1, e1, c_eqGraph (toG g) he hp, m1, e2, Z5m, q1, q2, e3, e4, Option.bind_some, cond_true, cond_false, Bool.not_true]
 ·
  rfl
theorem opens_112 : Opens Tryz.prog 112 kEvent InEvent :=
 Opens.map (fun g => TEvent.mk g.1 g.2.1 g.2.2.1 g.2.2.2.1 g.2.2.2.2.1 g.2.2.2.2.2.1 g.2.2.2.2.2.2.1 g.2.2.2.2.2.2.2.1 g.2.2.2.2.2.2.2.2.1) (Opens.struct (t := 112) (fs := #[_, _, _, _, _, _, _, _, _]) (by kernel_rfl) (OpensFs.cons (f := Field.mk "Id" 2 0 false "" "" 0) (off := 0) (sz := 1) rfl (by kernel_rfl) (Opens.int (t := 2) (kd := .i64) (by kernel_rfl))
  (OpensFs.cons (f := Field.mk "Room" 2 1 false "" "" 8) (off := 1) (sz := 1) rfl (by kernel_rfl) (Opens.int (t := 2) (kd := .i64) (by kernel_rfl))
  (OpensFs.cons (f := Field.mk "Author" 2 2 false "" "" 16) (off := 2) (sz := 1) rfl (by kernel_rfl) (Opens.int (t := 2) (kd := .i64) (by kernel_rfl))
  (OpensFs.cons (f := Field.mk "Kind" 2 3 false "" "" 24) (off := 3) (sz := 1) rfl (by kernel_rfl) (Opens.int (t := 2) (kd := .i64) (by kernel_rfl))
  (OpensFs.cons (f := Field.mk "Key" 2 4 false "" "" 32) (off := 4) (sz := 1) rfl (by kernel_rfl) (Opens.int (t := 2) (kd := .i64) (by kernel_rfl))
  (OpensFs.cons (f := Field.mk "N" 2 5 false "" "" 40) (off := 5) (sz := 1) rfl (by kernel_rfl) (Opens.int (t := 2) (kd := .i64) (by kernel_rfl))
  (OpensFs.cons (f := Field.mk "Text" 9 6 false "" "" 48) (off := 6) (sz := 1) rfl (by kernel_rfl) (Opens.string (t := 9) (by kernel_rfl))
  (OpensFs.cons (f := Field.mk "Prev" 26 7 false "" "" 64) (off := 7) (sz := 1) rfl (by kernel_rfl) (Opens.slice (t := 26) (sz := 1) (k := kI64) (by kernel_rfl) (Opens.int (t := 2) (kd := .i64) (by kernel_rfl)) (by kernel_rfl) (by decide))
  (OpensFs.cons (f := Field.mk "Time" 2 8 false "" "" 88) (off := 8) (sz := 1) rfl (by kernel_rfl) (Opens.int (t := 2) (kd := .i64) (by kernel_rfl)) OpensFs.nil))))))))) (by kernel_rfl)) (fun _ => rfl) (fun g h => ⟨h.1, h.2.1, h.2.2.1, h.2.2.2.1, h.2.2.2.2.1, h.2.2.2.2.2.1, h.2.2.2.2.2.2.1, h.2.2.2.2.2.2.2.1, h.2.2.2.2.2.2.2.2.1⟩)
def kGraph (x : TGraph) : List C := [C.int x.room, C.im kEvent 9 x.events, C.im kEvent 9 x.parked]
theorem opens_24 : Opens Tryz.prog 24 kGraph InGraph :=
 Opens.map (fun g => TGraph.mk g.1 g.2.1 g.2.2.1) (Opens.struct (t := 24) (fs := #[_, _, _]) (by kernel_rfl) (OpensFs.cons (f := Field.mk "Room" 2 0 false "" "" 0) (off := 0) (sz := 1) rfl (by kernel_rfl) (Opens.int (t := 2) (kd := .i64) (by kernel_rfl))
  (OpensFs.cons (f := Field.mk "Events" 22 1 false "" "" 8) (off := 1) (sz := 1) rfl (by kernel_rfl) (Opens.slice (t := 22) (sz := 9) (k := kEvent) (by kernel_rfl) opens_112 (by kernel_rfl) (by decide))
  (OpensFs.cons (f := Field.mk "Parked" 22 2 false "" "" 32) (off := 2) (sz := 1) rfl (by kernel_rfl) (Opens.slice (t := 22) (sz := 9) (k := kEvent) (by kernel_rfl) opens_112 (by kernel_rfl) (by decide)) OpensFs.nil))) (by kernel_rfl)) (fun _ => rfl) (fun g h => ⟨h.1, h.2.1, h.2.2.1⟩)

set_option maxRecDepth 100000 in
theorem fnExactLadderOf_lifted (os : Os) (started : os.Started) (H : Type) (enc : TypeId × Value → H) :
  ReturnsInHanded {} Tryz.checked os 4 .any (Rows.fnExactLadderOfSpec.pre6 enc Tryz.prog Tryz.f4 Rows.fnExactLadderOfRow.domain false) (Rows.fnExactLadderOfSpec.post enc Tryz.prog Tryz.f4 false true false false) :=
 law_lifted (C := Tryz.checked) (ts := [24, 2]) (tb := 4) (by kernel_rfl) started (by kernel_rfl) Tryz.func4
  (ChangeSpec.witness6 (enc := enc) (C := Tryz.checked) false ⟨#[], #[.agg #[.int .i64 0, .slice none 0 0, .slice none 0 0], .int .i64 0], []⟩ 8 (by kernel_rfl) (by kernel_rfl) (by kernel_rfl) (by kernel_rfl))
  (by kernel_rfl) rfl (by kernel_rfl) rfl (by kernel_rfl) rfl (fun ds h => match ds, h with | [_, _], _ => rfl)
  (OpensAll.consA (t := 24) (fs := #[Field.mk "Room" 2 0 false "" "" 0, Field.mk "Events" 22 1 false "" "" 8, Field.mk "Parked" 22 2 false "" "" 32]) (by kernel_rfl) opens_24 (OpensAll.cons (t := 2) (d := .int .i64) (by kernel_rfl) rfl (Opens.int (t := 2) (kd := .i64) (by kernel_rfl)) OpensAll.nil))
  (fun g hg => Zcm g.1 g.2.1 true (ladderOf_true g.1 g.2.1 hg.1 hg.2.1))

theorem fnExactLadderOf_holds : Rows.FnExactLadderOfSaid :=
 OpenClaim.holds_of_wide 4 Tryz.f4 rfl rfl rfl rfl rfl rfl rfl ⟨rfl, rfl, rfl, rfl, rfl⟩ rfl rfl rfl rfl rfl (by kernel_rfl) Tryz.func4 (by kernel_rfl)
  (of_decide_eq_true (by kernel_rfl)) (by unfold Func.isWrapper; first | (rw [if_pos (by decide +kernel)]; kernel_rfl) | (rw [if_neg (by decide +kernel)]; exact ⟨rfl, rfl⟩))
  (fun os started H enc _ => fnExactLadderOf_lifted os started H enc)

end Go.Proofs.YtnndihmamfomcaaGreat
