/- FnExactActsOn: for every graph and every user the law returns true; no condition. -/
import Derived.Test.YtnndihmamfomcaaGreatCGT
import Derived.Test.YtnndihmamfomcaaGreatRows
set_option autoImplicit false
namespace Go.Proofs.YtnndihmamfomcaaGreat
open Go Go.Abs

structure InEvent (x : TEvent) : Prop where
 id : IntKind.i64.min ≤ x.id ∧ x.id ≤ IntKind.i64.max
 room : IntKind.i64.min ≤ x.room ∧ x.room ≤ IntKind.i64.max
 author : IntKind.i64.min ≤ x.author ∧ x.author ≤ IntKind.i64.max
 kind : IntKind.i64.min ≤ x.kind ∧ x.kind ≤ IntKind.i64.max
 key : IntKind.i64.min ≤ x.key ∧ x.key ≤ IntKind.i64.max
 n : IntKind.i64.min ≤ x.n ∧ x.n ≤ IntKind.i64.max
 text : x.text.size ≤ maxLen
 prev : x.prev.length ≤ maxLen ∧ ∀ y ∈ x.prev, (IntKind.i64.min ≤ y ∧ y ≤ IntKind.i64.max)
 time : IntKind.i64.min ≤ x.time ∧ x.time ≤ IntKind.i64.max
structure InGraph (x : TGraph) : Prop where
 room : IntKind.i64.min ≤ x.room ∧ x.room ≤ IntKind.i64.max
 events : x.events.length ≤ maxLen ∧ ∀ y ∈ x.events, InEvent y
 parked : x.parked.length ≤ maxLen ∧ ∀ y ∈ x.parked, InEvent y


theorem in_event {e : TEvent} (h : InEvent e) : EvIn e := ⟨h.text, h.prev.1⟩
theorem in_graph {g : TGraph} (h : InGraph g) : GIn g := ⟨h.events.1, h.parked.1, fun e he => in_event (h.events.2 e he), fun e he => in_event (h.parked.2 e he)⟩

/-! ### ActsOn -/

def actsB (u : Int) (e : TEvent) : Bool := !decide (e.author = u) && ((decide (e.kind = 2) || decide (e.kind = 3)) && decide (e.key = u))

theorem actsOn_same {g : TGraph'} (hg : Fine g) (u : Int) : ∃ r, Z6a g u = some r ∧ Z2u g u = some r ∧ r.length ≤ 60 := by
 obtain ⟨b, b1, b2, b3⟩ := right_both hg
 unfold Z6a Z2u
 rw [b1, b2, Option.bind_some, Option.bind_some, c_l02User, c_isUser, Option.bind_some, Option.bind_some]
 have hno : ∀ x : Bool, x = true → Z45 g u x = some [] := fun x hx => by subst hx; rfl
 have hno2 : ∀ x : Bool, x = true → Z2v g u x = some [] := fun x hx => by subst hx; rfl
 cases b with
 | false => exact ⟨[], hno _ rfl, hno2 _ rfl, by simp⟩
 | true =>
  simp only [cond_true]
  by_cases hu : 1 ≤ u ∧ u ≤ 6
  ·
   rw [decide_eq_true hu]
   have hr := (b3.1 rfl).right
   obtain ⟨h, w, h1, h2, hb⟩ := history_both hr
   have hgr := hb.graph
   have hr' : Right h.graph := hgr ▸ hr
   have hfl := hr.fits.len
   have hol := ordIds_len hr.fits
   have hil := inOrd_len hr'
   simp only [Bool.not_true, Z45, Z2v, cond_false]
   rw [h1, h2, Option.bind_some, Option.bind_some, c_l03Sort hr.fits hr.deep, Option.bind_some, c_inOrder hr', Option.bind_some]
   have i1 := loop_fold (l := inOrd h) (step := fun z : List Int × Int => Z1a u (inOrd h) z.1 z.2) (fun q j => (q, j)) (fun q => q) (fun q e => if actsB u e = true then q ++ [e.id] else q) (fun i q => q.length ≤ i) (by omega) (fun i q hi hq => by
    refine ⟨?_, by split <;> first | omega | (rw [List.length_append, List.length_singleton]; omega)⟩
    simp only [Z1a, Z19, Z4u]
    rw [dlt hi, cond_true, get_of_lt hi, Option.bind_some, wrap1 hi (by omega), chk8 (by simp; omega), bned, beqd, beqd, beqd]
    unfold actsB
    by_cases c1 : (inOrd h)[i].author = u <;> by_cases c2 : (inOrd h)[i].kind = 2 <;> by_cases c3 : (inOrd h)[i].kind = 3 <;> by_cases c4 : (inOrd h)[i].key = u <;> simp [c1, c2, c3, c4])
    (fun q _ => by simp only [Z1a]; rw [dnlt, cond_false]) (s := []) (by simp)
   have s1 := loop_fold (l := ordIds g.events) (step := fun z : List Int × Int => Z28 g u w (ordIds g.events) z.1 z.2) (fun q j => (q, j)) (fun q => q) (fun q id => if refB h id = true then (if actsB u (evD g.events id) = true then q ++ [(evD g.events id).id] else q) else q) (fun i q => q.length ≤ i) (by omega) (fun i q hi hq => by
    refine ⟨by
     simp only [Z28, Zs, Z6b]
     obtain ⟨o1, o2, o3⟩ := ordD hr.fits hi
     obtain ⟨c, k1, k2⟩ := hb.code o2
     rw [o3] at k1 k2
     rw [dlt hi, cond_true, get_of_lt hi, Option.bind_some, c_l03At _ _ (by omega), Option.bind_some, (get_plc o1).1, Option.bind_some, k1, Option.bind_some, wrap1 hi (by omega), chk8 (by simp; omega), bned, beqd, beqd, beqd, beqd]
     unfold actsB refB
     rw [k2]
     generalize evD g.events (ordIds g.events)[i] = e
     by_cases c0 : c = 0
     ·
      by_cases c1 : e.author = u <;> by_cases c2 : e.kind = 2 <;> by_cases c3 : e.kind = 3 <;> by_cases c4 : e.key = u <;> simp [c0, c1, c2, c3, c4]
     ·
      simp [c0], by split <;> first | omega | (split <;> first | omega | (rw [List.length_append, List.length_singleton]; omega))⟩)
    (fun q _ => by simp only [Z28]; rw [dnlt, cond_false]) (s := []) (by simp)
   rw [fold_if_filter (refB h) (evD g.events) (fun q e => if actsB u e = true then q ++ [e.id] else q)] at s1
   have e1 : ((ordIds g.events).filter (refB h)).map (evD g.events) = inOrd h := by unfold inOrd; rw [hgr]
   rw [e1] at s1
   rw [i1.1, s1.1, Option.bind_some]
   refine ⟨_, rfl, rfl, ?_⟩
   have := i1.2
   omega
  ·
   rw [decide_eq_false hu]
   exact ⟨[], hno _ rfl, hno2 _ rfl, by simp⟩

theorem actsOn_true (g : TGraph) (u : Int) (hg : InGraph g) (_ : IntKind.i64.min ≤ u ∧ u ≤ IntKind.i64.max) : Z9m g u = some true := by
 unfold Z9m
 obtain ⟨z, z1, z2⟩ := c_szGraph g 1048576 (in_graph hg) (by omega) (by omega)
 rw [z1, Option.bind_some]
 rcases z2 with ⟨z2, _, he, hp⟩ | rfl
 ·
  rw [decide_eq_false (by omega), cond_false]
  obtain ⟨r, s1, i1, rl⟩ := actsOn_same (toG_fine he hp) u
  obtain ⟨m, m1, m2⟩ := c_markGraph (toG g) 1 he hp (by omega) (by omega)
  have q1 := c_markInt64S r 1 (by omega) (by omega) (by omega)
  have q2 := c_heldInt64S r.length 1 (by omega) (by omega) (by omega)
  have e1 := c_eqInt64S r (by omega)
  have e2 : decide (m.1 < 0) = false := decide_eq_false (by omega)
  have e3 : decide ((1 : Int) + r.length < 0) = false := decide_eq_false (by omega)
  have e4 : ((1 : Int) + (r.length : Int) != 1 + (r.length : Int)) = false := by rw [bned, decide_eq_true rfl]; rfl
  simp only [c_toGraph g he hp, s1, i1, e1, c_eqGraph (toG g) he hp, m1, e2, Z5o, q1, q2, e3, e4, Option.bind_some, cond_true, cond_false, Bool.not_true]
 ·
  rfl
theorem opens_112 : Opens Tryz.prog 112 kEvent InEvent :=
 Opens.map (fun g => TEvent.mk g.1 g.2.1 g.2.2.1 g.2.2.2.1 g.2.2.2.2.1 g.2.2.2.2.2.1 g.2.2.2.2.2.2.1 g.2.2.2.2.2.2.2.1 g.2.2.2.2.2.2.2.2.1) (Opens.struct (t := 112) (fs := #[_, _, _, _, _, _, _, _, _]) (by kernel_rfl) (OpensFs.cons (f := Field.mk "Id" 2 0 false "" "" 0) (off := 0) (sz := 1) rfl (by kernel_rfl) (Opens.int (t := 2) (kd := .i64) (by kernel_rfl))
  (OpensFs.cons (f := Field.mk "Room" 2 1 false "" "" 8) (off := 1) (sz := 1) rfl (by kernel_rfl) (Opens.int (t := 2) (kd := .i64) (by kernel_rfl))
  (OpensFs.cons (f := Field.mk "Author" 2 2 false "" "" 16) (off := 2) (sz := 1) rfl (by kernel_rfl) (Opens.int (t := 2) (kd := .i64) (by kernel_rfl))
  (OpensFs.cons (f := Field.mk "Kind" 2 3 false "" "" 24) (off := 3) (sz := 1) rfl (by kernel_rfl) (Opens.int (t := 2) (kd := .i64) (by kernel_rfl))
  (OpensFs.cons (f := Field.mk "Key" 2 4 false "" "" 32) (off := 4) (sz := 1) rfl (by kernel_rfl) (Opens.int (t := 2) (kd := .i64) (by kernel_rfl))
  (OpensFs.cons (f := Field.mk "N" 2 5 false "" "" 40) (off := 5) (sz := 1) rfl (by kernel_rfl) (Opens.int (t := 2) (kd := .i64) (by kernel_rfl))
  (OpensFs.cons (f := Field.mk "Text" 9 6 false "" "" 48) (off := 6) (sz := 1) rfl (by kernel_rfl) (Opens.string (t := 9) (by kernel_rfl))
  (OpensFs.cons (f := Field.mk "Prev" 26 7 false "" "" 64) (off := 7) (sz := 1) rfl (by kernel_rfl) (Opens.slice (t := 26) (sz := 1) (k := kI64) (by kernel_rfl) (Opens.int (t := 2) (kd := .i64) (by kernel_rfl)) (by kernel_rfl) (by decide))
  (OpensFs.cons (f := Field.mk "Time" 2 8 false "" "" 88) (off := 8) (sz := 1) rfl (by kernel_rfl) (Opens.int (t := 2) (kd := .i64) (by kernel_rfl)) OpensFs.nil))))))))) (by kernel_rfl)) (fun _ => rfl) (fun g h => ⟨h.1, h.2.1, h.2.2.1, h.2.2.2.1, h.2.2.2.2.1, h.2.2.2.2.2.1, h.2.2.2.2.2.2.1, h.2.2.2.2.2.2.2.1, h.2.2.2.2.2.2.2.2.1⟩)
def kGraph (x : TGraph) : List C := [C.int x.room, C.im kEvent 9 x.events, C.im kEvent 9 x.parked]
theorem opens_24 : Opens Tryz.prog 24 kGraph InGraph :=
 Opens.map (fun g => TGraph.mk g.1 g.2.1 g.2.2.1) (Opens.struct (t := 24) (fs := #[_, _, _]) (by kernel_rfl) (OpensFs.cons (f := Field.mk "Room" 2 0 false "" "" 0) (off := 0) (sz := 1) rfl (by kernel_rfl) (Opens.int (t := 2) (kd := .i64) (by kernel_rfl))
  (OpensFs.cons (f := Field.mk "Events" 22 1 false "" "" 8) (off := 1) (sz := 1) rfl (by kernel_rfl) (Opens.slice (t := 22) (sz := 9) (k := kEvent) (by kernel_rfl) opens_112 (by kernel_rfl) (by decide))
  (OpensFs.cons (f := Field.mk "Parked" 22 2 false "" "" 32) (off := 2) (sz := 1) rfl (by kernel_rfl) (Opens.slice (t := 22) (sz := 9) (k := kEvent) (by kernel_rfl) opens_112 (by kernel_rfl) (by decide)) OpensFs.nil))) (by kernel_rfl)) (fun _ => rfl) (fun g h => ⟨h.1, h.2.1, h.2.2.1⟩)

set_option maxRecDepth 100000 in
theorem fnExactActsOn_lifted (os : Os) (started : os.Started) (H : Type) (enc : TypeId × Value → H) :
  ReturnsInHanded {} Tryz.checked os 3 .any (Rows.fnExactActsOnSpec.pre6 enc Tryz.prog Tryz.f3 Rows.fnExactActsOnRow.domain false) (Rows.fnExactActsOnSpec.post enc Tryz.prog Tryz.f3 false true false false) :=
 law_lifted (C := Tryz.checked) (ts := [24, 2]) (tb := 4) (by kernel_rfl) started (by kernel_rfl) Tryz.func3
  (ChangeSpec.witness6 (enc := enc) (C := Tryz.checked) false ⟨#[], #[.agg #[.int .i64 0, .slice none 0 0, .slice none 0 0], .int .i64 0], []⟩ 8 (by kernel_rfl) (by kernel_rfl) (by kernel_rfl) (by kernel_rfl))
  (by kernel_rfl) rfl (by kernel_rfl) rfl (by kernel_rfl) rfl (fun ds h => match ds, h with | [_, _], _ => rfl)
  (OpensAll.consA (t := 24) (fs := #[Field.mk "Room" 2 0 false "" "" 0, Field.mk "Events" 22 1 false "" "" 8, Field.mk "Parked" 22 2 false "" "" 32]) (by kernel_rfl) opens_24 (OpensAll.cons (t := 2) (d := .int .i64) (by kernel_rfl) rfl (Opens.int (t := 2) (kd := .i64) (by kernel_rfl)) OpensAll.nil))
  (fun g hg => Zcx g.1 g.2.1 true (actsOn_true g.1 g.2.1 hg.1 hg.2.1))

theorem fnExactActsOn_holds : Rows.FnExactActsOnSaid :=
 OpenClaim.holds_of_wide 3 Tryz.f3 rfl rfl rfl rfl rfl rfl rfl ⟨rfl, rfl, rfl, rfl, rfl⟩ rfl rfl rfl rfl rfl (by kernel_rfl) Tryz.func3 (by kernel_rfl)
  (of_decide_eq_true (by kernel_rfl)) (by unfold Func.isWrapper; first | (rw [if_pos (by decide +kernel)]; kernel_rfl) | (rw [if_neg (by decide +kernel)]; exact ⟨rfl, rfl⟩))
  (fun os started H enc _ => fnExactActsOn_lifted os started H enc)

end Go.Proofs.YtnndihmamfomcaaGreat
