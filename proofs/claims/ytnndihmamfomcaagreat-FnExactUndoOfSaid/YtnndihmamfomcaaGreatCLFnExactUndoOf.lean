/- FnExactUndoOf: for every graph and every id the law returns true; no condition. -/
import Derived.Test.YtnndihmamfomcaaGreatCGT
import Derived.Test.YtnndihmamfomcaaGreatRows
set_option autoImplicit false
set_option linter.unusedVariables false
set_option linter.unusedSimpArgs false
namespace Go.Proofs.YtnndihmamfomcaaGreat
open Go Go.Abs

structure InEvent (x : TEvent) : Prop where
 id : IntKind.i64.min ≤ x.id ∧ x.id ≤ IntKind.i64.max
 room : IntKind.i64.min ≤ x.room ∧ x.room ≤ IntKind.i64.max
 author : IntKind.i64.min ≤ x.author ∧ x.author ≤ IntKind.i64.max
 kind : IntKind.i64.min ≤ x.kind ∧ x.kind ≤ IntKind.i64.max
 key : IntKind.i64.min ≤ x.key ∧ x.key ≤ IntKind.i64.max
 n : IntKind.i64.min ≤ x.n ∧ x.n ≤ IntKind.i64.max
 text : x.text.size ≤ maxLen
 prev : x.prev.length ≤ maxLen ∧ ∀ y ∈ x.prev, (IntKind.i64.min ≤ y ∧ y ≤ IntKind.i64.max)
 time : IntKind.i64.min ≤ x.time ∧ x.time ≤ IntKind.i64.max
structure InGraph (x : TGraph) : Prop where
 room : IntKind.i64.min ≤ x.room ∧ x.room ≤ IntKind.i64.max
 events : x.events.length ≤ maxLen ∧ ∀ y ∈ x.events, InEvent y
 parked : x.parked.length ≤ maxLen ∧ ∀ y ∈ x.parked, InEvent y


theorem in_event {e : TEvent} (h : InEvent e) : EvIn e := ⟨h.text, h.prev.1⟩
theorem in_graph {g : TGraph} (h : InGraph g) : GIn g := ⟨h.events.1, h.parked.1, fun e he => in_event (h.events.2 e he), fun e he => in_event (h.parked.2 e he)⟩

/-! ### UndoOf -/

theorem undoOf_same {g : TGraph'} (hg : Fine g) (id : Int) : ∃ r, Z8b g id = some r ∧ Z32 g id = some r ∧ r.event.prev = [] := by
 obtain ⟨b, b1, b2, b3⟩ := right_both hg
 unfold Z8b Z32
 rw [b1, b2, Option.bind_some, Option.bind_some]
 cases b with
 | false => exact ⟨_, rfl, rfl, rfl⟩
 | true =>
  have hr := (b3.1 rfl).right
  obtain ⟨h, w, h1, h2, hb⟩ := history_both hr
  have hgr := hb.graph
  have hfl := hr.fits.len
  simp only [cond_true]
  rw [h1, h2, Option.bind_some, c_l03At _ _ (by omega), Option.bind_some, hgr, c_at _ _ hr.fits.up (by omega), Option.bind_some, plc_neg]
  cases he : evAt g.events id with
  | none =>
   rw [ev_has, he]
   exact ⟨_, rfl, rfl, rfl⟩
  | some e =>
   have hh : hasE g.events id = true := by rw [ev_has, he]; rfl
   obtain ⟨hem, hid⟩ := evAt_some he
   obtain ⟨c, k1, k2⟩ := hb.code hem
   obtain ⟨a1, a2⟩ := hb.ahead hem
   have hsts := hr.sts a2
   rw [hid] at k1 k2 a1 a2 hsts
   rw [hh]
   simp only [Bool.not_true, cond_false, cond_true, Option.getD_some]
   rw [Option.bind_some, k1, Option.bind_some, k2, bned, (get_plc he).1, Option.bind_some]
   simp only [Z64, Z40, Z55, Z54, Z33]
   rw [a1, Option.bind_some, hgr]
   show ∃ r, cond (!decide (c = 0)) _ _ = _ ∧ _
   by_cases c0 : c = 0
   ·
    rw [decide_eq_true c0]
    simp only [Bool.not_true, cond_false, beqd, bned]
    by_cases k3 : e.kind = 3
    ·
     have hkey := (hr.ev e hem).ask.2 (.inr k3)
     have l1 := c_l05Level hsts e.key
     have l2 := c_level hsts hkey
     rw [decide_eq_true k3]
     simp only [cond_true]
     rw [l1]
     have : Zl g (Option.getD (mget h.before id) []) e.key = some (lvl g.events (behI h.before id) e.key) := l2
     rw [this]
     exact ⟨_, rfl, rfl, rfl⟩
    ·
     rw [decide_eq_false k3]
     simp only [cond_false]
     by_cases k4 : e.kind = 2
     ·
      by_cases k5 : e.key = e.author
      ·
       simp [k4, k5]
      ·
       by_cases k6 : e.n = 2
       ·
        simp [k4, k5, k6]
       ·
        simp [k4, k5, k6]
     ·
      simp [k4]
   ·
    rw [decide_eq_false c0]
    exact ⟨_, rfl, rfl, rfl⟩
theorem undoOf_true (g : TGraph) (u : Int) (hg : InGraph g) (_ : IntKind.i64.min ≤ u ∧ u ≤ IntKind.i64.max) : Z9d g u = some true := by
 unfold Z9d
 obtain ⟨z, z1, z2⟩ := c_szGraph g 1048576 (in_graph hg) (by omega) (by omega)
 rw [z1, Option.bind_some]
 rcases z2 with ⟨z2, _, he, hp⟩ | rfl
 ·
  rw [decide_eq_false (by omega), cond_false]
  obtain ⟨r, s1, i1, rl⟩ := undoOf_same (toG_fine he hp) u
  obtain ⟨m, m1, m2⟩ := c_markGraph (toG g) 1 he hp (by omega) (by omega)
  have q1 := c_markInt64S ([] : List Int) 1 (by simp) (by omega) (by omega)
  have q2 : Z5k [] 1 = some 1 := c_heldInt64S 0 1 (by omega) (by omega) (by omega)
  have e1 := c_eqEvent r.event (by rw [rl]; simp)
  have e2 : decide (m.1 < 0) = false := decide_eq_false (by omega)
  simp [c_toGraph g he hp, s1, i1, Z5i, e1, c_eqGraph (toG g) he hp, m1, e2, Z5g, Z9j, Z9i, Z7j, Z9g, rl, q1, q2, upFrom]
 ·
  rfl
theorem opens_112 : Opens Tryz.prog 112 kEvent InEvent :=
 Opens.map (fun g => TEvent.mk g.1 g.2.1 g.2.2.1 g.2.2.2.1 g.2.2.2.2.1 g.2.2.2.2.2.1 g.2.2.2.2.2.2.1 g.2.2.2.2.2.2.2.1 g.2.2.2.2.2.2.2.2.1) (Opens.struct (t := 112) (fs := #[_, _, _, _, _, _, _, _, _]) (by kernel_rfl) (OpensFs.cons (f := Field.mk "Id" 2 0 false "" "" 0) (off := 0) (sz := 1) rfl (by kernel_rfl) (Opens.int (t := 2) (kd := .i64) (by kernel_rfl))
  (OpensFs.cons (f := Field.mk "Room" 2 1 false "" "" 8) (off := 1) (sz := 1) rfl (by kernel_rfl) (Opens.int (t := 2) (kd := .i64) (by kernel_rfl))
  (OpensFs.cons (f := Field.mk "Author" 2 2 false "" "" 16) (off := 2) (sz := 1) rfl (by kernel_rfl) (Opens.int (t := 2) (kd := .i64) (by kernel_rfl))
  (OpensFs.cons (f := Field.mk "Kind" 2 3 false "" "" 24) (off := 3) (sz := 1) rfl (by kernel_rfl) (Opens.int (t := 2) (kd := .i64) (by kernel_rfl))
  (OpensFs.cons (f := Field.mk "Key" 2 4 false "" "" 32) (off := 4) (sz := 1) rfl (by kernel_rfl) (Opens.int (t := 2) (kd := .i64) (by kernel_rfl))
  (OpensFs.cons (f := Field.mk "N" 2 5 false "" "" 40) (off := 5) (sz := 1) rfl (by kernel_rfl) (Opens.int (t := 2) (kd := .i64) (by kernel_rfl))
  (OpensFs.cons (f := Field.mk "Text" 9 6 false "" "" 48) (off := 6) (sz := 1) rfl (by kernel_rfl) (Opens.string (t := 9) (by kernel_rfl))
  (OpensFs.cons (f := Field.mk "Prev" 26 7 false "" "" 64) (off := 7) (sz := 1) rfl (by kernel_rfl) (Opens.slice (t := 26) (sz := 1) (k := kI64) (by kernel_rfl) (Opens.int (t := 2) (kd := .i64) (by kernel_rfl)) (by kernel_rfl) (by decide))
  (OpensFs.cons (f := Field.mk "Time" 2 8 false "" "" 88) (off := 8) (sz := 1) rfl (by kernel_rfl) (Opens.int (t := 2) (kd := .i64) (by kernel_rfl)) OpensFs.nil))))))))) (by kernel_rfl)) (fun _ => rfl) (fun g h => ⟨h.1, h.2.1, h.2.2.1, h.2.2.2.1, h.2.2.2.2.1, h.2.2.2.2.2.1, h.2.2.2.2.2.2.1, h.2.2.2.2.2.2.2.1, h.2.2.2.2.2.2.2.2.1⟩)
def kGraph (x : TGraph) : List C := [C.int x.room, C.im kEvent 9 x.events, C.im kEvent 9 x.parked]
theorem opens_24 : Opens Tryz.prog 24 kGraph InGraph :=
 Opens.map (fun g => TGraph.mk g.1 g.2.1 g.2.2.1) (Opens.struct (t := 24) (fs := #[_, _, _]) (by kernel_rfl) (OpensFs.cons (f := Field.mk "Room" 2 0 false "" "" 0) (off := 0) (sz := 1) rfl (by kernel_rfl) (Opens.int (t := 2) (kd := .i64) (by kernel_rfl))
  (OpensFs.cons (f := Field.mk "Events" 22 1 false "" "" 8) (off := 1) (sz := 1) rfl (by kernel_rfl) (Opens.slice (t := 22) (sz := 9) (k := kEvent) (by kernel_rfl) opens_112 (by kernel_rfl) (by decide))
  (OpensFs.cons (f := Field.mk "Parked" 22 2 false "" "" 32) (off := 2) (sz := 1) rfl (by kernel_rfl) (Opens.slice (t := 22) (sz := 9) (k := kEvent) (by kernel_rfl) opens_112 (by kernel_rfl) (by decide)) OpensFs.nil))) (by kernel_rfl)) (fun _ => rfl) (fun g h => ⟨h.1, h.2.1, h.2.2.1⟩)

set_option maxRecDepth 100000 in
theorem fnExactUndoOf_lifted (os : Os) (started : os.Started) (H : Type) (enc : TypeId × Value → H) :
  ReturnsInHanded {} Tryz.checked os 5 .any (Rows.fnExactUndoOfSpec.pre6 enc Tryz.prog Tryz.f5 Rows.fnExactUndoOfRow.domain false) (Rows.fnExactUndoOfSpec.post enc Tryz.prog Tryz.f5 false true false false) :=
 law_lifted (C := Tryz.checked) (ts := [24, 2]) (tb := 4) (by kernel_rfl) started (by kernel_rfl) Tryz.func5
  (ChangeSpec.witness6 (enc := enc) (C := Tryz.checked) false ⟨#[], #[.agg #[.int .i64 0, .slice none 0 0, .slice none 0 0], .int .i64 0], []⟩ 8 (by kernel_rfl) (by kernel_rfl) (by kernel_rfl) (by kernel_rfl))
  (by kernel_rfl) rfl (by kernel_rfl) rfl (by kernel_rfl) rfl (fun ds h => match ds, h with | [_, _], _ => rfl)
  (OpensAll.consA (t := 24) (fs := #[Field.mk "Room" 2 0 false "" "" 0, Field.mk "Events" 22 1 false "" "" 8, Field.mk "Parked" 22 2 false "" "" 32]) (by kernel_rfl) opens_24 (OpensAll.cons (t := 2) (d := .int .i64) (by kernel_rfl) rfl (Opens.int (t := 2) (kd := .i64) (by kernel_rfl)) OpensAll.nil))
  (fun g hg => Zcj g.1 g.2.1 true (undoOf_true g.1 g.2.1 hg.1 hg.2.1))

theorem fnExactUndoOf_holds : Rows.FnExactUndoOfSaid :=
 OpenClaim.holds_of_wide 5 Tryz.f5 rfl rfl rfl rfl rfl rfl rfl ⟨rfl, rfl, rfl, rfl, rfl⟩ rfl rfl rfl rfl rfl (by kernel_rfl) Tryz.func5 (by kernel_rfl)
  (of_decide_eq_true (by kernel_rfl)) (by unfold Func.isWrapper; first | (rw [if_pos (by decide +kernel)]; kernel_rfl) | (rw [if_neg (by decide +kernel)]; exact ⟨rfl, rfl⟩))
  (fun os started H enc _ => fnExactUndoOf_lifted os started H enc)

end Go.Proofs.YtnndihmamfomcaaGreat
