/- FnExactVisibleOf: for every hub, user and room the law returns true; no condition. -/
import Derived.Test.YtbgichfjcnibpaaGreatDHK
import Derived.Test.YtbgichfjcnibpaaGreatRows
set_option autoImplicit false
set_option linter.unusedVariables false
set_option linter.unusedSimpArgs false
namespace Go.Proofs.YtbgichfjcnibpaaGreat
open Go Go.Abs

structure Ynk (x : Y8w) : Prop where
 id : IntKind.i64.min ≤ x.id ∧ x.id ≤ IntKind.i64.max
 room : IntKind.i64.min ≤ x.room ∧ x.room ≤ IntKind.i64.max
 author : IntKind.i64.min ≤ x.author ∧ x.author ≤ IntKind.i64.max
 kind : IntKind.i64.min ≤ x.kind ∧ x.kind ≤ IntKind.i64.max
 key : IntKind.i64.min ≤ x.key ∧ x.key ≤ IntKind.i64.max
 n : IntKind.i64.min ≤ x.n ∧ x.n ≤ IntKind.i64.max
 text : x.text.size ≤ maxLen
 prev : x.prev.length ≤ maxLen ∧ ∀ y ∈ x.prev, (IntKind.i64.min ≤ y ∧ y ≤ IntKind.i64.max)
 time : IntKind.i64.min ≤ x.time ∧ x.time ≤ IntKind.i64.max
structure Ynl (x : Y8x) : Prop where
 room : IntKind.i64.min ≤ x.room ∧ x.room ≤ IntKind.i64.max
 events : x.events.length ≤ maxLen ∧ ∀ y ∈ x.events, Ynk y
 parked : x.parked.length ≤ maxLen ∧ ∀ y ∈ x.parked, Ynk y
structure Ynm (x : Y8y) : Prop where
 room : IntKind.i64.min ≤ x.room ∧ x.room ≤ IntKind.i64.max
 id : IntKind.i64.min ≤ x.id ∧ x.id ≤ IntKind.i64.max
structure Ynn (x : THub) : Prop where
 rooms : x.rooms.length ≤ maxLen ∧ ∀ y ∈ x.rooms, Ynl y
 stream : x.stream.length ≤ maxLen ∧ ∀ y ∈ x.stream, Ynm y


theorem Yno {e : Y8w} (h : Ynk e) : EvIn e := ⟨h.text, h.prev.1⟩
theorem Ynp {g : Y8x} (h : Ynl g) : GIn g := ⟨h.events.1, h.parked.1, fun e he => Yno (h.events.2 e he), fun e he => Yno (h.parked.2 e he)⟩
theorem Ynq {h : THub} (k : Ynn h) : HIn h := ⟨k.rooms.1, fun g hg => Ynp (k.rooms.2 g hg), k.stream.1⟩
theorem Ynr {h : THub} (s : Ymo h) : Ylw (toH h) := ⟨by show (h.rooms.map toG).length ≤ _; rw [List.length_map]; exact s.rl, s.sl, fun g hg => by
 obtain ⟨g0, h1, rfl⟩ := List.mem_map.1 hg
 exact Yk7 (s.rg g0 h1).1 (s.rg g0 h1).2⟩

theorem Yns (h : THub) (user r : Int) (hh : Ynn h) (_ : IntKind.i64.min ≤ user ∧ user ≤ IntKind.i64.max) (_ : IntKind.i64.min ≤ r ∧ r ≤ IntKind.i64.max) : Zj2 h user r = some true := by
 unfold Zj2
 obtain ⟨z, z1, z2⟩ := Ymq h 1048576 (Ynq hh) (by omega) (by omega)
 rw [z1, Option.bind_some]
 rcases z2 with ⟨z2, _, hs⟩ | rfl
 ·
  rw [decide_eq_false (by omega), cond_false]
  obtain ⟨v, s1, i1, vl⟩ := Ynj (Ynr hs) user r
  obtain ⟨m, m1, m2, _⟩ := Yn0 hs 1 (by omega) (by omega)
  have q1 := Ykg v 1 (by omega) (by omega) (by omega)
  have q2 := Ykh v.length 1 (by omega) (by omega) (by omega)
  have e1 := Yk8 v (by omega)
  have e2 : decide (m.1 < 0) = false := decide_eq_false (by omega)
  have e3 : decide ((1 : Int) + v.length < 0) = false := decide_eq_false (by omega)
  simp [Ymt h hs, s1, i1, e1, Ymx hs, m1, e2, Zj1, q1, q2, e3]
 ·
  rfl
theorem Ynt : Y49 Tryz.prog 185 Y98 Ynm :=
 Y49.map (fun g => Y8y.mk g.1 g.2.1) (Y49.struct (t := 185) (fs := #[_, _]) (by kernel_rfl) (Y4c.cons (f := Field.mk "Room" 2 0 false "" "" 0) (off := 0) (sz := 1) rfl (by kernel_rfl) (Y49.int (t := 2) (kd := .i64) (by kernel_rfl))
  (Y4c.cons (f := Field.mk "Id" 2 1 false "" "" 8) (off := 1) (sz := 1) rfl (by kernel_rfl) (Y49.int (t := 2) (kd := .i64) (by kernel_rfl)) Y4c.nil)) (by kernel_rfl)) (fun _ => rfl) (fun g h => ⟨h.1, h.2.1⟩)
theorem Ynu : Y49 Tryz.prog 273 Y96 Ynk :=
 Y49.map (fun g => Y8w.mk g.1 g.2.1 g.2.2.1 g.2.2.2.1 g.2.2.2.2.1 g.2.2.2.2.2.1 g.2.2.2.2.2.2.1 g.2.2.2.2.2.2.2.1 g.2.2.2.2.2.2.2.2.1) (Y49.struct (t := 273) (fs := #[_, _, _, _, _, _, _, _, _]) (by kernel_rfl) (Y4c.cons (f := Field.mk "Id" 2 0 false "" "" 0) (off := 0) (sz := 1) rfl (by kernel_rfl) (Y49.int (t := 2) (kd := .i64) (by kernel_rfl))
  (Y4c.cons (f := Field.mk "Room" 2 1 false "" "" 8) (off := 1) (sz := 1) rfl (by kernel_rfl) (Y49.int (t := 2) (kd := .i64) (by kernel_rfl))
  (Y4c.cons (f := Field.mk "Author" 2 2 false "" "" 16) (off := 2) (sz := 1) rfl (by kernel_rfl) (Y49.int (t := 2) (kd := .i64) (by kernel_rfl))
  (Y4c.cons (f := Field.mk "Kind" 2 3 false "" "" 24) (off := 3) (sz := 1) rfl (by kernel_rfl) (Y49.int (t := 2) (kd := .i64) (by kernel_rfl))
  (Y4c.cons (f := Field.mk "Key" 2 4 false "" "" 32) (off := 4) (sz := 1) rfl (by kernel_rfl) (Y49.int (t := 2) (kd := .i64) (by kernel_rfl))
  (Y4c.cons (f := Field.mk "N" 2 5 false "" "" 40) (off := 5) (sz := 1) rfl (by kernel_rfl) (Y49.int (t := 2) (kd := .i64) (by kernel_rfl))
  (Y4c.cons (f := Field.mk "Text" 9 6 false "" "" 48) (off := 6) (sz := 1) rfl (by kernel_rfl) (Y49.string (t := 9) (by kernel_rfl))
  (Y4c.cons (f := Field.mk "Prev" 57 7 false "" "" 64) (off := 7) (sz := 1) rfl (by kernel_rfl) (Y49.slice (t := 57) (sz := 1) (k := kI64) (by kernel_rfl) (Y49.int (t := 2) (kd := .i64) (by kernel_rfl)) (by kernel_rfl) (by decide))
  (Y4c.cons (f := Field.mk "Time" 2 8 false "" "" 88) (off := 8) (sz := 1) rfl (by kernel_rfl) (Y49.int (t := 2) (kd := .i64) (by kernel_rfl)) Y4c.nil))))))))) (by kernel_rfl)) (fun _ => rfl) (fun g h => ⟨h.1, h.2.1, h.2.2.1, h.2.2.2.1, h.2.2.2.2.1, h.2.2.2.2.2.1, h.2.2.2.2.2.2.1, h.2.2.2.2.2.2.2.1, h.2.2.2.2.2.2.2.2.1⟩)
theorem Ynv : Y49 Tryz.prog 176 Y97 Ynl :=
 Y49.map (fun g => Y8x.mk g.1 g.2.1 g.2.2.1) (Y49.struct (t := 176) (fs := #[_, _, _]) (by kernel_rfl) (Y4c.cons (f := Field.mk "Room" 2 0 false "" "" 0) (off := 0) (sz := 1) rfl (by kernel_rfl) (Y49.int (t := 2) (kd := .i64) (by kernel_rfl))
  (Y4c.cons (f := Field.mk "Events" 174 1 false "" "" 8) (off := 1) (sz := 1) rfl (by kernel_rfl) (Y49.slice (t := 174) (sz := 9) (k := Y96) (by kernel_rfl) Ynu (by kernel_rfl) (by decide))
  (Y4c.cons (f := Field.mk "Parked" 174 2 false "" "" 32) (off := 2) (sz := 1) rfl (by kernel_rfl) (Y49.slice (t := 174) (sz := 9) (k := Y96) (by kernel_rfl) Ynu (by kernel_rfl) (by decide)) Y4c.nil))) (by kernel_rfl)) (fun _ => rfl) (fun g h => ⟨h.1, h.2.1, h.2.2.1⟩)
def kHub (x : THub) : List C := [C.im Y97 3 x.rooms, C.im Y98 2 x.stream]
theorem Ynw : Y49 Tryz.prog 25 kHub Ynn :=
 Y49.map (fun g => THub.mk g.1 g.2.1) (Y49.struct (t := 25) (fs := #[_, _]) (by kernel_rfl) (Y4c.cons (f := Field.mk "Rooms" 22 0 false "" "" 0) (off := 0) (sz := 1) rfl (by kernel_rfl) (Y49.slice (t := 22) (sz := 3) (k := Y97) (by kernel_rfl) Ynv (by kernel_rfl) (by decide))
  (Y4c.cons (f := Field.mk "Stream" 23 1 false "" "" 24) (off := 1) (sz := 1) rfl (by kernel_rfl) (Y49.slice (t := 23) (sz := 2) (k := Y98) (by kernel_rfl) Ynt (by kernel_rfl) (by decide)) Y4c.nil)) (by kernel_rfl)) (fun _ => rfl) (fun g h => ⟨h.1, h.2.1⟩)

theorem rowA : ownKnob Tryz.checked.prog.godebug = none := by kernel_rfl
theorem rowB : Tryz.checked.prog.inits.idxOf? 6 = none := by kernel_rfl
theorem rowC : laidOutB Tryz.checked.prog = true := by kernel_rfl
theorem rowD : ([25, 2, 2].all fun t => Tryz.checked.prog.readableRec t && decide (t < Tryz.checked.prog.types.size)) = true := by kernel_rfl
theorem rowE : Tryz.checked.prog.underlying 4 = some .bool := by kernel_rfl
set_option maxRecDepth 100000 in
theorem Ynx (os : Os) (started : os.Started) (H : Type) (enc : TypeId × Value → H) :
  ReturnsInHanded {} Tryz.checked os 6 .any (Rows.fnExactVisibleOfSpec.pre6 enc Tryz.prog Tryz.f6 Rows.fnExactVisibleOfRow.domain false) (Rows.fnExactVisibleOfSpec.post enc Tryz.prog Tryz.f6 false true false false) :=
 Y4h (C := Tryz.checked) (ts := [25, 2, 2]) (tb := 4) rowA started rowB Tryz.func6
  (ChangeSpec.witness6 (enc := enc) (C := Tryz.checked) false ⟨#[], #[.agg #[.slice none 0 0, .slice none 0 0], .int .i64 0, .int .i64 0], []⟩ 8 (by kernel_rfl) (by kernel_rfl) (by kernel_rfl) (by kernel_rfl))
  rowC rfl rowD rfl rowE rfl (fun ds h => match ds, h with | [_, _, _], _ => rfl)
  (Y4d.consA (t := 25) (fs := #[Field.mk "Rooms" 22 0 false "" "" 0, Field.mk "Stream" 23 1 false "" "" 24]) (by kernel_rfl) Ynw (Y4d.cons (t := 2) (d := .int .i64) (by kernel_rfl) rfl (Y49.int (t := 2) (kd := .i64) (by kernel_rfl)) (Y4d.cons (t := 2) (d := .int .i64) (by kernel_rfl) rfl (Y49.int (t := 2) (kd := .i64) (by kernel_rfl)) Y4d.nil)))
  (fun g hg => (Zj3 g.1 g.2.1 g.2.2.1).h true (Yns g.1 g.2.1 g.2.2.1 hg.1 hg.2.1 hg.2.2.1))

theorem andI {a b : Bool} (h : a = true) (k : b = true) : (a && b) = true := by rw [h, k]; rfl
set_option maxHeartbeats 100000000 in
theorem rowF : joinedFacts Tryz.checked.prog 6 Tryz.f6 Rows.fnExactVisibleOfSpec Rows.fnExactVisibleOfRow = true := by
 unfold joinedFacts
 iterate 31 refine andI ?_ (by as_aux_lemma => kernel_rfl)
 as_aux_lemma => kernel_rfl
theorem fnExactVisibleOf_holds : Rows.FnExactVisibleOfSaid :=
 OpenClaim.holds_of_wide 6 Tryz.f6 rfl rfl rfl rfl rfl rfl rfl ⟨rfl, rfl, rfl, rfl, rfl⟩ rfl rfl rfl rfl rfl (by kernel_rfl) Tryz.func6 rowF
  (of_decide_eq_true (by kernel_rfl)) (by unfold Func.isWrapper; first | (rw [if_pos (by decide +kernel)]; kernel_rfl) | (rw [if_neg (by decide +kernel)]; exact ⟨rfl, rfl⟩))
  (fun os started H enc _ => Ynx os started H enc)

end Go.Proofs.YtbgichfjcnibpaaGreat
