/- FnExactCurrentAt: for every hub, room and position the law returns true; no condition. -/
import Derived.Test.YtbgichfjcnibpaaGreatCHI
import Derived.Test.YtbgichfjcnibpaaGreatRows
set_option autoImplicit false
set_option linter.unusedVariables false
set_option linter.unusedSimpArgs false
namespace Go.Proofs.YtbgichfjcnibpaaGreat
open Go Go.Abs

structure Yng (x : Y8x) : Prop where
 id : IntKind.i64.min ≤ x.id ∧ x.id ≤ IntKind.i64.max
 room : IntKind.i64.min ≤ x.room ∧ x.room ≤ IntKind.i64.max
 author : IntKind.i64.min ≤ x.author ∧ x.author ≤ IntKind.i64.max
 kind : IntKind.i64.min ≤ x.kind ∧ x.kind ≤ IntKind.i64.max
 key : IntKind.i64.min ≤ x.key ∧ x.key ≤ IntKind.i64.max
 n : IntKind.i64.min ≤ x.n ∧ x.n ≤ IntKind.i64.max
 text : x.text.size ≤ maxLen
 prev : x.prev.length ≤ maxLen ∧ ∀ y ∈ x.prev, (IntKind.i64.min ≤ y ∧ y ≤ IntKind.i64.max)
 time : IntKind.i64.min ≤ x.time ∧ x.time ≤ IntKind.i64.max
structure Ynh (x : Y8y) : Prop where
 room : IntKind.i64.min ≤ x.room ∧ x.room ≤ IntKind.i64.max
 events : x.events.length ≤ maxLen ∧ ∀ y ∈ x.events, Yng y
 parked : x.parked.length ≤ maxLen ∧ ∀ y ∈ x.parked, Yng y
structure Yni (x : Y8z) : Prop where
 room : IntKind.i64.min ≤ x.room ∧ x.room ≤ IntKind.i64.max
 id : IntKind.i64.min ≤ x.id ∧ x.id ≤ IntKind.i64.max
structure Ynj (x : THub) : Prop where
 rooms : x.rooms.length ≤ maxLen ∧ ∀ y ∈ x.rooms, Ynh y
 stream : x.stream.length ≤ maxLen ∧ ∀ y ∈ x.stream, Yni y


theorem Ynk {e : Y8x} (h : Yng e) : EvIn e := ⟨h.text, h.prev.1⟩
theorem Ynl {g : Y8y} (h : Ynh g) : GIn g := ⟨h.events.1, h.parked.1, fun e he => Ynk (h.events.2 e he), fun e he => Ynk (h.parked.2 e he)⟩
theorem Ynm {h : THub} (k : Ynj h) : HIn h := ⟨k.rooms.1, fun g hg => Ynl (k.rooms.2 g hg), k.stream.1⟩
theorem Ynn {h : THub} (s : Ymo h) : Ylw (toH h) := ⟨by show (h.rooms.map toG).length ≤ _; rw [List.length_map]; exact s.rl, s.sl, fun g hg => by
 obtain ⟨g0, h1, rfl⟩ := List.mem_map.1 hg
 exact Yk8 (s.rg g0 h1).1 (s.rg g0 h1).2⟩

theorem Yno (h : THub) (r pos : Int) (hh : Ynj h) (_ : IntKind.i64.min ≤ r ∧ r ≤ IntKind.i64.max) (_ : IntKind.i64.min ≤ pos ∧ pos ≤ IntKind.i64.max) : Zie h r pos = some true := by
 unfold Zie
 obtain ⟨z, z1, z2⟩ := Ymq h 1048576 (Ynm hh) (by omega) (by omega)
 rw [z1, Option.bind_some]
 rcases z2 with ⟨z2, _, hs⟩ | rfl
 ·
  rw [decide_eq_false (by omega), cond_false]
  obtain ⟨v, s1, i1, vl⟩ := Ynf (Ynn hs) r pos
  obtain ⟨m, m1, m2, _⟩ := Yn1 hs 1 (by omega) (by omega)
  have q1 := Yn6 v 1 (by omega) (by omega) (by omega)
  have q2 := Yn7 v.length 1 (by omega) (by omega) (by omega)
  have e1 := Ymy v (by omega)
  have e2 : decide (m.1 < 0) = false := decide_eq_false (by omega)
  have e3 : decide ((1 : Int) + 3 * v.length < 0) = false := decide_eq_false (by omega)
  simp [Ymt h hs, s1, i1, e1, Ymx hs, m1, e2, Zid, q1, q2, e3]
 ·
  rfl
theorem Ynp : Y4a Tryz.prog 185 Y99 Yni :=
 Y4a.map (fun g => Y8z.mk g.1 g.2.1) (Y4a.struct (t := 185) (fs := #[_, _]) (by kernel_rfl) (Y4d.cons (f := Field.mk "Room" 2 0 false "" "" 0) (off := 0) (sz := 1) rfl (by kernel_rfl) (Y4a.int (t := 2) (kd := .i64) (by kernel_rfl))
  (Y4d.cons (f := Field.mk "Id" 2 1 false "" "" 8) (off := 1) (sz := 1) rfl (by kernel_rfl) (Y4a.int (t := 2) (kd := .i64) (by kernel_rfl)) Y4d.nil)) (by kernel_rfl)) (fun _ => rfl) (fun g h => ⟨h.1, h.2.1⟩)
theorem Ynq : Y4a Tryz.prog 273 Y97 Yng :=
 Y4a.map (fun g => Y8x.mk g.1 g.2.1 g.2.2.1 g.2.2.2.1 g.2.2.2.2.1 g.2.2.2.2.2.1 g.2.2.2.2.2.2.1 g.2.2.2.2.2.2.2.1 g.2.2.2.2.2.2.2.2.1) (Y4a.struct (t := 273) (fs := #[_, _, _, _, _, _, _, _, _]) (by kernel_rfl) (Y4d.cons (f := Field.mk "Id" 2 0 false "" "" 0) (off := 0) (sz := 1) rfl (by kernel_rfl) (Y4a.int (t := 2) (kd := .i64) (by kernel_rfl))
  (Y4d.cons (f := Field.mk "Room" 2 1 false "" "" 8) (off := 1) (sz := 1) rfl (by kernel_rfl) (Y4a.int (t := 2) (kd := .i64) (by kernel_rfl))
  (Y4d.cons (f := Field.mk "Author" 2 2 false "" "" 16) (off := 2) (sz := 1) rfl (by kernel_rfl) (Y4a.int (t := 2) (kd := .i64) (by kernel_rfl))
  (Y4d.cons (f := Field.mk "Kind" 2 3 false "" "" 24) (off := 3) (sz := 1) rfl (by kernel_rfl) (Y4a.int (t := 2) (kd := .i64) (by kernel_rfl))
  (Y4d.cons (f := Field.mk "Key" 2 4 false "" "" 32) (off := 4) (sz := 1) rfl (by kernel_rfl) (Y4a.int (t := 2) (kd := .i64) (by kernel_rfl))
  (Y4d.cons (f := Field.mk "N" 2 5 false "" "" 40) (off := 5) (sz := 1) rfl (by kernel_rfl) (Y4a.int (t := 2) (kd := .i64) (by kernel_rfl))
  (Y4d.cons (f := Field.mk "Text" 9 6 false "" "" 48) (off := 6) (sz := 1) rfl (by kernel_rfl) (Y4a.string (t := 9) (by kernel_rfl))
  (Y4d.cons (f := Field.mk "Prev" 57 7 false "" "" 64) (off := 7) (sz := 1) rfl (by kernel_rfl) (Y4a.slice (t := 57) (sz := 1) (k := kI64) (by kernel_rfl) (Y4a.int (t := 2) (kd := .i64) (by kernel_rfl)) (by kernel_rfl) (by decide))
  (Y4d.cons (f := Field.mk "Time" 2 8 false "" "" 88) (off := 8) (sz := 1) rfl (by kernel_rfl) (Y4a.int (t := 2) (kd := .i64) (by kernel_rfl)) Y4d.nil))))))))) (by kernel_rfl)) (fun _ => rfl) (fun g h => ⟨h.1, h.2.1, h.2.2.1, h.2.2.2.1, h.2.2.2.2.1, h.2.2.2.2.2.1, h.2.2.2.2.2.2.1, h.2.2.2.2.2.2.2.1, h.2.2.2.2.2.2.2.2.1⟩)
theorem Ynr : Y4a Tryz.prog 176 Y98 Ynh :=
 Y4a.map (fun g => Y8y.mk g.1 g.2.1 g.2.2.1) (Y4a.struct (t := 176) (fs := #[_, _, _]) (by kernel_rfl) (Y4d.cons (f := Field.mk "Room" 2 0 false "" "" 0) (off := 0) (sz := 1) rfl (by kernel_rfl) (Y4a.int (t := 2) (kd := .i64) (by kernel_rfl))
  (Y4d.cons (f := Field.mk "Events" 174 1 false "" "" 8) (off := 1) (sz := 1) rfl (by kernel_rfl) (Y4a.slice (t := 174) (sz := 9) (k := Y97) (by kernel_rfl) Ynq (by kernel_rfl) (by decide))
  (Y4d.cons (f := Field.mk "Parked" 174 2 false "" "" 32) (off := 2) (sz := 1) rfl (by kernel_rfl) (Y4a.slice (t := 174) (sz := 9) (k := Y97) (by kernel_rfl) Ynq (by kernel_rfl) (by decide)) Y4d.nil))) (by kernel_rfl)) (fun _ => rfl) (fun g h => ⟨h.1, h.2.1, h.2.2.1⟩)
def kHub (x : THub) : List C := [C.im Y98 3 x.rooms, C.im Y99 2 x.stream]
theorem Yns : Y4a Tryz.prog 25 kHub Ynj :=
 Y4a.map (fun g => THub.mk g.1 g.2.1) (Y4a.struct (t := 25) (fs := #[_, _]) (by kernel_rfl) (Y4d.cons (f := Field.mk "Rooms" 22 0 false "" "" 0) (off := 0) (sz := 1) rfl (by kernel_rfl) (Y4a.slice (t := 22) (sz := 3) (k := Y98) (by kernel_rfl) Ynr (by kernel_rfl) (by decide))
  (Y4d.cons (f := Field.mk "Stream" 23 1 false "" "" 24) (off := 1) (sz := 1) rfl (by kernel_rfl) (Y4a.slice (t := 23) (sz := 2) (k := Y99) (by kernel_rfl) Ynp (by kernel_rfl) (by decide)) Y4d.nil)) (by kernel_rfl)) (fun _ => rfl) (fun g h => ⟨h.1, h.2.1⟩)

theorem rowA : ownKnob Tryz.checked.prog.godebug = none := by kernel_rfl
theorem rowB : Tryz.checked.prog.inits.idxOf? 3 = none := by kernel_rfl
theorem rowC : laidOutB Tryz.checked.prog = true := by kernel_rfl
theorem rowD : ([25, 2, 2].all fun t => Tryz.checked.prog.readableRec t && decide (t < Tryz.checked.prog.types.size)) = true := by kernel_rfl
theorem rowE : Tryz.checked.prog.underlying 4 = some .bool := by kernel_rfl
set_option maxRecDepth 100000 in
theorem Ynt (os : Os) (started : os.Started) (H : Type) (enc : TypeId × Value → H) :
  ReturnsInHanded {} Tryz.checked os 3 .any (Rows.fnExactCurrentAtSpec.pre6 enc Tryz.prog Tryz.f3 Rows.fnExactCurrentAtRow.domain false) (Rows.fnExactCurrentAtSpec.post enc Tryz.prog Tryz.f3 false true false false) :=
 Y4i (C := Tryz.checked) (ts := [25, 2, 2]) (tb := 4) rowA started rowB Tryz.func3
  (ChangeSpec.witness6 (enc := enc) (C := Tryz.checked) false ⟨#[], #[.agg #[.slice none 0 0, .slice none 0 0], .int .i64 0, .int .i64 0], []⟩ 8 (by kernel_rfl) (by kernel_rfl) (by kernel_rfl) (by kernel_rfl))
  rowC rfl rowD rfl rowE rfl (fun ds h => match ds, h with | [_, _, _], _ => rfl)
  (Y4e.consA (t := 25) (fs := #[Field.mk "Rooms" 22 0 false "" "" 0, Field.mk "Stream" 23 1 false "" "" 24]) (by kernel_rfl) Yns (Y4e.cons (t := 2) (d := .int .i64) (by kernel_rfl) rfl (Y4a.int (t := 2) (kd := .i64) (by kernel_rfl)) (Y4e.cons (t := 2) (d := .int .i64) (by kernel_rfl) rfl (Y4a.int (t := 2) (kd := .i64) (by kernel_rfl)) Y4e.nil)))
  (fun g hg => (Zif g.1 g.2.1 g.2.2.1).h true (Yno g.1 g.2.1 g.2.2.1 hg.1 hg.2.1 hg.2.2.1))

theorem andI {a b : Bool} (h : a = true) (k : b = true) : (a && b) = true := by rw [h, k]; rfl
set_option maxHeartbeats 100000000 in
theorem rowF : joinedFacts Tryz.checked.prog 3 Tryz.f3 Rows.fnExactCurrentAtSpec Rows.fnExactCurrentAtRow = true := by
 unfold joinedFacts
 iterate 31 refine andI ?_ (by as_aux_lemma => kernel_rfl)
 as_aux_lemma => kernel_rfl
theorem fnExactCurrentAt_holds : Rows.FnExactCurrentAtSaid :=
 OpenClaim.holds_of_wide 3 Tryz.f3 rfl rfl rfl rfl rfl rfl rfl ⟨rfl, rfl, rfl, rfl, rfl⟩ rfl rfl rfl rfl rfl (by kernel_rfl) Tryz.func3 rowF
  (of_decide_eq_true (by kernel_rfl)) (by unfold Func.isWrapper; first | (rw [if_pos (by decide +kernel)]; kernel_rfl) | (rw [if_neg (by decide +kernel)]; exact ⟨rfl, rfl⟩))
  (fun os started H enc _ => Ynt os started H enc)

end Go.Proofs.YtbgichfjcnibpaaGreat
