/- FnExactCalls: for every hub, marks and room the law returns true; no condition. -/
import Derived.Test.YtnoknphekhclcaaGreatDoorFJH
import Derived.Test.YtnoknphekhclcaaGreatDoorRows
import Derived.Test.YtnoknphekhclcaaGreatDoorFRS
import Derived.Test.YtnoknphekhclcaaGreatDoorFRT
set_option autoImplicit false
set_option linter.unusedVariables false
set_option linter.unusedSimpArgs false
namespace Go.Proofs.YtnoknphekhclcaaGreatDoor
open Go Go.Abs

structure Yqc (x : Y9z) : Prop where
 id : IntKind.i64.min ≤ x.id ∧ x.id ≤ IntKind.i64.max
 room : IntKind.i64.min ≤ x.room ∧ x.room ≤ IntKind.i64.max
 author : IntKind.i64.min ≤ x.author ∧ x.author ≤ IntKind.i64.max
 kind : IntKind.i64.min ≤ x.kind ∧ x.kind ≤ IntKind.i64.max
 key : IntKind.i64.min ≤ x.key ∧ x.key ≤ IntKind.i64.max
 n : IntKind.i64.min ≤ x.n ∧ x.n ≤ IntKind.i64.max
 text : x.text.size ≤ maxLen
 prev : x.prev.length ≤ maxLen ∧ ∀ y ∈ x.prev, (IntKind.i64.min ≤ y ∧ y ≤ IntKind.i64.max)
 time : IntKind.i64.min ≤ x.time ∧ x.time ≤ IntKind.i64.max
structure Yqd (x : Ya0) : Prop where
 room : IntKind.i64.min ≤ x.room ∧ x.room ≤ IntKind.i64.max
 events : x.events.length ≤ maxLen ∧ ∀ y ∈ x.events, Yqc y
 parked : x.parked.length ≤ maxLen ∧ ∀ y ∈ x.parked, Yqc y
structure Yqe (x : Ya1) : Prop where
 room : IntKind.i64.min ≤ x.room ∧ x.room ≤ IntKind.i64.max
 id : IntKind.i64.min ≤ x.id ∧ x.id ≤ IntKind.i64.max
structure Yqf (x : THub) : Prop where
 rooms : x.rooms.length ≤ maxLen ∧ ∀ y ∈ x.rooms, Yqd y
 stream : x.stream.length ≤ maxLen ∧ ∀ y ∈ x.stream, Yqe y
structure Yqg (x : Ya2) : Prop where
 user : IntKind.i64.min ≤ x.user ∧ x.user ≤ IntKind.i64.max
 at_ : x.at_.length ≤ maxLen ∧ ∀ y ∈ x.at_, (IntKind.i64.min ≤ y ∧ y ≤ IntKind.i64.max)


theorem Yqh {e : Y9z} (h : Yqc e) : EvIn e := ⟨h.text, h.prev.1⟩
theorem Yqi {g : Ya0} (h : Yqd g) : GIn g := ⟨h.events.1, h.parked.1, fun e he => Yqh (h.events.2 e he), fun e he => Yqh (h.parked.2 e he)⟩
theorem Yqj {h : THub} (k : Yqf h) : HIn h := ⟨k.rooms.1, fun g hg => Yqi (k.rooms.2 g hg), k.stream.1⟩
theorem Yqk {h : THub} (s : Yoh h) : Ynp (toH h) := ⟨by show (h.rooms.map toG).length ≤ _; rw [List.length_map]; exact s.rl, s.sl, fun g hg => by
 obtain ⟨g0, h1, rfl⟩ := List.mem_map.1 hg
 exact Ym0 (s.rg g0 h1).1 (s.rg g0 h1).2⟩

theorem Yql (h : THub) (m : Ya2) (r : Int) (hh : Yqf h) (hm : Yqg m) (_ : IntKind.i64.min ≤ r ∧ r ≤ IntKind.i64.max) : Zlt h m r = some true := by
 unfold Zlt
 obtain ⟨z, z1, z2⟩ := Yoj h 1048576 (Yqj hh) (by omega) (by omega)
 rw [z1, Wb]
 rcases z2 with ⟨z2, z3, hs⟩ | rfl
 ·
  rw [Wf (by omega), Wv]
  obtain ⟨y, y1, y2⟩ := Ypd m z hm.at_.1 z2 z3
  rw [y1, Wb]
  rcases y2 with ⟨y2, _, hml⟩ | rfl
  ·
   rw [Wf (by omega), Wv]
   obtain ⟨v, s1, i1, vl⟩ := Yqb (Yqk hs) m hml r
   obtain ⟨k, k1, k2, k3⟩ := Yot hs 1 (by omega) (by omega)
   have q0 := Ym9 m.at_ k.1 hml k2 (by omega)
   have q1 := Ym9 v 1 (by omega) (by omega) (by omega)
   have q2 := Yma v.length 1 (by omega) (by omega) (by omega)
   have e1 := Ym1 v (by omega)
   have e2 : decide (k.1 + m.at_.length < 0) = false := Wf (by omega)
   have e3 : decide ((1 : Int) + v.length < 0) = false := Wf (by omega)
   simp [Yom h hs, Ype m hml, Ypf m hml, Zlm, s1, i1, e1, Yoq hs, k1, e2, Zls, q0, q1, q2, e3]
  ·
   rfl
 ·
  rfl
theorem Yqm : Y4l Tryz.prog 46 Yaw Yqg :=
 Y4l.map (fun g => Ya2.mk g.1 g.2.1) (Y4l.struct (t := 46) (fs := #[_, _]) (by kernel_rfl) (Y4o.cons (f := Field.mk "User" 2 0 false "" "" 0) (off := 0) (sz := 1) rfl (by kernel_rfl) (Y4l.int (t := 2) (kd := .i64) (by kernel_rfl))
  (Y4o.cons (f := Field.mk "At" 44 1 false "" "" 8) (off := 1) (sz := 1) rfl (by kernel_rfl) (Y4l.slice (t := 44) (sz := 1) (k := kI64) (by kernel_rfl) (Y4l.int (t := 2) (kd := .i64) (by kernel_rfl)) (by kernel_rfl) (by decide)) Y4o.nil)) (by kernel_rfl)) (fun _ => rfl) (fun g h => ⟨h.1, h.2.1⟩)
theorem Yqn : Y4l Tryz.prog 29 Yad Yqe :=
 Y4l.map (fun g => Ya1.mk g.1 g.2.1) (Y4l.struct (t := 29) (fs := #[_, _]) (by kernel_rfl) (Y4o.cons (f := Field.mk "Room" 2 0 false "" "" 0) (off := 0) (sz := 1) rfl (by kernel_rfl) (Y4l.int (t := 2) (kd := .i64) (by kernel_rfl))
  (Y4o.cons (f := Field.mk "Id" 2 1 false "" "" 8) (off := 1) (sz := 1) rfl (by kernel_rfl) (Y4l.int (t := 2) (kd := .i64) (by kernel_rfl)) Y4o.nil)) (by kernel_rfl)) (fun _ => rfl) (fun g h => ⟨h.1, h.2.1⟩)
theorem Yqo : Y4l Tryz.prog 187 Yab Yqc :=
 Y4l.map (fun g => Y9z.mk g.1 g.2.1 g.2.2.1 g.2.2.2.1 g.2.2.2.2.1 g.2.2.2.2.2.1 g.2.2.2.2.2.2.1 g.2.2.2.2.2.2.2.1 g.2.2.2.2.2.2.2.2.1) (Y4l.struct (t := 187) (fs := #[_, _, _, _, _, _, _, _, _]) (by kernel_rfl) (Y4o.cons (f := Field.mk "Id" 2 0 false "" "" 0) (off := 0) (sz := 1) rfl (by kernel_rfl) (Y4l.int (t := 2) (kd := .i64) (by kernel_rfl))
  (Y4o.cons (f := Field.mk "Room" 2 1 false "" "" 8) (off := 1) (sz := 1) rfl (by kernel_rfl) (Y4l.int (t := 2) (kd := .i64) (by kernel_rfl))
  (Y4o.cons (f := Field.mk "Author" 2 2 false "" "" 16) (off := 2) (sz := 1) rfl (by kernel_rfl) (Y4l.int (t := 2) (kd := .i64) (by kernel_rfl))
  (Y4o.cons (f := Field.mk "Kind" 2 3 false "" "" 24) (off := 3) (sz := 1) rfl (by kernel_rfl) (Y4l.int (t := 2) (kd := .i64) (by kernel_rfl))
  (Y4o.cons (f := Field.mk "Key" 2 4 false "" "" 32) (off := 4) (sz := 1) rfl (by kernel_rfl) (Y4l.int (t := 2) (kd := .i64) (by kernel_rfl))
  (Y4o.cons (f := Field.mk "N" 2 5 false "" "" 40) (off := 5) (sz := 1) rfl (by kernel_rfl) (Y4l.int (t := 2) (kd := .i64) (by kernel_rfl))
  (Y4o.cons (f := Field.mk "Text" 9 6 false "" "" 48) (off := 6) (sz := 1) rfl (by kernel_rfl) (Y4l.string (t := 9) (by kernel_rfl))
  (Y4o.cons (f := Field.mk "Prev" 44 7 false "" "" 64) (off := 7) (sz := 1) rfl (by kernel_rfl) (Y4l.slice (t := 44) (sz := 1) (k := kI64) (by kernel_rfl) (Y4l.int (t := 2) (kd := .i64) (by kernel_rfl)) (by kernel_rfl) (by decide))
  (Y4o.cons (f := Field.mk "Time" 2 8 false "" "" 88) (off := 8) (sz := 1) rfl (by kernel_rfl) (Y4l.int (t := 2) (kd := .i64) (by kernel_rfl)) Y4o.nil))))))))) (by kernel_rfl)) (fun _ => rfl) (fun g h => ⟨h.1, h.2.1, h.2.2.1, h.2.2.2.1, h.2.2.2.2.1, h.2.2.2.2.2.1, h.2.2.2.2.2.2.1, h.2.2.2.2.2.2.2.1, h.2.2.2.2.2.2.2.2.1⟩)
theorem Yqp : Y4l Tryz.prog 109 Yac Yqd :=
 Y4l.map (fun g => Ya0.mk g.1 g.2.1 g.2.2.1) (Y4l.struct (t := 109) (fs := #[_, _, _]) (by kernel_rfl) (Y4o.cons (f := Field.mk "Room" 2 0 false "" "" 0) (off := 0) (sz := 1) rfl (by kernel_rfl) (Y4l.int (t := 2) (kd := .i64) (by kernel_rfl))
  (Y4o.cons (f := Field.mk "Events" 107 1 false "" "" 8) (off := 1) (sz := 1) rfl (by kernel_rfl) (Y4l.slice (t := 107) (sz := 9) (k := Yab) (by kernel_rfl) Yqo (by kernel_rfl) (by decide))
  (Y4o.cons (f := Field.mk "Parked" 107 2 false "" "" 32) (off := 2) (sz := 1) rfl (by kernel_rfl) (Y4l.slice (t := 107) (sz := 9) (k := Yab) (by kernel_rfl) Yqo (by kernel_rfl) (by decide)) Y4o.nil))) (by kernel_rfl)) (fun _ => rfl) (fun g h => ⟨h.1, h.2.1, h.2.2.1⟩)
theorem Yqq : Y4l Tryz.prog 25 kHub Yqf :=
 Y4l.map (fun g => THub.mk g.1 g.2.1) (Y4l.struct (t := 25) (fs := #[_, _]) (by kernel_rfl) (Y4o.cons (f := Field.mk "Rooms" 22 0 false "" "" 0) (off := 0) (sz := 1) rfl (by kernel_rfl) (Y4l.slice (t := 22) (sz := 3) (k := Yac) (by kernel_rfl) Yqp (by kernel_rfl) (by decide))
  (Y4o.cons (f := Field.mk "Stream" 23 1 false "" "" 24) (off := 1) (sz := 1) rfl (by kernel_rfl) (Y4l.slice (t := 23) (sz := 2) (k := Yad) (by kernel_rfl) Yqn (by kernel_rfl) (by decide)) Y4o.nil)) (by kernel_rfl)) (fun _ => rfl) (fun g h => ⟨h.1, h.2.1⟩)

set_option maxRecDepth 100000 in
theorem Yqr (os : Os) (started : os.Started) (H : Type) (enc : TypeId × Value → H) :
  ReturnsInHanded {} Tryz.checked os 4 .any (fun w args => (Rows.fnExactCallsSpec.pre enc Tryz.prog Tryz.f4 [] false w args ∧ laidMetH Tryz.prog Rows.fnExactCallsRow.laid w) ∧ sizedMet enc Tryz.prog Tryz.f4 (OpenSpec.ofChange Rows.fnExactCallsSpec) false w args) (Rows.fnExactCallsSpec.post enc Tryz.prog Tryz.f4 false true false false) :=
 Y4v (C := Tryz.checked) (X := fun w _ => laidMetH Tryz.prog Rows.fnExactCallsRow.laid w) (ts := [25, 46, 2]) (tb := 4) rowA started rowB Tryz.func4
  (rowW os H enc)
  rowC rfl rowD rfl rowE rfl (fun ds h => match ds, h with | [_, _, _], _ => rfl)
  (Y4p.consA (t := 25) (fs := #[Field.mk "Rooms" 22 0 false "" "" 0, Field.mk "Stream" 23 1 false "" "" 24]) (by kernel_rfl) Yqq (Y4p.consA (t := 46) (fs := #[Field.mk "User" 2 0 false "" "" 0, Field.mk "At" 44 1 false "" "" 8]) (by kernel_rfl) Yqm (Y4p.cons (t := 2) (d := .int .i64) (by kernel_rfl) rfl (Y4l.int (t := 2) (kd := .i64) (by kernel_rfl)) Y4p.nil)))
  (fun g hg => (Zlu g.1 g.2.1 g.2.2.1).h true (Yql g.1 g.2.1 g.2.2.1 hg.1 hg.2.1 hg.2.2.1)) (fun w h q hq => (show q = 0 from hq) ▸ Y9v w h)
theorem fnExactCalls_holds : Rows.FnExactCallsCardSaid :=
 rowT (rowS fun os started H enc => Yqr os started H enc)

end Go.Proofs.YtnoknphekhclcaaGreatDoor
