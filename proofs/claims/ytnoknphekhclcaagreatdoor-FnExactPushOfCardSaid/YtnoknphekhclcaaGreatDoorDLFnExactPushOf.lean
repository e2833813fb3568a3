/- FnExactPushOf: for every hub, user, rules and spot the law returns true; no condition. -/
import Derived.Test.YtnoknphekhclcaaGreatDoorDJH
import Derived.Test.YtnoknphekhclcaaGreatDoorRows
import Derived.Test.YtnoknphekhclcaaGreatDoorDRS
import Derived.Test.YtnoknphekhclcaaGreatDoorDRT
set_option autoImplicit false
set_option linter.unusedVariables false
set_option linter.unusedSimpArgs false
namespace Go.Proofs.YtnoknphekhclcaaGreatDoor
open Go Go.Abs

structure Ypz (x : Y9t) : Prop where
 id : IntKind.i64.min ≤ x.id ∧ x.id ≤ IntKind.i64.max
 room : IntKind.i64.min ≤ x.room ∧ x.room ≤ IntKind.i64.max
 author : IntKind.i64.min ≤ x.author ∧ x.author ≤ IntKind.i64.max
 kind : IntKind.i64.min ≤ x.kind ∧ x.kind ≤ IntKind.i64.max
 key : IntKind.i64.min ≤ x.key ∧ x.key ≤ IntKind.i64.max
 n : IntKind.i64.min ≤ x.n ∧ x.n ≤ IntKind.i64.max
 text : x.text.size ≤ maxLen
 prev : x.prev.length ≤ maxLen ∧ ∀ y ∈ x.prev, (IntKind.i64.min ≤ y ∧ y ≤ IntKind.i64.max)
 time : IntKind.i64.min ≤ x.time ∧ x.time ≤ IntKind.i64.max
structure Yq0 (x : Y9u) : Prop where
 room : IntKind.i64.min ≤ x.room ∧ x.room ≤ IntKind.i64.max
 events : x.events.length ≤ maxLen ∧ ∀ y ∈ x.events, Ypz y
 parked : x.parked.length ≤ maxLen ∧ ∀ y ∈ x.parked, Ypz y
structure Yq1 (x : Y9v) : Prop where
 room : IntKind.i64.min ≤ x.room ∧ x.room ≤ IntKind.i64.max
 id : IntKind.i64.min ≤ x.id ∧ x.id ≤ IntKind.i64.max
structure Yq2 (x : THub) : Prop where
 rooms : x.rooms.length ≤ maxLen ∧ ∀ y ∈ x.rooms, Yq0 y
 stream : x.stream.length ≤ maxLen ∧ ∀ y ∈ x.stream, Yq1 y
structure Yq3 (x : Y9w) : Prop where
 kind : IntKind.i64.min ≤ x.kind ∧ x.kind ≤ IntKind.i64.max
 n : IntKind.i64.min ≤ x.n ∧ x.n ≤ IntKind.i64.max
 text : x.text.size ≤ maxLen
 loud : IntKind.i64.min ≤ x.loud ∧ x.loud ≤ IntKind.i64.max


theorem Yq4 {e : Y9t} (h : Ypz e) : EvIn e := ⟨h.text, h.prev.1⟩
theorem Yq5 {g : Y9u} (h : Yq0 g) : GIn g := ⟨h.events.1, h.parked.1, fun e he => Yq4 (h.events.2 e he), fun e he => Yq4 (h.parked.2 e he)⟩
theorem Yq6 {h : THub} (k : Yq2 h) : HIn h := ⟨k.rooms.1, fun g hg => Yq5 (k.rooms.2 g hg), k.stream.1⟩
theorem Yq7 {h : THub} (s : Yo8 h) : Yng (toH h) := ⟨by show (h.rooms.map toG).length ≤ _; rw [List.length_map]; exact s.rl, s.sl, fun g hg => by
 obtain ⟨g0, h1, rfl⟩ := List.mem_map.1 hg
 exact Ym0 (s.rg g0 h1).1 (s.rg g0 h1).2⟩

theorem Yq8 (h : THub) (user : Int) (l : List Y9w) (s : Y9v) (hh : Yq2 h) (_ : IntKind.i64.min ≤ user ∧ user ≤ IntKind.i64.max) (hr : l.length ≤ maxLen ∧ ∀ y ∈ l, Yq3 y) (_ : Yq1 s) : Zkv h user l s = some true := by
 unfold Zkv
 obtain ⟨z, z1, z2⟩ := Yoa h 1048576 (Yq6 hh) (by omega) (by omega)
 rw [z1, Wb]
 rcases z2 with ⟨z2, z3, hs⟩ | rfl
 ·
  rw [Wf (by omega), Wv]
  obtain ⟨y, y1, y2⟩ := Ypr l z hr.1 (fun x hx => (hr.2 x hx).text) z2 z3
  rw [y1, Wb]
  rcases y2 with ⟨y2, _, hl⟩ | rfl
  ·
   rw [Wf (by omega), Wv]
   obtain ⟨b, s1, i1⟩ := Ypy (Yq7 hs) user l hl s
   simp [Yod h hs, Yps l hl, Ypt l hl, Z17, s1, i1, Yoh hs]
  ·
   rfl
 ·
  rfl
theorem Yq9 : Y4l Tryz.prog 29 Ya7 Yq1 :=
 Y4l.map (fun g => Y9v.mk g.1 g.2.1) (Y4l.struct (t := 29) (fs := #[_, _]) (by kernel_rfl) (Y4o.cons (f := Field.mk "Room" 2 0 false "" "" 0) (off := 0) (sz := 1) rfl (by kernel_rfl) (Y4l.int (t := 2) (kd := .i64) (by kernel_rfl))
  (Y4o.cons (f := Field.mk "Id" 2 1 false "" "" 8) (off := 1) (sz := 1) rfl (by kernel_rfl) (Y4l.int (t := 2) (kd := .i64) (by kernel_rfl)) Y4o.nil)) (by kernel_rfl)) (fun _ => rfl) (fun g h => ⟨h.1, h.2.1⟩)
theorem Yqa : Y4l Tryz.prog 27 Ya8 Yq3 :=
 Y4l.map (fun g => Y9w.mk g.1 g.2.1 g.2.2.1 g.2.2.2.1) (Y4l.struct (t := 27) (fs := #[_, _, _, _]) (by kernel_rfl) (Y4o.cons (f := Field.mk "Kind" 2 0 false "" "" 0) (off := 0) (sz := 1) rfl (by kernel_rfl) (Y4l.int (t := 2) (kd := .i64) (by kernel_rfl))
  (Y4o.cons (f := Field.mk "N" 2 1 false "" "" 8) (off := 1) (sz := 1) rfl (by kernel_rfl) (Y4l.int (t := 2) (kd := .i64) (by kernel_rfl))
  (Y4o.cons (f := Field.mk "Text" 9 2 false "" "" 16) (off := 2) (sz := 1) rfl (by kernel_rfl) (Y4l.string (t := 9) (by kernel_rfl))
  (Y4o.cons (f := Field.mk "Loud" 2 3 false "" "" 32) (off := 3) (sz := 1) rfl (by kernel_rfl) (Y4l.int (t := 2) (kd := .i64) (by kernel_rfl)) Y4o.nil)))) (by kernel_rfl)) (fun _ => rfl) (fun g h => ⟨h.1, h.2.1, h.2.2.1, h.2.2.2.1⟩)
theorem Yqb : Y4l Tryz.prog 187 Ya5 Ypz :=
 Y4l.map (fun g => Y9t.mk g.1 g.2.1 g.2.2.1 g.2.2.2.1 g.2.2.2.2.1 g.2.2.2.2.2.1 g.2.2.2.2.2.2.1 g.2.2.2.2.2.2.2.1 g.2.2.2.2.2.2.2.2.1) (Y4l.struct (t := 187) (fs := #[_, _, _, _, _, _, _, _, _]) (by kernel_rfl) (Y4o.cons (f := Field.mk "Id" 2 0 false "" "" 0) (off := 0) (sz := 1) rfl (by kernel_rfl) (Y4l.int (t := 2) (kd := .i64) (by kernel_rfl))
  (Y4o.cons (f := Field.mk "Room" 2 1 false "" "" 8) (off := 1) (sz := 1) rfl (by kernel_rfl) (Y4l.int (t := 2) (kd := .i64) (by kernel_rfl))
  (Y4o.cons (f := Field.mk "Author" 2 2 false "" "" 16) (off := 2) (sz := 1) rfl (by kernel_rfl) (Y4l.int (t := 2) (kd := .i64) (by kernel_rfl))
  (Y4o.cons (f := Field.mk "Kind" 2 3 false "" "" 24) (off := 3) (sz := 1) rfl (by kernel_rfl) (Y4l.int (t := 2) (kd := .i64) (by kernel_rfl))
  (Y4o.cons (f := Field.mk "Key" 2 4 false "" "" 32) (off := 4) (sz := 1) rfl (by kernel_rfl) (Y4l.int (t := 2) (kd := .i64) (by kernel_rfl))
  (Y4o.cons (f := Field.mk "N" 2 5 false "" "" 40) (off := 5) (sz := 1) rfl (by kernel_rfl) (Y4l.int (t := 2) (kd := .i64) (by kernel_rfl))
  (Y4o.cons (f := Field.mk "Text" 9 6 false "" "" 48) (off := 6) (sz := 1) rfl (by kernel_rfl) (Y4l.string (t := 9) (by kernel_rfl))
  (Y4o.cons (f := Field.mk "Prev" 44 7 false "" "" 64) (off := 7) (sz := 1) rfl (by kernel_rfl) (Y4l.slice (t := 44) (sz := 1) (k := kI64) (by kernel_rfl) (Y4l.int (t := 2) (kd := .i64) (by kernel_rfl)) (by kernel_rfl) (by decide))
  (Y4o.cons (f := Field.mk "Time" 2 8 false "" "" 88) (off := 8) (sz := 1) rfl (by kernel_rfl) (Y4l.int (t := 2) (kd := .i64) (by kernel_rfl)) Y4o.nil))))))))) (by kernel_rfl)) (fun _ => rfl) (fun g h => ⟨h.1, h.2.1, h.2.2.1, h.2.2.2.1, h.2.2.2.2.1, h.2.2.2.2.2.1, h.2.2.2.2.2.2.1, h.2.2.2.2.2.2.2.1, h.2.2.2.2.2.2.2.2.1⟩)
theorem Yqc : Y4l Tryz.prog 109 Ya6 Yq0 :=
 Y4l.map (fun g => Y9u.mk g.1 g.2.1 g.2.2.1) (Y4l.struct (t := 109) (fs := #[_, _, _]) (by kernel_rfl) (Y4o.cons (f := Field.mk "Room" 2 0 false "" "" 0) (off := 0) (sz := 1) rfl (by kernel_rfl) (Y4l.int (t := 2) (kd := .i64) (by kernel_rfl))
  (Y4o.cons (f := Field.mk "Events" 107 1 false "" "" 8) (off := 1) (sz := 1) rfl (by kernel_rfl) (Y4l.slice (t := 107) (sz := 9) (k := Ya5) (by kernel_rfl) Yqb (by kernel_rfl) (by decide))
  (Y4o.cons (f := Field.mk "Parked" 107 2 false "" "" 32) (off := 2) (sz := 1) rfl (by kernel_rfl) (Y4l.slice (t := 107) (sz := 9) (k := Ya5) (by kernel_rfl) Yqb (by kernel_rfl) (by decide)) Y4o.nil))) (by kernel_rfl)) (fun _ => rfl) (fun g h => ⟨h.1, h.2.1, h.2.2.1⟩)
theorem Yqd : Y4l Tryz.prog 25 kHub Yq2 :=
 Y4l.map (fun g => THub.mk g.1 g.2.1) (Y4l.struct (t := 25) (fs := #[_, _]) (by kernel_rfl) (Y4o.cons (f := Field.mk "Rooms" 22 0 false "" "" 0) (off := 0) (sz := 1) rfl (by kernel_rfl) (Y4l.slice (t := 22) (sz := 3) (k := Ya6) (by kernel_rfl) Yqc (by kernel_rfl) (by decide))
  (Y4o.cons (f := Field.mk "Stream" 23 1 false "" "" 24) (off := 1) (sz := 1) rfl (by kernel_rfl) (Y4l.slice (t := 23) (sz := 2) (k := Ya7) (by kernel_rfl) Yq9 (by kernel_rfl) (by decide)) Y4o.nil)) (by kernel_rfl)) (fun _ => rfl) (fun g h => ⟨h.1, h.2.1⟩)

set_option maxRecDepth 100000 in
theorem Yqe (os : Os) (started : os.Started) (H : Type) (enc : TypeId × Value → H) :
  ReturnsInHanded {} Tryz.checked os 5 .any (fun w args => (Rows.fnExactPushOfSpec.pre enc Tryz.prog Tryz.f5 [] false w args ∧ laidMetH Tryz.prog Rows.fnExactPushOfRow.laid w) ∧ sizedMet enc Tryz.prog Tryz.f5 (OpenSpec.ofChange Rows.fnExactPushOfSpec) false w args) (Rows.fnExactPushOfSpec.post enc Tryz.prog Tryz.f5 false true false false) :=
 Y4v (C := Tryz.checked) (X := fun w _ => laidMetH Tryz.prog Rows.fnExactPushOfRow.laid w) (ts := [25, 2, 57, 29]) (tb := 4) rowA started rowB Tryz.func5
  (rowW os H enc)
  rowC rfl rowD rfl rowE rfl (fun ds h => match ds, h with | [_, _, _, _], _ => rfl)
  (Y4p.consA (t := 25) (fs := #[Field.mk "Rooms" 22 0 false "" "" 0, Field.mk "Stream" 23 1 false "" "" 24]) (by kernel_rfl) Yqd (Y4p.cons (t := 2) (d := .int .i64) (by kernel_rfl) rfl (Y4l.int (t := 2) (kd := .i64) (by kernel_rfl)) (Y4p.cons (t := 57) (d := .slice 27) (by kernel_rfl) rfl (Y4l.slice (t := 57) (sz := 4) (k := Ya8) (by kernel_rfl) Yqa (by kernel_rfl) (by decide)) (Y4p.consA (t := 29) (fs := #[Field.mk "Room" 2 0 false "" "" 0, Field.mk "Id" 2 1 false "" "" 8]) (by kernel_rfl) Yq9 Y4p.nil))))
  (fun g hg => (Zkw g.1 g.2.1 g.2.2.1 g.2.2.2.1).h true (Yq8 g.1 g.2.1 g.2.2.1 g.2.2.2.1 hg.1 hg.2.1 hg.2.2.1 hg.2.2.2.1)) (fun w h q hq => (show q = 0 from hq) ▸ Y9p w h)
theorem fnExactPushOf_holds : Rows.FnExactPushOfCardSaid :=
 rowT (rowS fun os started H enc => Yqe os started H enc)

end Go.Proofs.YtnoknphekhclcaaGreatDoor
