/- FnExactPushCount: for every hub, marks, rules, room and loudness the law returns true; no condition. -/
import Derived.Test.YtnoknphekhclcaaGreatDoorEJH
import Derived.Test.YtnoknphekhclcaaGreatDoorRows
import Derived.Test.YtnoknphekhclcaaGreatDoorERS
import Derived.Test.YtnoknphekhclcaaGreatDoorERT
set_option autoImplicit false
set_option linter.unusedVariables false
set_option linter.unusedSimpArgs false
namespace Go.Proofs.YtnoknphekhclcaaGreatDoor
open Go Go.Abs

structure Yqs (x : Y9t) : Prop where
 id : IntKind.i64.min ≤ x.id ∧ x.id ≤ IntKind.i64.max
 room : IntKind.i64.min ≤ x.room ∧ x.room ≤ IntKind.i64.max
 author : IntKind.i64.min ≤ x.author ∧ x.author ≤ IntKind.i64.max
 kind : IntKind.i64.min ≤ x.kind ∧ x.kind ≤ IntKind.i64.max
 key : IntKind.i64.min ≤ x.key ∧ x.key ≤ IntKind.i64.max
 n : IntKind.i64.min ≤ x.n ∧ x.n ≤ IntKind.i64.max
 text : x.text.size ≤ maxLen
 prev : x.prev.length ≤ maxLen ∧ ∀ y ∈ x.prev, (IntKind.i64.min ≤ y ∧ y ≤ IntKind.i64.max)
 time : IntKind.i64.min ≤ x.time ∧ x.time ≤ IntKind.i64.max
structure Yqt (x : Y9u) : Prop where
 room : IntKind.i64.min ≤ x.room ∧ x.room ≤ IntKind.i64.max
 events : x.events.length ≤ maxLen ∧ ∀ y ∈ x.events, Yqs y
 parked : x.parked.length ≤ maxLen ∧ ∀ y ∈ x.parked, Yqs y
structure Yqu (x : Y9v) : Prop where
 room : IntKind.i64.min ≤ x.room ∧ x.room ≤ IntKind.i64.max
 id : IntKind.i64.min ≤ x.id ∧ x.id ≤ IntKind.i64.max
structure Yqv (x : THub) : Prop where
 rooms : x.rooms.length ≤ maxLen ∧ ∀ y ∈ x.rooms, Yqt y
 stream : x.stream.length ≤ maxLen ∧ ∀ y ∈ x.stream, Yqu y
structure Yqw (x : Y9w) : Prop where
 user : IntKind.i64.min ≤ x.user ∧ x.user ≤ IntKind.i64.max
 at_ : x.at_.length ≤ maxLen ∧ ∀ y ∈ x.at_, (IntKind.i64.min ≤ y ∧ y ≤ IntKind.i64.max)
structure Yqx (x : Y9x) : Prop where
 kind : IntKind.i64.min ≤ x.kind ∧ x.kind ≤ IntKind.i64.max
 n : IntKind.i64.min ≤ x.n ∧ x.n ≤ IntKind.i64.max
 text : x.text.size ≤ maxLen
 loud : IntKind.i64.min ≤ x.loud ∧ x.loud ≤ IntKind.i64.max


theorem Yqy {e : Y9t} (h : Yqs e) : EvIn e := ⟨h.text, h.prev.1⟩
theorem Yqz {g : Y9u} (h : Yqt g) : GIn g := ⟨h.events.1, h.parked.1, fun e he => Yqy (h.events.2 e he), fun e he => Yqy (h.parked.2 e he)⟩
theorem Yr0 {h : THub} (k : Yqv h) : HIn h := ⟨k.rooms.1, fun g hg => Yqz (k.rooms.2 g hg), k.stream.1⟩
theorem Yr1 {h : THub} (s : Yoj h) : Ynr (toH h) := ⟨by show (h.rooms.map toG).length ≤ _; rw [List.length_map]; exact s.rl, s.sl, fun g hg => by
 obtain ⟨g0, h1, rfl⟩ := List.mem_map.1 hg
 exact Ymb (s.rg g0 h1).1 (s.rg g0 h1).2⟩

theorem Yr2 (h : THub) (m : Y9w) (l : List Y9x) (r loud : Int) (hh : Yqv h) (hm : Yqw m) (hr : l.length ≤ maxLen ∧ ∀ y ∈ l, Yqx y) (_ : IntKind.i64.min ≤ r ∧ r ≤ IntKind.i64.max) (_ : IntKind.i64.min ≤ loud ∧ loud ≤ IntKind.i64.max) : Zmh h m l r loud = some true := by
 unfold Zmh
 obtain ⟨z, z1, z2⟩ := Yol h 1048576 (Yr0 hh) (by omega) (by omega)
 rw [z1, Wb]
 rcases z2 with ⟨z2, z3, hs⟩ | rfl
 ·
  rw [Wf (by omega), Wv]
  obtain ⟨y, y1, y2⟩ := Ypc m z hm.at_.1 z2 z3
  rw [y1, Wb]
  rcases y2 with ⟨y2, y3, hml⟩ | rfl
  ·
   rw [Wf (by omega), Wv]
   obtain ⟨x, x1, x2⟩ := Yqg l y hr.1 (fun x hx => (hr.2 x hx).text) y2 (by omega)
   rw [x1, Wb]
   rcases x2 with ⟨x2, _, hl⟩ | rfl
   ·
    rw [Wf (by omega), Wv]
    obtain ⟨b, s1, i1⟩ := Yqr (Yr1 hs) m hml l hl r loud
    simp [Yoo h hs, Ypd m hml, Yqh l hl, Yqi l hl, Ype m hml, s1, i1, Yos hs]
   ·
    rfl
  ·
   rfl
 ·
  rfl
theorem Yr3 : Y4l Tryz.prog 27 Ya9 Yqx :=
 Y4l.map (fun g => Y9x.mk g.1 g.2.1 g.2.2.1 g.2.2.2.1) (Y4l.struct (t := 27) (fs := #[_, _, _, _]) (by kernel_rfl) (Y4o.cons (f := Field.mk "Kind" 2 0 false "" "" 0) (off := 0) (sz := 1) rfl (by kernel_rfl) (Y4l.int (t := 2) (kd := .i64) (by kernel_rfl))
  (Y4o.cons (f := Field.mk "N" 2 1 false "" "" 8) (off := 1) (sz := 1) rfl (by kernel_rfl) (Y4l.int (t := 2) (kd := .i64) (by kernel_rfl))
  (Y4o.cons (f := Field.mk "Text" 9 2 false "" "" 16) (off := 2) (sz := 1) rfl (by kernel_rfl) (Y4l.string (t := 9) (by kernel_rfl))
  (Y4o.cons (f := Field.mk "Loud" 2 3 false "" "" 32) (off := 3) (sz := 1) rfl (by kernel_rfl) (Y4l.int (t := 2) (kd := .i64) (by kernel_rfl)) Y4o.nil)))) (by kernel_rfl)) (fun _ => rfl) (fun g h => ⟨h.1, h.2.1, h.2.2.1, h.2.2.2.1⟩)
theorem Yr4 : Y4l Tryz.prog 46 Yas Yqw :=
 Y4l.map (fun g => Y9w.mk g.1 g.2.1) (Y4l.struct (t := 46) (fs := #[_, _]) (by kernel_rfl) (Y4o.cons (f := Field.mk "User" 2 0 false "" "" 0) (off := 0) (sz := 1) rfl (by kernel_rfl) (Y4l.int (t := 2) (kd := .i64) (by kernel_rfl))
  (Y4o.cons (f := Field.mk "At" 44 1 false "" "" 8) (off := 1) (sz := 1) rfl (by kernel_rfl) (Y4l.slice (t := 44) (sz := 1) (k := kI64) (by kernel_rfl) (Y4l.int (t := 2) (kd := .i64) (by kernel_rfl)) (by kernel_rfl) (by decide)) Y4o.nil)) (by kernel_rfl)) (fun _ => rfl) (fun g h => ⟨h.1, h.2.1⟩)
theorem Yr5 : Y4l Tryz.prog 29 Ya8 Yqu :=
 Y4l.map (fun g => Y9v.mk g.1 g.2.1) (Y4l.struct (t := 29) (fs := #[_, _]) (by kernel_rfl) (Y4o.cons (f := Field.mk "Room" 2 0 false "" "" 0) (off := 0) (sz := 1) rfl (by kernel_rfl) (Y4l.int (t := 2) (kd := .i64) (by kernel_rfl))
  (Y4o.cons (f := Field.mk "Id" 2 1 false "" "" 8) (off := 1) (sz := 1) rfl (by kernel_rfl) (Y4l.int (t := 2) (kd := .i64) (by kernel_rfl)) Y4o.nil)) (by kernel_rfl)) (fun _ => rfl) (fun g h => ⟨h.1, h.2.1⟩)
theorem Yr6 : Y4l Tryz.prog 187 Ya6 Yqs :=
 Y4l.map (fun g => Y9t.mk g.1 g.2.1 g.2.2.1 g.2.2.2.1 g.2.2.2.2.1 g.2.2.2.2.2.1 g.2.2.2.2.2.2.1 g.2.2.2.2.2.2.2.1 g.2.2.2.2.2.2.2.2.1) (Y4l.struct (t := 187) (fs := #[_, _, _, _, _, _, _, _, _]) (by kernel_rfl) (Y4o.cons (f := Field.mk "Id" 2 0 false "" "" 0) (off := 0) (sz := 1) rfl (by kernel_rfl) (Y4l.int (t := 2) (kd := .i64) (by kernel_rfl))
  (Y4o.cons (f := Field.mk "Room" 2 1 false "" "" 8) (off := 1) (sz := 1) rfl (by kernel_rfl) (Y4l.int (t := 2) (kd := .i64) (by kernel_rfl))
  (Y4o.cons (f := Field.mk "Author" 2 2 false "" "" 16) (off := 2) (sz := 1) rfl (by kernel_rfl) (Y4l.int (t := 2) (kd := .i64) (by kernel_rfl))
  (Y4o.cons (f := Field.mk "Kind" 2 3 false "" "" 24) (off := 3) (sz := 1) rfl (by kernel_rfl) (Y4l.int (t := 2) (kd := .i64) (by kernel_rfl))
  (Y4o.cons (f := Field.mk "Key" 2 4 false "" "" 32) (off := 4) (sz := 1) rfl (by kernel_rfl) (Y4l.int (t := 2) (kd := .i64) (by kernel_rfl))
  (Y4o.cons (f := Field.mk "N" 2 5 false "" "" 40) (off := 5) (sz := 1) rfl (by kernel_rfl) (Y4l.int (t := 2) (kd := .i64) (by kernel_rfl))
  (Y4o.cons (f := Field.mk "Text" 9 6 false "" "" 48) (off := 6) (sz := 1) rfl (by kernel_rfl) (Y4l.string (t := 9) (by kernel_rfl))
  (Y4o.cons (f := Field.mk "Prev" 44 7 false "" "" 64) (off := 7) (sz := 1) rfl (by kernel_rfl) (Y4l.slice (t := 44) (sz := 1) (k := kI64) (by kernel_rfl) (Y4l.int (t := 2) (kd := .i64) (by kernel_rfl)) (by kernel_rfl) (by decide))
  (Y4o.cons (f := Field.mk "Time" 2 8 false "" "" 88) (off := 8) (sz := 1) rfl (by kernel_rfl) (Y4l.int (t := 2) (kd := .i64) (by kernel_rfl)) Y4o.nil))))))))) (by kernel_rfl)) (fun _ => rfl) (fun g h => ⟨h.1, h.2.1, h.2.2.1, h.2.2.2.1, h.2.2.2.2.1, h.2.2.2.2.2.1, h.2.2.2.2.2.2.1, h.2.2.2.2.2.2.2.1, h.2.2.2.2.2.2.2.2.1⟩)
theorem Yr7 : Y4l Tryz.prog 109 Ya7 Yqt :=
 Y4l.map (fun g => Y9u.mk g.1 g.2.1 g.2.2.1) (Y4l.struct (t := 109) (fs := #[_, _, _]) (by kernel_rfl) (Y4o.cons (f := Field.mk "Room" 2 0 false "" "" 0) (off := 0) (sz := 1) rfl (by kernel_rfl) (Y4l.int (t := 2) (kd := .i64) (by kernel_rfl))
  (Y4o.cons (f := Field.mk "Events" 107 1 false "" "" 8) (off := 1) (sz := 1) rfl (by kernel_rfl) (Y4l.slice (t := 107) (sz := 9) (k := Ya6) (by kernel_rfl) Yr6 (by kernel_rfl) (by decide))
  (Y4o.cons (f := Field.mk "Parked" 107 2 false "" "" 32) (off := 2) (sz := 1) rfl (by kernel_rfl) (Y4l.slice (t := 107) (sz := 9) (k := Ya6) (by kernel_rfl) Yr6 (by kernel_rfl) (by decide)) Y4o.nil))) (by kernel_rfl)) (fun _ => rfl) (fun g h => ⟨h.1, h.2.1, h.2.2.1⟩)
theorem Yr8 : Y4l Tryz.prog 25 kHub Yqv :=
 Y4l.map (fun g => THub.mk g.1 g.2.1) (Y4l.struct (t := 25) (fs := #[_, _]) (by kernel_rfl) (Y4o.cons (f := Field.mk "Rooms" 22 0 false "" "" 0) (off := 0) (sz := 1) rfl (by kernel_rfl) (Y4l.slice (t := 22) (sz := 3) (k := Ya7) (by kernel_rfl) Yr7 (by kernel_rfl) (by decide))
  (Y4o.cons (f := Field.mk "Stream" 23 1 false "" "" 24) (off := 1) (sz := 1) rfl (by kernel_rfl) (Y4l.slice (t := 23) (sz := 2) (k := Ya8) (by kernel_rfl) Yr5 (by kernel_rfl) (by decide)) Y4o.nil)) (by kernel_rfl)) (fun _ => rfl) (fun g h => ⟨h.1, h.2.1⟩)

set_option maxRecDepth 100000 in
theorem Yr9 (os : Os) (started : os.Started) (H : Type) (enc : TypeId × Value → H) :
  ReturnsInHanded {} Tryz.checked os 6 .any (fun w args => (Rows.fnExactPushCountSpec.pre enc Tryz.prog Tryz.f6 [] false w args ∧ laidMetH Tryz.prog Rows.fnExactPushCountRow.laid w) ∧ sizedMet enc Tryz.prog Tryz.f6 (OpenSpec.ofChange Rows.fnExactPushCountSpec) false w args) (Rows.fnExactPushCountSpec.post enc Tryz.prog Tryz.f6 false true false false) :=
 Y4v (C := Tryz.checked) (X := fun w _ => laidMetH Tryz.prog Rows.fnExactPushCountRow.laid w) (ts := [25, 46, 57, 2, 2]) (tb := 4) rowA started rowB Tryz.func6
  (rowW os H enc)
  rowC rfl rowD rfl rowE rfl (fun ds h => match ds, h with | [_, _, _, _, _], _ => rfl)
  (Y4p.consA (t := 25) (fs := #[Field.mk "Rooms" 22 0 false "" "" 0, Field.mk "Stream" 23 1 false "" "" 24]) (by kernel_rfl) Yr8 (Y4p.consA (t := 46) (fs := #[Field.mk "User" 2 0 false "" "" 0, Field.mk "At" 44 1 false "" "" 8]) (by kernel_rfl) Yr4 (Y4p.cons (t := 57) (d := .slice 27) (by kernel_rfl) rfl (Y4l.slice (t := 57) (sz := 4) (k := Ya9) (by kernel_rfl) Yr3 (by kernel_rfl) (by decide)) (Y4p.cons (t := 2) (d := .int .i64) (by kernel_rfl) rfl (Y4l.int (t := 2) (kd := .i64) (by kernel_rfl)) (Y4p.cons (t := 2) (d := .int .i64) (by kernel_rfl) rfl (Y4l.int (t := 2) (kd := .i64) (by kernel_rfl)) Y4p.nil)))))
  (fun g hg => (Zmi g.1 g.2.1 g.2.2.1 g.2.2.2.1 g.2.2.2.2.1).h true (Yr2 g.1 g.2.1 g.2.2.1 g.2.2.2.1 g.2.2.2.2.1 hg.1 hg.2.1 hg.2.2.1 hg.2.2.2.1 hg.2.2.2.2.1)) (fun w h q hq => (show q = 0 from hq) ▸ Y9p w h)
theorem fnExactPushCount_holds : Rows.FnExactPushCountCardSaid :=
 rowT (rowS fun os started H enc => Yr9 os started H enc)

end Go.Proofs.YtnoknphekhclcaaGreatDoor
