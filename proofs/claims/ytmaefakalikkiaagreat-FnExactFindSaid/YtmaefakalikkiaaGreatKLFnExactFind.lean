/- FnExactFind: for every hub, user and word the law returns true; no condition. -/
import Derived.Test.YtmaefakalikkiaaGreatKJF
import Derived.Test.YtmaefakalikkiaaGreatKS
import Derived.Test.YtmaefakalikkiaaGreatRows
set_option autoImplicit false
set_option linter.unusedVariables false
set_option linter.unusedSimpArgs false
namespace Go.Proofs.YtmaefakalikkiaaGreat
open Go Go.Abs

structure Ypm (x : Y9v) : Prop where
 id : IntKind.i64.min ≤ x.id ∧ x.id ≤ IntKind.i64.max
 room : IntKind.i64.min ≤ x.room ∧ x.room ≤ IntKind.i64.max
 author : IntKind.i64.min ≤ x.author ∧ x.author ≤ IntKind.i64.max
 kind : IntKind.i64.min ≤ x.kind ∧ x.kind ≤ IntKind.i64.max
 key : IntKind.i64.min ≤ x.key ∧ x.key ≤ IntKind.i64.max
 n : IntKind.i64.min ≤ x.n ∧ x.n ≤ IntKind.i64.max
 text : x.text.size ≤ maxLen
 prev : x.prev.length ≤ maxLen ∧ ∀ y ∈ x.prev, (IntKind.i64.min ≤ y ∧ y ≤ IntKind.i64.max)
 time : IntKind.i64.min ≤ x.time ∧ x.time ≤ IntKind.i64.max
structure Ypn (x : Y9w) : Prop where
 room : IntKind.i64.min ≤ x.room ∧ x.room ≤ IntKind.i64.max
 events : x.events.length ≤ maxLen ∧ ∀ y ∈ x.events, Ypm y
 parked : x.parked.length ≤ maxLen ∧ ∀ y ∈ x.parked, Ypm y
structure Ypo (x : Y9x) : Prop where
 room : IntKind.i64.min ≤ x.room ∧ x.room ≤ IntKind.i64.max
 id : IntKind.i64.min ≤ x.id ∧ x.id ≤ IntKind.i64.max
structure Ypp (x : THub) : Prop where
 rooms : x.rooms.length ≤ maxLen ∧ ∀ y ∈ x.rooms, Ypn y
 stream : x.stream.length ≤ maxLen ∧ ∀ y ∈ x.stream, Ypo y


theorem Ypq {e : Y9v} (h : Ypm e) : EvIn e := ⟨h.text, h.prev.1⟩
theorem Ypr {g : Y9w} (h : Ypn g) : GIn g := ⟨h.events.1, h.parked.1, fun e he => Ypq (h.events.2 e he), fun e he => Ypq (h.parked.2 e he)⟩
theorem Yps {h : THub} (k : Ypp h) : HIn h := ⟨k.rooms.1, fun g hg => Ypr (k.rooms.2 g hg), k.stream.1⟩
theorem Ypt {h : THub} (s : Yo5 h) : Ync (toH h) := ⟨by show (h.rooms.map toG).length ≤ _; rw [List.length_map]; exact s.rl, s.sl, fun g hg => by
 obtain ⟨g0, h1, rfl⟩ := List.mem_map.1 hg
 exact Ylp (s.rg g0 h1).1 (s.rg g0 h1).2⟩
theorem Ypu (l : List Y9x) : wtG wSp l = 2 * l.length := by
 induction l with
 | nil => rfl
 | cons x l ih => rw [Yo3, ih, List.length_cons]; show 2 + _ = _; omega

theorem Ypv (h : THub) (user : Int) (word : ByteArray) (hh : Ypp h) (_ : IntKind.i64.min ≤ user ∧ user ≤ IntKind.i64.max) (_ : word.size ≤ maxLen) : Zjs h user word = some true := by
 unfold Zjs
 by_cases hw : (word.size : Int) > 1048576
 ·
  rw [Wt hw]; rfl
 rw [Wf hw, Wv]
 obtain ⟨z, z1, z2⟩ := Yo7 h 1048576 (Yps hh) (by omega) (by omega)
 rw [z1, Wb]
 rcases z2 with ⟨z2, _, hs⟩ | rfl
 ·
  rw [Wf (by omega), Wv]
  obtain ⟨v, s1, i1, vl⟩ := Ypl (Ypt hs) user word (by omega)
  obtain ⟨m, m1, m2, _⟩ := Yoh hs 1 (by omega) (by omega)
  have hv := Ypu v
  have q1 := Ypa v 1 (by omega) (by omega) (by omega)
  have q2 := Ypb v 1 (by omega) (by omega) (by omega)
  have e1 := Yoc v (by omega)
  have e2 : decide (m.1 < 0) = false := Wf (by omega)
  have e3 : decide ((1 : Int) + (wtG wSp v : Nat) < 0) = false := Wf (by omega)
  simp [Yoa h hs, s1, i1, e1, Yoe hs, m1, e2, Zjr, q1, q2, e3]
 ·
  rfl
theorem Ypw : Y4l Tryz.prog 303 Ya8 Ypo :=
 Y4l.map (fun g => Y9x.mk g.1 g.2.1) (Y4l.struct (t := 303) (fs := #[_, _]) (by kernel_rfl) (Y4o.cons (f := Field.mk "Room" 2 0 false "" "" 0) (off := 0) (sz := 1) rfl (by kernel_rfl) (Y4l.int (t := 2) (kd := .i64) (by kernel_rfl))
  (Y4o.cons (f := Field.mk "Id" 2 1 false "" "" 8) (off := 1) (sz := 1) rfl (by kernel_rfl) (Y4l.int (t := 2) (kd := .i64) (by kernel_rfl)) Y4o.nil)) (by kernel_rfl)) (fun _ => rfl) (fun g h => ⟨h.1, h.2.1⟩)
theorem Ypx : Y4l Tryz.prog 372 Ya6 Ypm :=
 Y4l.map (fun g => Y9v.mk g.1 g.2.1 g.2.2.1 g.2.2.2.1 g.2.2.2.2.1 g.2.2.2.2.2.1 g.2.2.2.2.2.2.1 g.2.2.2.2.2.2.2.1 g.2.2.2.2.2.2.2.2.1) (Y4l.struct (t := 372) (fs := #[_, _, _, _, _, _, _, _, _]) (by kernel_rfl) (Y4o.cons (f := Field.mk "Id" 2 0 false "" "" 0) (off := 0) (sz := 1) rfl (by kernel_rfl) (Y4l.int (t := 2) (kd := .i64) (by kernel_rfl))
  (Y4o.cons (f := Field.mk "Room" 2 1 false "" "" 8) (off := 1) (sz := 1) rfl (by kernel_rfl) (Y4l.int (t := 2) (kd := .i64) (by kernel_rfl))
  (Y4o.cons (f := Field.mk "Author" 2 2 false "" "" 16) (off := 2) (sz := 1) rfl (by kernel_rfl) (Y4l.int (t := 2) (kd := .i64) (by kernel_rfl))
  (Y4o.cons (f := Field.mk "Kind" 2 3 false "" "" 24) (off := 3) (sz := 1) rfl (by kernel_rfl) (Y4l.int (t := 2) (kd := .i64) (by kernel_rfl))
  (Y4o.cons (f := Field.mk "Key" 2 4 false "" "" 32) (off := 4) (sz := 1) rfl (by kernel_rfl) (Y4l.int (t := 2) (kd := .i64) (by kernel_rfl))
  (Y4o.cons (f := Field.mk "N" 2 5 false "" "" 40) (off := 5) (sz := 1) rfl (by kernel_rfl) (Y4l.int (t := 2) (kd := .i64) (by kernel_rfl))
  (Y4o.cons (f := Field.mk "Text" 9 6 false "" "" 48) (off := 6) (sz := 1) rfl (by kernel_rfl) (Y4l.string (t := 9) (by kernel_rfl))
  (Y4o.cons (f := Field.mk "Prev" 39 7 false "" "" 64) (off := 7) (sz := 1) rfl (by kernel_rfl) (Y4l.slice (t := 39) (sz := 1) (k := kI64) (by kernel_rfl) (Y4l.int (t := 2) (kd := .i64) (by kernel_rfl)) (by kernel_rfl) (by decide))
  (Y4o.cons (f := Field.mk "Time" 2 8 false "" "" 88) (off := 8) (sz := 1) rfl (by kernel_rfl) (Y4l.int (t := 2) (kd := .i64) (by kernel_rfl)) Y4o.nil))))))))) (by kernel_rfl)) (fun _ => rfl) (fun g h => ⟨h.1, h.2.1, h.2.2.1, h.2.2.2.1, h.2.2.2.2.1, h.2.2.2.2.2.1, h.2.2.2.2.2.2.1, h.2.2.2.2.2.2.2.1, h.2.2.2.2.2.2.2.2.1⟩)
theorem Ypy : Y4l Tryz.prog 297 Ya7 Ypn :=
 Y4l.map (fun g => Y9w.mk g.1 g.2.1 g.2.2.1) (Y4l.struct (t := 297) (fs := #[_, _, _]) (by kernel_rfl) (Y4o.cons (f := Field.mk "Room" 2 0 false "" "" 0) (off := 0) (sz := 1) rfl (by kernel_rfl) (Y4l.int (t := 2) (kd := .i64) (by kernel_rfl))
  (Y4o.cons (f := Field.mk "Events" 295 1 false "" "" 8) (off := 1) (sz := 1) rfl (by kernel_rfl) (Y4l.slice (t := 295) (sz := 9) (k := Ya6) (by kernel_rfl) Ypx (by kernel_rfl) (by decide))
  (Y4o.cons (f := Field.mk "Parked" 295 2 false "" "" 32) (off := 2) (sz := 1) rfl (by kernel_rfl) (Y4l.slice (t := 295) (sz := 9) (k := Ya6) (by kernel_rfl) Ypx (by kernel_rfl) (by decide)) Y4o.nil))) (by kernel_rfl)) (fun _ => rfl) (fun g h => ⟨h.1, h.2.1, h.2.2.1⟩)
theorem Ypz : Y4l Tryz.prog 77 kHub Ypp :=
 Y4l.map (fun g => THub.mk g.1 g.2.1) (Y4l.struct (t := 77) (fs := #[_, _]) (by kernel_rfl) (Y4o.cons (f := Field.mk "Rooms" 74 0 false "" "" 0) (off := 0) (sz := 1) rfl (by kernel_rfl) (Y4l.slice (t := 74) (sz := 3) (k := Ya7) (by kernel_rfl) Ypy (by kernel_rfl) (by decide))
  (Y4o.cons (f := Field.mk "Stream" 75 1 false "" "" 24) (off := 1) (sz := 1) rfl (by kernel_rfl) (Y4l.slice (t := 75) (sz := 2) (k := Ya8) (by kernel_rfl) Ypw (by kernel_rfl) (by decide)) Y4o.nil)) (by kernel_rfl)) (fun _ => rfl) (fun g h => ⟨h.1, h.2.1⟩)

set_option maxRecDepth 100000 in
theorem Yq0 (os : Os) (started : os.Started) (H : Type) (enc : TypeId × Value → H) :
  ReturnsInHanded {} Tryz.checked os 6 .any (Rows.fnExactFindSpec.pre6 enc Tryz.prog Tryz.f6 Rows.fnExactFindRow.domain false) (Rows.fnExactFindSpec.post enc Tryz.prog Tryz.f6 false true false false) :=
 Y4u (C := Tryz.checked) (ts := [77, 2, 9]) (tb := 4) rowA started rowB Tryz.func6
  (rowW os H enc)
  rowC rfl rowD rfl rowE rfl (fun ds h => match ds, h with | [_, _, _], _ => rfl)
  (Y4p.consA (t := 77) (fs := #[Field.mk "Rooms" 74 0 false "" "" 0, Field.mk "Stream" 75 1 false "" "" 24]) (by kernel_rfl) Ypz (Y4p.cons (t := 2) (d := .int .i64) (by kernel_rfl) rfl (Y4l.int (t := 2) (kd := .i64) (by kernel_rfl)) (Y4p.cons (t := 9) (d := .string) (by kernel_rfl) rfl (Y4l.string (t := 9) (by kernel_rfl)) Y4p.nil)))
  (fun g hg => (Zjt g.1 g.2.1 g.2.2.1).h true (Ypv g.1 g.2.1 g.2.2.1 hg.1 hg.2.1 hg.2.2.1)) (fun w h q hq => (show q = 0 from hq) ▸ Y9u w h)

theorem fnExactFind_holds : Rows.FnExactFindSaid :=
 rowS fun os started H enc => Yq0 os started H enc

end Go.Proofs.YtmaefakalikkiaaGreat
