/- FnExactUnread: for every hub, marks and room the law returns true; no condition. -/
import Derived.Test.YtbgichfjcnibpaaGreatFHM
import Derived.Test.YtbgichfjcnibpaaGreatRows
set_option autoImplicit false
set_option linter.unusedVariables false
set_option linter.unusedSimpArgs false
namespace Go.Proofs.YtbgichfjcnibpaaGreat
open Go Go.Abs

structure Ynl (x : Y8h) : Prop where
 id : IntKind.i64.min ≤ x.id ∧ x.id ≤ IntKind.i64.max
 room : IntKind.i64.min ≤ x.room ∧ x.room ≤ IntKind.i64.max
 author : IntKind.i64.min ≤ x.author ∧ x.author ≤ IntKind.i64.max
 kind : IntKind.i64.min ≤ x.kind ∧ x.kind ≤ IntKind.i64.max
 key : IntKind.i64.min ≤ x.key ∧ x.key ≤ IntKind.i64.max
 n : IntKind.i64.min ≤ x.n ∧ x.n ≤ IntKind.i64.max
 text : x.text.size ≤ maxLen
 prev : x.prev.length ≤ maxLen ∧ ∀ y ∈ x.prev, (IntKind.i64.min ≤ y ∧ y ≤ IntKind.i64.max)
 time : IntKind.i64.min ≤ x.time ∧ x.time ≤ IntKind.i64.max
structure Ynm (x : Y8i) : Prop where
 room : IntKind.i64.min ≤ x.room ∧ x.room ≤ IntKind.i64.max
 events : x.events.length ≤ maxLen ∧ ∀ y ∈ x.events, Ynl y
 parked : x.parked.length ≤ maxLen ∧ ∀ y ∈ x.parked, Ynl y
structure Ynn (x : Y8j) : Prop where
 room : IntKind.i64.min ≤ x.room ∧ x.room ≤ IntKind.i64.max
 id : IntKind.i64.min ≤ x.id ∧ x.id ≤ IntKind.i64.max
structure Yno (x : THub) : Prop where
 rooms : x.rooms.length ≤ maxLen ∧ ∀ y ∈ x.rooms, Ynm y
 stream : x.stream.length ≤ maxLen ∧ ∀ y ∈ x.stream, Ynn y
structure Ynp (x : Y8k) : Prop where
 user : IntKind.i64.min ≤ x.user ∧ x.user ≤ IntKind.i64.max
 at_ : x.at_.length ≤ maxLen ∧ ∀ y ∈ x.at_, (IntKind.i64.min ≤ y ∧ y ≤ IntKind.i64.max)


theorem Ynq {e : Y8h} (h : Ynl e) : EvIn e := ⟨h.text, h.prev.1⟩
theorem Ynr {g : Y8i} (h : Ynm g) : GIn g := ⟨h.events.1, h.parked.1, fun e he => Ynq (h.events.2 e he), fun e he => Ynq (h.parked.2 e he)⟩
theorem Yns {h : THub} (k : Yno h) : HIn h := ⟨k.rooms.1, fun g hg => Ynr (k.rooms.2 g hg), k.stream.1⟩
theorem Ynt {h : THub} (s : Yme h) : Ylm (toH h) := ⟨by show (h.rooms.map toG).length ≤ _; rw [List.length_map]; exact s.rl, s.sl, fun g hg => by
 obtain ⟨g0, h1, rfl⟩ := List.mem_map.1 hg
 exact Yk6 (s.rg g0 h1).1 (s.rg g0 h1).2⟩

theorem Ynu (h : THub) (m : Y8k) (r : Int) (hh : Yno h) (hm : Ynp m) (_ : IntKind.i64.min ≤ r ∧ r ≤ IntKind.i64.max) : Zju h m r = some true := by
 unfold Zju
 obtain ⟨z, z1, z2⟩ := Ymg h 1048576 (Yns hh) (by omega) (by omega)
 rw [z1, Wb]
 rcases z2 with ⟨z2, z3, hs⟩ | rfl
 ·
  rw [Wf (by omega), Wv]
  obtain ⟨y, y1, y2⟩ := Yn7 m z hm.at_.1 z2 z3
  rw [y1, Wb]
  rcases y2 with ⟨y2, _, hml⟩ | rfl
  ·
   rw [Wf (by omega), Wv]
   obtain ⟨o, s1, i1⟩ := Ynk (Ynt hs) m hml r
   simp [Ymj h hs, Yn8 m hml, s1, i1, Ymn hs, Yn9 m hml]
  ·
   rfl
 ·
  rfl
def Ynv (x : Y8k) : List C := [C.int x.user, C.im kI64 1 x.at_]
theorem Ynw : Y46 Tryz.prog 62 Ynv Ynp :=
 Y46.map (fun g => Y8k.mk g.1 g.2.1) (Y46.struct (t := 62) (fs := #[_, _]) (by kernel_rfl) (Y49.cons (f := Field.mk "User" 2 0 false "" "" 0) (off := 0) (sz := 1) rfl (by kernel_rfl) (Y46.int (t := 2) (kd := .i64) (by kernel_rfl))
  (Y49.cons (f := Field.mk "At" 57 1 false "" "" 8) (off := 1) (sz := 1) rfl (by kernel_rfl) (Y46.slice (t := 57) (sz := 1) (k := kI64) (by kernel_rfl) (Y46.int (t := 2) (kd := .i64) (by kernel_rfl)) (by kernel_rfl) (by decide)) Y49.nil)) (by kernel_rfl)) (fun _ => rfl) (fun g h => ⟨h.1, h.2.1⟩)
theorem Ynx : Y46 Tryz.prog 185 Y8v Ynn :=
 Y46.map (fun g => Y8j.mk g.1 g.2.1) (Y46.struct (t := 185) (fs := #[_, _]) (by kernel_rfl) (Y49.cons (f := Field.mk "Room" 2 0 false "" "" 0) (off := 0) (sz := 1) rfl (by kernel_rfl) (Y46.int (t := 2) (kd := .i64) (by kernel_rfl))
  (Y49.cons (f := Field.mk "Id" 2 1 false "" "" 8) (off := 1) (sz := 1) rfl (by kernel_rfl) (Y46.int (t := 2) (kd := .i64) (by kernel_rfl)) Y49.nil)) (by kernel_rfl)) (fun _ => rfl) (fun g h => ⟨h.1, h.2.1⟩)
theorem Yny : Y46 Tryz.prog 273 Y8t Ynl :=
 Y46.map (fun g => Y8h.mk g.1 g.2.1 g.2.2.1 g.2.2.2.1 g.2.2.2.2.1 g.2.2.2.2.2.1 g.2.2.2.2.2.2.1 g.2.2.2.2.2.2.2.1 g.2.2.2.2.2.2.2.2.1) (Y46.struct (t := 273) (fs := #[_, _, _, _, _, _, _, _, _]) (by kernel_rfl) (Y49.cons (f := Field.mk "Id" 2 0 false "" "" 0) (off := 0) (sz := 1) rfl (by kernel_rfl) (Y46.int (t := 2) (kd := .i64) (by kernel_rfl))
  (Y49.cons (f := Field.mk "Room" 2 1 false "" "" 8) (off := 1) (sz := 1) rfl (by kernel_rfl) (Y46.int (t := 2) (kd := .i64) (by kernel_rfl))
  (Y49.cons (f := Field.mk "Author" 2 2 false "" "" 16) (off := 2) (sz := 1) rfl (by kernel_rfl) (Y46.int (t := 2) (kd := .i64) (by kernel_rfl))
  (Y49.cons (f := Field.mk "Kind" 2 3 false "" "" 24) (off := 3) (sz := 1) rfl (by kernel_rfl) (Y46.int (t := 2) (kd := .i64) (by kernel_rfl))
  (Y49.cons (f := Field.mk "Key" 2 4 false "" "" 32) (off := 4) (sz := 1) rfl (by kernel_rfl) (Y46.int (t := 2) (kd := .i64) (by kernel_rfl))
  (Y49.cons (f := Field.mk "N" 2 5 false "" "" 40) (off := 5) (sz := 1) rfl (by kernel_rfl) (Y46.int (t := 2) (kd := .i64) (by kernel_rfl))
  (Y49.cons (f := Field.mk "Text" 9 6 false "" "" 48) (off := 6) (sz := 1) rfl (by kernel_rfl) (Y46.string (t := 9) (by kernel_rfl))
  (Y49.cons (f := Field.mk "Prev" 57 7 false "" "" 64) (off := 7) (sz := 1) rfl (by kernel_rfl) (Y46.slice (t := 57) (sz := 1) (k := kI64) (by kernel_rfl) (Y46.int (t := 2) (kd := .i64) (by kernel_rfl)) (by kernel_rfl) (by decide))
  (Y49.cons (f := Field.mk "Time" 2 8 false "" "" 88) (off := 8) (sz := 1) rfl (by kernel_rfl) (Y46.int (t := 2) (kd := .i64) (by kernel_rfl)) Y49.nil))))))))) (by kernel_rfl)) (fun _ => rfl) (fun g h => ⟨h.1, h.2.1, h.2.2.1, h.2.2.2.1, h.2.2.2.2.1, h.2.2.2.2.2.1, h.2.2.2.2.2.2.1, h.2.2.2.2.2.2.2.1, h.2.2.2.2.2.2.2.2.1⟩)
theorem Ynz : Y46 Tryz.prog 176 Y8u Ynm :=
 Y46.map (fun g => Y8i.mk g.1 g.2.1 g.2.2.1) (Y46.struct (t := 176) (fs := #[_, _, _]) (by kernel_rfl) (Y49.cons (f := Field.mk "Room" 2 0 false "" "" 0) (off := 0) (sz := 1) rfl (by kernel_rfl) (Y46.int (t := 2) (kd := .i64) (by kernel_rfl))
  (Y49.cons (f := Field.mk "Events" 174 1 false "" "" 8) (off := 1) (sz := 1) rfl (by kernel_rfl) (Y46.slice (t := 174) (sz := 9) (k := Y8t) (by kernel_rfl) Yny (by kernel_rfl) (by decide))
  (Y49.cons (f := Field.mk "Parked" 174 2 false "" "" 32) (off := 2) (sz := 1) rfl (by kernel_rfl) (Y46.slice (t := 174) (sz := 9) (k := Y8t) (by kernel_rfl) Yny (by kernel_rfl) (by decide)) Y49.nil))) (by kernel_rfl)) (fun _ => rfl) (fun g h => ⟨h.1, h.2.1, h.2.2.1⟩)
def kHub (x : THub) : List C := [C.im Y8u 3 x.rooms, C.im Y8v 2 x.stream]
theorem Yo0 : Y46 Tryz.prog 25 kHub Yno :=
 Y46.map (fun g => THub.mk g.1 g.2.1) (Y46.struct (t := 25) (fs := #[_, _]) (by kernel_rfl) (Y49.cons (f := Field.mk "Rooms" 22 0 false "" "" 0) (off := 0) (sz := 1) rfl (by kernel_rfl) (Y46.slice (t := 22) (sz := 3) (k := Y8u) (by kernel_rfl) Ynz (by kernel_rfl) (by decide))
  (Y49.cons (f := Field.mk "Stream" 23 1 false "" "" 24) (off := 1) (sz := 1) rfl (by kernel_rfl) (Y46.slice (t := 23) (sz := 2) (k := Y8v) (by kernel_rfl) Ynx (by kernel_rfl) (by decide)) Y49.nil)) (by kernel_rfl)) (fun _ => rfl) (fun g h => ⟨h.1, h.2.1⟩)

theorem rowA : ownKnob Tryz.checked.prog.godebug = none := by kernel_rfl
theorem rowB : Tryz.checked.prog.inits.idxOf? 7 = none := by kernel_rfl
theorem rowC : laidOutB Tryz.checked.prog = true := by kernel_rfl
theorem rowD : ([25, 62, 2].all fun t => Tryz.checked.prog.readableRec t && decide (t < Tryz.checked.prog.types.size)) = true := by kernel_rfl
theorem rowE : Tryz.checked.prog.underlying 4 = some .bool := by kernel_rfl
set_option maxRecDepth 100000 in
theorem Yo1 (os : Os) (started : os.Started) (H : Type) (enc : TypeId × Value → H) :
  ReturnsInHanded {} Tryz.checked os 7 .any (Rows.fnExactUnreadSpec.pre6 enc Tryz.prog Tryz.f7 Rows.fnExactUnreadRow.domain false) (Rows.fnExactUnreadSpec.post enc Tryz.prog Tryz.f7 false true false false) :=
 Y4e (C := Tryz.checked) (ts := [25, 62, 2]) (tb := 4) rowA started rowB Tryz.func7
  (ChangeSpec.witness6 (enc := enc) (C := Tryz.checked) false ⟨#[], #[.agg #[.slice none 0 0, .slice none 0 0], .agg #[.int .i64 0, .slice none 0 0], .int .i64 0], []⟩ 8 (by kernel_rfl) (by kernel_rfl) (by kernel_rfl) (by kernel_rfl))
  rowC rfl rowD rfl rowE rfl (fun ds h => match ds, h with | [_, _, _], _ => rfl)
  (Y4a.consA (t := 25) (fs := #[Field.mk "Rooms" 22 0 false "" "" 0, Field.mk "Stream" 23 1 false "" "" 24]) (by kernel_rfl) Yo0 (Y4a.consA (t := 62) (fs := #[Field.mk "User" 2 0 false "" "" 0, Field.mk "At" 57 1 false "" "" 8]) (by kernel_rfl) Ynw (Y4a.cons (t := 2) (d := .int .i64) (by kernel_rfl) rfl (Y46.int (t := 2) (kd := .i64) (by kernel_rfl)) Y4a.nil)))
  (fun g hg => (Zjv g.1 g.2.1 g.2.2.1).h true (Ynu g.1 g.2.1 g.2.2.1 hg.1 hg.2.1 hg.2.2.1))

theorem andI {a b : Bool} (h : a = true) (k : b = true) : (a && b) = true := by rw [h, k]; rfl
set_option maxHeartbeats 100000000 in
theorem rowF : joinedFacts Tryz.checked.prog 7 Tryz.f7 Rows.fnExactUnreadSpec Rows.fnExactUnreadRow = true := by
 unfold joinedFacts
 iterate 31 refine andI ?_ (by as_aux_lemma => kernel_rfl)
 as_aux_lemma => kernel_rfl
theorem fnExactUnread_holds : Rows.FnExactUnreadSaid :=
 OpenClaim.holds_of_wide 7 Tryz.f7 rfl rfl rfl rfl rfl rfl rfl ⟨rfl, rfl, rfl, rfl, rfl⟩ rfl rfl rfl rfl rfl (by kernel_rfl) Tryz.func7 rowF
  (Wo (by kernel_rfl)) (by unfold Func.isWrapper; first | (rw [if_pos (by decide +kernel)]; kernel_rfl) | (rw [if_neg (by decide +kernel)]; exact ⟨rfl, rfl⟩))
  (fun os started H enc _ => Yo1 os started H enc)

end Go.Proofs.YtbgichfjcnibpaaGreat
