/- FnExactMarkRead: for every hub, marks, room and id the law returns true; no condition. -/
import Derived.Test.YtbgichfjcnibpaaGreatEHL
import Derived.Test.YtbgichfjcnibpaaGreatRows
set_option autoImplicit false
set_option linter.unusedVariables false
set_option linter.unusedSimpArgs false
namespace Go.Proofs.YtbgichfjcnibpaaGreat
open Go Go.Abs

structure Ynv (x : Y8w) : Prop where
 id : IntKind.i64.min ≤ x.id ∧ x.id ≤ IntKind.i64.max
 room : IntKind.i64.min ≤ x.room ∧ x.room ≤ IntKind.i64.max
 author : IntKind.i64.min ≤ x.author ∧ x.author ≤ IntKind.i64.max
 kind : IntKind.i64.min ≤ x.kind ∧ x.kind ≤ IntKind.i64.max
 key : IntKind.i64.min ≤ x.key ∧ x.key ≤ IntKind.i64.max
 n : IntKind.i64.min ≤ x.n ∧ x.n ≤ IntKind.i64.max
 text : x.text.size ≤ maxLen
 prev : x.prev.length ≤ maxLen ∧ ∀ y ∈ x.prev, (IntKind.i64.min ≤ y ∧ y ≤ IntKind.i64.max)
 time : IntKind.i64.min ≤ x.time ∧ x.time ≤ IntKind.i64.max
structure Ynw (x : Y8x) : Prop where
 room : IntKind.i64.min ≤ x.room ∧ x.room ≤ IntKind.i64.max
 events : x.events.length ≤ maxLen ∧ ∀ y ∈ x.events, Ynv y
 parked : x.parked.length ≤ maxLen ∧ ∀ y ∈ x.parked, Ynv y
structure Ynx (x : Y8y) : Prop where
 room : IntKind.i64.min ≤ x.room ∧ x.room ≤ IntKind.i64.max
 id : IntKind.i64.min ≤ x.id ∧ x.id ≤ IntKind.i64.max
structure Yny (x : THub) : Prop where
 rooms : x.rooms.length ≤ maxLen ∧ ∀ y ∈ x.rooms, Ynw y
 stream : x.stream.length ≤ maxLen ∧ ∀ y ∈ x.stream, Ynx y
structure Ynz (x : Y8z) : Prop where
 user : IntKind.i64.min ≤ x.user ∧ x.user ≤ IntKind.i64.max
 at_ : x.at_.length ≤ maxLen ∧ ∀ y ∈ x.at_, (IntKind.i64.min ≤ y ∧ y ≤ IntKind.i64.max)


theorem Yo0 {e : Y8w} (h : Ynv e) : EvIn e := ⟨h.text, h.prev.1⟩
theorem Yo1 {g : Y8x} (h : Ynw g) : GIn g := ⟨h.events.1, h.parked.1, fun e he => Yo0 (h.events.2 e he), fun e he => Yo0 (h.parked.2 e he)⟩
theorem Yo2 {h : THub} (k : Yny h) : HIn h := ⟨k.rooms.1, fun g hg => Yo1 (k.rooms.2 g hg), k.stream.1⟩
theorem Yo3 {h : THub} (s : Yn3 h) : Ymb (toH h) := ⟨by show (h.rooms.map toG).length ≤ _; rw [List.length_map]; exact s.rl, s.sl, fun g hg => by
 obtain ⟨g0, h1, rfl⟩ := List.mem_map.1 hg
 exact Ykm (s.rg g0 h1).1 (s.rg g0 h1).2⟩

theorem Yo4 (h : THub) (m : Y8z) (r id : Int) (hh : Yny h) (hm : Ynz m) (_ : IntKind.i64.min ≤ r ∧ r ≤ IntKind.i64.max) (_ : IntKind.i64.min ≤ id ∧ id ≤ IntKind.i64.max) : Zjm h m r id = some true := by
 unfold Zjm
 obtain ⟨z, z1, z2⟩ := Yn5 h 1048576 (Yo2 hh) (by omega) (by omega)
 rw [z1, Option.bind_some]
 rcases z2 with ⟨z2, z3, hs⟩ | rfl
 ·
  rw [decide_eq_false (by omega), cond_false]
  obtain ⟨y, y1, y2⟩ := Ynq m z hm.at_.1 z2 z3
  rw [y1, Option.bind_some]
  rcases y2 with ⟨y2, _, hml⟩ | rfl
  ·
   rw [decide_eq_false (by omega), cond_false]
   obtain ⟨o, s1, i1, ol⟩ := Ynu (Yo3 hs) m hml r id
   obtain ⟨k, k1, k2, k3⟩ := Ynf hs 1 (by omega) (by omega)
   have q0 := Ykv m.at_ k.1 hml k2 (by omega)
   have q1 := Ykv o.marks.at_ 1 ol (by omega) (by omega)
   have q2 := Ykw o.marks.at_.length 1 ol (by omega) (by omega)
   have e1 := Ykn o.marks.at_ ol
   have e2 : decide (k.1 + m.at_.length < 0) = false := decide_eq_false (by omega)
   have e3 : decide ((1 : Int) + o.marks.at_.length < 0) = false := decide_eq_false (by omega)
   simp [Yn8 h hs, Ynr m hml, s1, i1, e1, Ync hs, Ykn m.at_ hml, k1, e2, Zjj, Zjk, Zjl, Zhz, Zhx, Zj7, Zj9, Zjf, Zjh, q0, q1, q2, e3]
  ·
   rfl
 ·
  rfl
def Yo5 (x : Y8z) : List C := [C.int x.user, C.im kI64 1 x.at_]
theorem Yo6 : Y49 Tryz.prog 62 Yo5 Ynz :=
 Y49.map (fun g => Y8z.mk g.1 g.2.1) (Y49.struct (t := 62) (fs := #[_, _]) (by kernel_rfl) (Y4c.cons (f := Field.mk "User" 2 0 false "" "" 0) (off := 0) (sz := 1) rfl (by kernel_rfl) (Y49.int (t := 2) (kd := .i64) (by kernel_rfl))
  (Y4c.cons (f := Field.mk "At" 57 1 false "" "" 8) (off := 1) (sz := 1) rfl (by kernel_rfl) (Y49.slice (t := 57) (sz := 1) (k := kI64) (by kernel_rfl) (Y49.int (t := 2) (kd := .i64) (by kernel_rfl)) (by kernel_rfl) (by decide)) Y4c.nil)) (by kernel_rfl)) (fun _ => rfl) (fun g h => ⟨h.1, h.2.1⟩)
theorem Yo7 : Y49 Tryz.prog 185 Y9a Ynx :=
 Y49.map (fun g => Y8y.mk g.1 g.2.1) (Y49.struct (t := 185) (fs := #[_, _]) (by kernel_rfl) (Y4c.cons (f := Field.mk "Room" 2 0 false "" "" 0) (off := 0) (sz := 1) rfl (by kernel_rfl) (Y49.int (t := 2) (kd := .i64) (by kernel_rfl))
  (Y4c.cons (f := Field.mk "Id" 2 1 false "" "" 8) (off := 1) (sz := 1) rfl (by kernel_rfl) (Y49.int (t := 2) (kd := .i64) (by kernel_rfl)) Y4c.nil)) (by kernel_rfl)) (fun _ => rfl) (fun g h => ⟨h.1, h.2.1⟩)
theorem Yo8 : Y49 Tryz.prog 273 Y98 Ynv :=
 Y49.map (fun g => Y8w.mk g.1 g.2.1 g.2.2.1 g.2.2.2.1 g.2.2.2.2.1 g.2.2.2.2.2.1 g.2.2.2.2.2.2.1 g.2.2.2.2.2.2.2.1 g.2.2.2.2.2.2.2.2.1) (Y49.struct (t := 273) (fs := #[_, _, _, _, _, _, _, _, _]) (by kernel_rfl) (Y4c.cons (f := Field.mk "Id" 2 0 false "" "" 0) (off := 0) (sz := 1) rfl (by kernel_rfl) (Y49.int (t := 2) (kd := .i64) (by kernel_rfl))
  (Y4c.cons (f := Field.mk "Room" 2 1 false "" "" 8) (off := 1) (sz := 1) rfl (by kernel_rfl) (Y49.int (t := 2) (kd := .i64) (by kernel_rfl))
  (Y4c.cons (f := Field.mk "Author" 2 2 false "" "" 16) (off := 2) (sz := 1) rfl (by kernel_rfl) (Y49.int (t := 2) (kd := .i64) (by kernel_rfl))
  (Y4c.cons (f := Field.mk "Kind" 2 3 false "" "" 24) (off := 3) (sz := 1) rfl (by kernel_rfl) (Y49.int (t := 2) (kd := .i64) (by kernel_rfl))
  (Y4c.cons (f := Field.mk "Key" 2 4 false "" "" 32) (off := 4) (sz := 1) rfl (by kernel_rfl) (Y49.int (t := 2) (kd := .i64) (by kernel_rfl))
  (Y4c.cons (f := Field.mk "N" 2 5 false "" "" 40) (off := 5) (sz := 1) rfl (by kernel_rfl) (Y49.int (t := 2) (kd := .i64) (by kernel_rfl))
  (Y4c.cons (f := Field.mk "Text" 9 6 false "" "" 48) (off := 6) (sz := 1) rfl (by kernel_rfl) (Y49.string (t := 9) (by kernel_rfl))
  (Y4c.cons (f := Field.mk "Prev" 57 7 false "" "" 64) (off := 7) (sz := 1) rfl (by kernel_rfl) (Y49.slice (t := 57) (sz := 1) (k := kI64) (by kernel_rfl) (Y49.int (t := 2) (kd := .i64) (by kernel_rfl)) (by kernel_rfl) (by decide))
  (Y4c.cons (f := Field.mk "Time" 2 8 false "" "" 88) (off := 8) (sz := 1) rfl (by kernel_rfl) (Y49.int (t := 2) (kd := .i64) (by kernel_rfl)) Y4c.nil))))))))) (by kernel_rfl)) (fun _ => rfl) (fun g h => ⟨h.1, h.2.1, h.2.2.1, h.2.2.2.1, h.2.2.2.2.1, h.2.2.2.2.2.1, h.2.2.2.2.2.2.1, h.2.2.2.2.2.2.2.1, h.2.2.2.2.2.2.2.2.1⟩)
theorem Yo9 : Y49 Tryz.prog 176 Y99 Ynw :=
 Y49.map (fun g => Y8x.mk g.1 g.2.1 g.2.2.1) (Y49.struct (t := 176) (fs := #[_, _, _]) (by kernel_rfl) (Y4c.cons (f := Field.mk "Room" 2 0 false "" "" 0) (off := 0) (sz := 1) rfl (by kernel_rfl) (Y49.int (t := 2) (kd := .i64) (by kernel_rfl))
  (Y4c.cons (f := Field.mk "Events" 174 1 false "" "" 8) (off := 1) (sz := 1) rfl (by kernel_rfl) (Y49.slice (t := 174) (sz := 9) (k := Y98) (by kernel_rfl) Yo8 (by kernel_rfl) (by decide))
  (Y4c.cons (f := Field.mk "Parked" 174 2 false "" "" 32) (off := 2) (sz := 1) rfl (by kernel_rfl) (Y49.slice (t := 174) (sz := 9) (k := Y98) (by kernel_rfl) Yo8 (by kernel_rfl) (by decide)) Y4c.nil))) (by kernel_rfl)) (fun _ => rfl) (fun g h => ⟨h.1, h.2.1, h.2.2.1⟩)
def kHub (x : THub) : List C := [C.im Y99 3 x.rooms, C.im Y9a 2 x.stream]
theorem Yoa : Y49 Tryz.prog 25 kHub Yny :=
 Y49.map (fun g => THub.mk g.1 g.2.1) (Y49.struct (t := 25) (fs := #[_, _]) (by kernel_rfl) (Y4c.cons (f := Field.mk "Rooms" 22 0 false "" "" 0) (off := 0) (sz := 1) rfl (by kernel_rfl) (Y49.slice (t := 22) (sz := 3) (k := Y99) (by kernel_rfl) Yo9 (by kernel_rfl) (by decide))
  (Y4c.cons (f := Field.mk "Stream" 23 1 false "" "" 24) (off := 1) (sz := 1) rfl (by kernel_rfl) (Y49.slice (t := 23) (sz := 2) (k := Y9a) (by kernel_rfl) Yo7 (by kernel_rfl) (by decide)) Y4c.nil)) (by kernel_rfl)) (fun _ => rfl) (fun g h => ⟨h.1, h.2.1⟩)

theorem rowA : ownKnob Tryz.checked.prog.godebug = none := by kernel_rfl
theorem rowB : Tryz.checked.prog.inits.idxOf? 8 = none := by kernel_rfl
theorem rowC : laidOutB Tryz.checked.prog = true := by kernel_rfl
theorem rowD : ([25, 62, 2, 2].all fun t => Tryz.checked.prog.readableRec t && decide (t < Tryz.checked.prog.types.size)) = true := by kernel_rfl
theorem rowE : Tryz.checked.prog.underlying 4 = some .bool := by kernel_rfl
set_option maxRecDepth 100000 in
theorem Yob (os : Os) (started : os.Started) (H : Type) (enc : TypeId × Value → H) :
  ReturnsInHanded {} Tryz.checked os 8 .any (Rows.fnExactMarkReadSpec.pre6 enc Tryz.prog Tryz.f8 Rows.fnExactMarkReadRow.domain false) (Rows.fnExactMarkReadSpec.post enc Tryz.prog Tryz.f8 false true false false) :=
 Y4h (C := Tryz.checked) (ts := [25, 62, 2, 2]) (tb := 4) rowA started rowB Tryz.func8
  (ChangeSpec.witness6 (enc := enc) (C := Tryz.checked) false ⟨#[], #[.agg #[.slice none 0 0, .slice none 0 0], .agg #[.int .i64 0, .slice none 0 0], .int .i64 0, .int .i64 0], []⟩ 8 (by kernel_rfl) (by kernel_rfl) (by kernel_rfl) (by kernel_rfl))
  rowC rfl rowD rfl rowE rfl (fun ds h => match ds, h with | [_, _, _, _], _ => rfl)
  (Y4d.consA (t := 25) (fs := #[Field.mk "Rooms" 22 0 false "" "" 0, Field.mk "Stream" 23 1 false "" "" 24]) (by kernel_rfl) Yoa (Y4d.consA (t := 62) (fs := #[Field.mk "User" 2 0 false "" "" 0, Field.mk "At" 57 1 false "" "" 8]) (by kernel_rfl) Yo6 (Y4d.cons (t := 2) (d := .int .i64) (by kernel_rfl) rfl (Y49.int (t := 2) (kd := .i64) (by kernel_rfl)) (Y4d.cons (t := 2) (d := .int .i64) (by kernel_rfl) rfl (Y49.int (t := 2) (kd := .i64) (by kernel_rfl)) Y4d.nil))))
  (fun g hg => (Zjn g.1 g.2.1 g.2.2.1 g.2.2.2.1).h true (Yo4 g.1 g.2.1 g.2.2.1 g.2.2.2.1 hg.1 hg.2.1 hg.2.2.1 hg.2.2.2.1))

theorem andI {a b : Bool} (h : a = true) (k : b = true) : (a && b) = true := by rw [h, k]; rfl
set_option maxHeartbeats 100000000 in
theorem rowF : joinedFacts Tryz.checked.prog 8 Tryz.f8 Rows.fnExactMarkReadSpec Rows.fnExactMarkReadRow = true := by
 unfold joinedFacts
 iterate 31 refine andI ?_ (by as_aux_lemma => kernel_rfl)
 as_aux_lemma => kernel_rfl
theorem fnExactMarkRead_holds : Rows.FnExactMarkReadSaid :=
 OpenClaim.holds_of_wide 8 Tryz.f8 rfl rfl rfl rfl rfl rfl rfl ⟨rfl, rfl, rfl, rfl, rfl⟩ rfl rfl rfl rfl rfl (by kernel_rfl) Tryz.func8 rowF
  (of_decide_eq_true (by kernel_rfl)) (by unfold Func.isWrapper; first | (rw [if_pos (by decide +kernel)]; kernel_rfl) | (rw [if_neg (by decide +kernel)]; exact ⟨rfl, rfl⟩))
  (fun os started H enc _ => Yob os started H enc)

end Go.Proofs.YtbgichfjcnibpaaGreat
