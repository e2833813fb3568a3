/- FnExactBack: for every hub, user, room, place and limit the law returns true; no condition. -/
import Derived.Test.YtbgichfjcnibpaaGreatTHQ
import Derived.Test.YtbgichfjcnibpaaGreatRows
set_option autoImplicit false
set_option linter.unusedVariables false
set_option linter.unusedSimpArgs false
namespace Go.Proofs.YtbgichfjcnibpaaGreat
open Go Go.Abs

structure Yp6 (x : Y8z) : Prop where
 id : IntKind.i64.min ≤ x.id ∧ x.id ≤ IntKind.i64.max
 room : IntKind.i64.min ≤ x.room ∧ x.room ≤ IntKind.i64.max
 author : IntKind.i64.min ≤ x.author ∧ x.author ≤ IntKind.i64.max
 kind : IntKind.i64.min ≤ x.kind ∧ x.kind ≤ IntKind.i64.max
 key : IntKind.i64.min ≤ x.key ∧ x.key ≤ IntKind.i64.max
 n : IntKind.i64.min ≤ x.n ∧ x.n ≤ IntKind.i64.max
 text : x.text.size ≤ maxLen
 prev : x.prev.length ≤ maxLen ∧ ∀ y ∈ x.prev, (IntKind.i64.min ≤ y ∧ y ≤ IntKind.i64.max)
 time : IntKind.i64.min ≤ x.time ∧ x.time ≤ IntKind.i64.max
structure Yp7 (x : Y90) : Prop where
 room : IntKind.i64.min ≤ x.room ∧ x.room ≤ IntKind.i64.max
 events : x.events.length ≤ maxLen ∧ ∀ y ∈ x.events, Yp6 y
 parked : x.parked.length ≤ maxLen ∧ ∀ y ∈ x.parked, Yp6 y
structure Yp8 (x : Y91) : Prop where
 room : IntKind.i64.min ≤ x.room ∧ x.room ≤ IntKind.i64.max
 id : IntKind.i64.min ≤ x.id ∧ x.id ≤ IntKind.i64.max
structure Yp9 (x : THub) : Prop where
 rooms : x.rooms.length ≤ maxLen ∧ ∀ y ∈ x.rooms, Yp7 y
 stream : x.stream.length ≤ maxLen ∧ ∀ y ∈ x.stream, Yp8 y


theorem Ypa {e : Y8z} (h : Yp6 e) : EvIn e := ⟨h.text, h.prev.1⟩
theorem Ypb {g : Y90} (h : Yp7 g) : GIn g := ⟨h.events.1, h.parked.1, fun e he => Ypa (h.events.2 e he), fun e he => Ypa (h.parked.2 e he)⟩
theorem Ypc {h : THub} (k : Yp9 h) : HIn h := ⟨k.rooms.1, fun g hg => Ypb (k.rooms.2 g hg), k.stream.1⟩
theorem Ypd {h : THub} (s : Yne h) : Ymm (toH h) := ⟨by show (h.rooms.map toG).length ≤ _; rw [List.length_map]; exact s.rl, s.sl, fun g hg => by
 obtain ⟨g0, h1, rfl⟩ := List.mem_map.1 hg
 exact Ykx (s.rg g0 h1).1 (s.rg g0 h1).2⟩

theorem Ype (h : THub) (user r at_ lim : Int) (hh : Yp9 h) (_ : IntKind.i64.min ≤ user ∧ user ≤ IntKind.i64.max) (_ : IntKind.i64.min ≤ r ∧ r ≤ IntKind.i64.max) (_ : IntKind.i64.min ≤ at_ ∧ at_ ≤ IntKind.i64.max) (_ : IntKind.i64.min ≤ lim ∧ lim ≤ IntKind.i64.max) : Zkt h user r at_ lim = some true := by
 unfold Zkt; obtain ⟨z, z1, z2⟩ := Yng h 1048576 (Ypc hh) (by omega) (by omega); rw [z1, Wb]; rcases z2 with ⟨z2, _, hs⟩ | rfl
 ·
  rw [Wf (by omega), Wv]; obtain ⟨v, s1, i1, vl⟩ := Yos (Ypd hs) user r at_ lim
  obtain ⟨m, m1, m2, _⟩ := Ynq hs 1 (by omega) (by omega); have hv : Few v.events := ⟨by have := vl.1; omega, vl.2⟩; have q0 := Yoz v.events 1 hv.2; have e2 : decide (m.1 < 0) = false := Wf (by omega); have e3 : decide (finL 1 v.events < 0) = false := Wf (by omega); simp [Ynj h hs, s1, i1, Yp3 v hv, Ynn hs, m1, e2, Zks, Yp4 v hv, Yp5 v hv, e3]
 ·
  rfl
theorem Ypf : Y49 Tryz.prog 185 Y9d Yp8 :=
 Y49.map (fun g => Y91.mk g.1 g.2.1) (Y49.struct (t := 185) (fs := #[_, _]) (by kernel_rfl) (Y4c.cons (f := Field.mk "Room" 2 0 false "" "" 0) (off := 0) (sz := 1) rfl (by kernel_rfl) (Y49.int (t := 2) (kd := .i64) (by kernel_rfl))
  (Y4c.cons (f := Field.mk "Id" 2 1 false "" "" 8) (off := 1) (sz := 1) rfl (by kernel_rfl) (Y49.int (t := 2) (kd := .i64) (by kernel_rfl)) Y4c.nil)) (by kernel_rfl)) (fun _ => rfl) (fun g h => ⟨h.1, h.2.1⟩)
theorem Ypg : Y49 Tryz.prog 273 Y9b Yp6 :=
 Y49.map (fun g => Y8z.mk g.1 g.2.1 g.2.2.1 g.2.2.2.1 g.2.2.2.2.1 g.2.2.2.2.2.1 g.2.2.2.2.2.2.1 g.2.2.2.2.2.2.2.1 g.2.2.2.2.2.2.2.2.1) (Y49.struct (t := 273) (fs := #[_, _, _, _, _, _, _, _, _]) (by kernel_rfl) (Y4c.cons (f := Field.mk "Id" 2 0 false "" "" 0) (off := 0) (sz := 1) rfl (by kernel_rfl) (Y49.int (t := 2) (kd := .i64) (by kernel_rfl))
  (Y4c.cons (f := Field.mk "Room" 2 1 false "" "" 8) (off := 1) (sz := 1) rfl (by kernel_rfl) (Y49.int (t := 2) (kd := .i64) (by kernel_rfl))
  (Y4c.cons (f := Field.mk "Author" 2 2 false "" "" 16) (off := 2) (sz := 1) rfl (by kernel_rfl) (Y49.int (t := 2) (kd := .i64) (by kernel_rfl))
  (Y4c.cons (f := Field.mk "Kind" 2 3 false "" "" 24) (off := 3) (sz := 1) rfl (by kernel_rfl) (Y49.int (t := 2) (kd := .i64) (by kernel_rfl))
  (Y4c.cons (f := Field.mk "Key" 2 4 false "" "" 32) (off := 4) (sz := 1) rfl (by kernel_rfl) (Y49.int (t := 2) (kd := .i64) (by kernel_rfl))
  (Y4c.cons (f := Field.mk "N" 2 5 false "" "" 40) (off := 5) (sz := 1) rfl (by kernel_rfl) (Y49.int (t := 2) (kd := .i64) (by kernel_rfl))
  (Y4c.cons (f := Field.mk "Text" 9 6 false "" "" 48) (off := 6) (sz := 1) rfl (by kernel_rfl) (Y49.string (t := 9) (by kernel_rfl))
  (Y4c.cons (f := Field.mk "Prev" 57 7 false "" "" 64) (off := 7) (sz := 1) rfl (by kernel_rfl) (Y49.slice (t := 57) (sz := 1) (k := kI64) (by kernel_rfl) (Y49.int (t := 2) (kd := .i64) (by kernel_rfl)) (by kernel_rfl) (by decide))
  (Y4c.cons (f := Field.mk "Time" 2 8 false "" "" 88) (off := 8) (sz := 1) rfl (by kernel_rfl) (Y49.int (t := 2) (kd := .i64) (by kernel_rfl)) Y4c.nil))))))))) (by kernel_rfl)) (fun _ => rfl) (fun g h => ⟨h.1, h.2.1, h.2.2.1, h.2.2.2.1, h.2.2.2.2.1, h.2.2.2.2.2.1, h.2.2.2.2.2.2.1, h.2.2.2.2.2.2.2.1, h.2.2.2.2.2.2.2.2.1⟩)
theorem Yph : Y49 Tryz.prog 176 Y9c Yp7 :=
 Y49.map (fun g => Y90.mk g.1 g.2.1 g.2.2.1) (Y49.struct (t := 176) (fs := #[_, _, _]) (by kernel_rfl) (Y4c.cons (f := Field.mk "Room" 2 0 false "" "" 0) (off := 0) (sz := 1) rfl (by kernel_rfl) (Y49.int (t := 2) (kd := .i64) (by kernel_rfl))
  (Y4c.cons (f := Field.mk "Events" 174 1 false "" "" 8) (off := 1) (sz := 1) rfl (by kernel_rfl) (Y49.slice (t := 174) (sz := 9) (k := Y9b) (by kernel_rfl) Ypg (by kernel_rfl) (by decide))
  (Y4c.cons (f := Field.mk "Parked" 174 2 false "" "" 32) (off := 2) (sz := 1) rfl (by kernel_rfl) (Y49.slice (t := 174) (sz := 9) (k := Y9b) (by kernel_rfl) Ypg (by kernel_rfl) (by decide)) Y4c.nil))) (by kernel_rfl)) (fun _ => rfl) (fun g h => ⟨h.1, h.2.1, h.2.2.1⟩)
def kHub (x : THub) : List C := [C.im Y9c 3 x.rooms, C.im Y9d 2 x.stream]
theorem Ypi : Y49 Tryz.prog 25 kHub Yp9 :=
 Y49.map (fun g => THub.mk g.1 g.2.1) (Y49.struct (t := 25) (fs := #[_, _]) (by kernel_rfl) (Y4c.cons (f := Field.mk "Rooms" 22 0 false "" "" 0) (off := 0) (sz := 1) rfl (by kernel_rfl) (Y49.slice (t := 22) (sz := 3) (k := Y9c) (by kernel_rfl) Yph (by kernel_rfl) (by decide))
  (Y4c.cons (f := Field.mk "Stream" 23 1 false "" "" 24) (off := 1) (sz := 1) rfl (by kernel_rfl) (Y49.slice (t := 23) (sz := 2) (k := Y9d) (by kernel_rfl) Ypf (by kernel_rfl) (by decide)) Y4c.nil)) (by kernel_rfl)) (fun _ => rfl) (fun g h => ⟨h.1, h.2.1⟩)

theorem rowA : ownKnob Tryz.checked.prog.godebug = none := by kernel_rfl
theorem rowB : Tryz.checked.prog.inits.idxOf? 12 = none := by kernel_rfl
theorem rowC : laidOutB Tryz.checked.prog = true := by kernel_rfl
theorem rowD : ([25, 2, 2, 2, 2].all fun t => Tryz.checked.prog.readableRec t && decide (t < Tryz.checked.prog.types.size)) = true := by kernel_rfl
theorem rowE : Tryz.checked.prog.underlying 4 = some .bool := by kernel_rfl
set_option maxRecDepth 100000 in
theorem Ypj (os : Os) (started : os.Started) (H : Type) (enc : TypeId × Value → H) :
  ReturnsInHanded {} Tryz.checked os 12 .any (Rows.fnExactBackSpec.pre6 enc Tryz.prog Tryz.f12 Rows.fnExactBackRow.domain false) (Rows.fnExactBackSpec.post enc Tryz.prog Tryz.f12 false true false false) :=
 Y4h (C := Tryz.checked) (ts := [25, 2, 2, 2, 2]) (tb := 4) rowA started rowB Tryz.func12
  (ChangeSpec.witness6 (enc := enc) (C := Tryz.checked) false ⟨#[], #[.agg #[.slice none 0 0, .slice none 0 0], .int .i64 0, .int .i64 0, .int .i64 0, .int .i64 0], []⟩ 8 (by kernel_rfl) (by kernel_rfl) (by kernel_rfl) (by kernel_rfl))
  rowC rfl rowD rfl rowE rfl (fun ds h => match ds, h with | [_, _, _, _, _], _ => rfl)
  (Y4d.consA (t := 25) (fs := #[Field.mk "Rooms" 22 0 false "" "" 0, Field.mk "Stream" 23 1 false "" "" 24]) (by kernel_rfl) Ypi (Y4d.cons (t := 2) (d := .int .i64) (by kernel_rfl) rfl (Y49.int (t := 2) (kd := .i64) (by kernel_rfl)) (Y4d.cons (t := 2) (d := .int .i64) (by kernel_rfl) rfl (Y49.int (t := 2) (kd := .i64) (by kernel_rfl)) (Y4d.cons (t := 2) (d := .int .i64) (by kernel_rfl) rfl (Y49.int (t := 2) (kd := .i64) (by kernel_rfl)) (Y4d.cons (t := 2) (d := .int .i64) (by kernel_rfl) rfl (Y49.int (t := 2) (kd := .i64) (by kernel_rfl)) Y4d.nil)))))
  (fun g hg => (Zku g.1 g.2.1 g.2.2.1 g.2.2.2.1 g.2.2.2.2.1).h true (Ype g.1 g.2.1 g.2.2.1 g.2.2.2.1 g.2.2.2.2.1 hg.1 hg.2.1 hg.2.2.1 hg.2.2.2.1 hg.2.2.2.2.1))

theorem andI {a b : Bool} (h : a = true) (k : b = true) : (a && b) = true := by rw [h, k]; rfl
set_option maxHeartbeats 100000000 in
theorem rowF : joinedFacts Tryz.checked.prog 12 Tryz.f12 Rows.fnExactBackSpec Rows.fnExactBackRow = true := by
 unfold joinedFacts
 iterate 31 refine andI ?_ (by as_aux_lemma => kernel_rfl)
 as_aux_lemma => kernel_rfl
theorem fnExactBack_holds : Rows.FnExactBackSaid :=
 OpenClaim.holds_of_wide 12 Tryz.f12 rfl rfl rfl rfl rfl rfl rfl ⟨rfl, rfl, rfl, rfl, rfl⟩ rfl rfl rfl rfl rfl (by kernel_rfl) Tryz.func12 rowF
  (Wo (by kernel_rfl)) (by unfold Func.isWrapper; first | (rw [if_pos (by decide +kernel)]; kernel_rfl) | (rw [if_neg (by decide +kernel)]; exact ⟨rfl, rfl⟩))
  (fun os started H enc _ => Ypj os started H enc)

end Go.Proofs.YtbgichfjcnibpaaGreat
