/- FnExactPeerLose: for all peers and every letter's place the law returns true; no condition. -/
import Derived.Test.YtmaefakalikkiaaGreatAIC
import Derived.Test.YtmaefakalikkiaaGreatRows
set_option autoImplicit false
set_option linter.unusedVariables false
set_option linter.unusedSimpArgs false
namespace Go.Proofs.YtmaefakalikkiaaGreat
open Go Go.Abs

structure Yre (x : Y9r) : Prop where
 id : IntKind.i64.min ≤ x.id ∧ x.id ≤ IntKind.i64.max
 room : IntKind.i64.min ≤ x.room ∧ x.room ≤ IntKind.i64.max
 author : IntKind.i64.min ≤ x.author ∧ x.author ≤ IntKind.i64.max
 kind : IntKind.i64.min ≤ x.kind ∧ x.kind ≤ IntKind.i64.max
 key : IntKind.i64.min ≤ x.key ∧ x.key ≤ IntKind.i64.max
 n : IntKind.i64.min ≤ x.n ∧ x.n ≤ IntKind.i64.max
 text : x.text.size ≤ maxLen
 prev : x.prev.length ≤ maxLen ∧ ∀ y ∈ x.prev, (IntKind.i64.min ≤ y ∧ y ≤ IntKind.i64.max)
 time : IntKind.i64.min ≤ x.time ∧ x.time ≤ IntKind.i64.max
structure Yrf (x : Y9s) : Prop where
 room : IntKind.i64.min ≤ x.room ∧ x.room ≤ IntKind.i64.max
 events : x.events.length ≤ maxLen ∧ ∀ y ∈ x.events, Yre y
 parked : x.parked.length ≤ maxLen ∧ ∀ y ∈ x.parked, Yre y
structure Yrg (x : Y9t) : Prop where
 room : IntKind.i64.min ≤ x.room ∧ x.room ≤ IntKind.i64.max
 id : IntKind.i64.min ≤ x.id ∧ x.id ≤ IntKind.i64.max
structure Yrh (x : THub) : Prop where
 rooms : x.rooms.length ≤ maxLen ∧ ∀ y ∈ x.rooms, Yrf y
 stream : x.stream.length ≤ maxLen ∧ ∀ y ∈ x.stream, Yrg y
structure Yri (x : Y9u) : Prop where
 kind : IntKind.i64.min ≤ x.kind ∧ x.kind ≤ IntKind.i64.max
 from_ : IntKind.i64.min ≤ x.from_ ∧ x.from_ ≤ IntKind.i64.max
 to_ : IntKind.i64.min ≤ x.to_ ∧ x.to_ ≤ IntKind.i64.max
 room : IntKind.i64.min ≤ x.room ∧ x.room ≤ IntKind.i64.max
 text : x.text.size ≤ maxLen
structure Yrj (x : Y9v) : Prop where
 hubs : x.hubs.length ≤ maxLen ∧ ∀ y ∈ x.hubs, Yrh y
 letters : x.letters.length ≤ maxLen ∧ ∀ y ∈ x.letters, Yri y


theorem Yrk {e : Y9r} (h : Yre e) : EvIn e := ⟨h.text, h.prev.1⟩
theorem Yrl {g : Y9s} (h : Yrf g) : GIn g := ⟨h.events.1, h.parked.1, fun e he => Yrk (h.events.2 e he), fun e he => Yrk (h.parked.2 e he)⟩
theorem Yrm {h : THub} (k : Yrh h) : HIn h := ⟨k.rooms.1, fun g hg => Yrl (k.rooms.2 g hg), k.stream.1⟩
theorem Yrn {p : Y9v} (k : Yrj p) : PIn p := ⟨k.hubs.1, fun h hh => Yrm (k.hubs.2 h hh), k.letters.1, fun x hx => (k.letters.2 x hx).text⟩
theorem Yro {h : THub} (s : Ypf h) : Yom (toH h) := ⟨by show (h.rooms.map toG).length ≤ _; rw [List.length_map]; exact s.rl, s.sl, fun g hg => by
 obtain ⟨g0, h1, rfl⟩ := List.mem_map.1 hg
 exact Yn5 (s.rg g0 h1).1 (s.rg g0 h1).2⟩
theorem Yrp {p : Y9v} (s : Yqb p) : Yqz (toP p) := ⟨(Yqk s).1, fun h hh => by
 obtain ⟨h0, h1, rfl⟩ := List.mem_map.1 hh
 exact Yro (s.hs h0 h1), s.ll⟩

theorem Yrq (p : Y9v) (i : Int) (hp : Yrj p) (_ : IntKind.i64.min ≤ i ∧ i ≤ IntKind.i64.max) : Zl7 p i = some true := by
 unfold Zl7
 obtain ⟨z, z1, z2⟩ := Yqf p 1048576 (Yrn hp) (by omega) (by omega)
 rw [z1, Wb]
 rcases z2 with ⟨z2, _, hs⟩ | rfl
 ·
  rw [Wf (by omega), Wv]
  obtain ⟨v, s1, i1, v1, v2⟩ := Yrd _ (Yrp hs) i
  have hv : Yq3 v.peers.hubs := by
   rcases v1 with e | e
   ·
    rw [e]; exact ⟨by simp, by simp⟩
   ·
    rw [e]; exact Yqk hs
  have hw : wtG wHu v.peers.hubs ≤ 2097152000000 := by
   rcases v1 with e | e
   ·
    rw [e]; simp [wtG]
   ·
    rw [e]; exact Yqp hs
  have hl : (toP p).letters.length ≤ 1048577 := by have := hs.ll; show p.letters.length ≤ _; omega
  have hw' := Yqp hs
  have q1 := Yqu v hv v2
  have q2 := Yqt (toP p) (Yqk hs) hl
  have q3 := Yq9 (toP p) 1 (Yqk hs) hl (by omega) (by omega)
  have q4 := Yqv v hv v2 hw
  have q5 := Yqw v hv v2 hw
  have e2 : decide ((1 : Int) + wtG wHu (toP p).hubs + wtG wLe (toP p).letters < 0) = false := Wf (by omega)
  have e3 : decide ((1 : Int) + wtG wHu v.peers.hubs + wtG wLe v.peers.letters < 0) = false := Wf (by omega)
  rw [Yqi p hs, Wb, s1, Wb, Wb, i1, Wb, q1, Wb, Wu, Wb, q2, Wb, Wu, q3, Wb]
  simp only [e2, Wv, Wb, Bool.not_true, Zl6, q4, q5, e3, bne_self_eq_false, Yqi p hs, i1, q1, Wu]
 ·
  rfl
theorem Yrr : Y4l Tryz.prog 282 Ya8 Yri :=
 Y4l.map (fun g => Y9u.mk g.1 g.2.1 g.2.2.1 g.2.2.2.1 g.2.2.2.2.1) (Y4l.struct (t := 282) (fs := #[_, _, _, _, _]) (by kernel_rfl) (Y4o.cons (f := Field.mk "Kind" 2 0 false "" "" 0) (off := 0) (sz := 1) rfl (by kernel_rfl) (Y4l.int (t := 2) (kd := .i64) (by kernel_rfl))
  (Y4o.cons (f := Field.mk "From" 2 1 false "" "" 8) (off := 1) (sz := 1) rfl (by kernel_rfl) (Y4l.int (t := 2) (kd := .i64) (by kernel_rfl))
  (Y4o.cons (f := Field.mk "To" 2 2 false "" "" 16) (off := 2) (sz := 1) rfl (by kernel_rfl) (Y4l.int (t := 2) (kd := .i64) (by kernel_rfl))
  (Y4o.cons (f := Field.mk "Room" 2 3 false "" "" 24) (off := 3) (sz := 1) rfl (by kernel_rfl) (Y4l.int (t := 2) (kd := .i64) (by kernel_rfl))
  (Y4o.cons (f := Field.mk "Text" 9 4 false "" "" 32) (off := 4) (sz := 1) rfl (by kernel_rfl) (Y4l.string (t := 9) (by kernel_rfl)) Y4o.nil))))) (by kernel_rfl)) (fun _ => rfl) (fun g h => ⟨h.1, h.2.1, h.2.2.1, h.2.2.2.1, h.2.2.2.2.1⟩)
theorem Yrs : Y4l Tryz.prog 303 Ya7 Yrg :=
 Y4l.map (fun g => Y9t.mk g.1 g.2.1) (Y4l.struct (t := 303) (fs := #[_, _]) (by kernel_rfl) (Y4o.cons (f := Field.mk "Room" 2 0 false "" "" 0) (off := 0) (sz := 1) rfl (by kernel_rfl) (Y4l.int (t := 2) (kd := .i64) (by kernel_rfl))
  (Y4o.cons (f := Field.mk "Id" 2 1 false "" "" 8) (off := 1) (sz := 1) rfl (by kernel_rfl) (Y4l.int (t := 2) (kd := .i64) (by kernel_rfl)) Y4o.nil)) (by kernel_rfl)) (fun _ => rfl) (fun g h => ⟨h.1, h.2.1⟩)
theorem Yrt : Y4l Tryz.prog 372 Ya5 Yre :=
 Y4l.map (fun g => Y9r.mk g.1 g.2.1 g.2.2.1 g.2.2.2.1 g.2.2.2.2.1 g.2.2.2.2.2.1 g.2.2.2.2.2.2.1 g.2.2.2.2.2.2.2.1 g.2.2.2.2.2.2.2.2.1) (Y4l.struct (t := 372) (fs := #[_, _, _, _, _, _, _, _, _]) (by kernel_rfl) (Y4o.cons (f := Field.mk "Id" 2 0 false "" "" 0) (off := 0) (sz := 1) rfl (by kernel_rfl) (Y4l.int (t := 2) (kd := .i64) (by kernel_rfl))
  (Y4o.cons (f := Field.mk "Room" 2 1 false "" "" 8) (off := 1) (sz := 1) rfl (by kernel_rfl) (Y4l.int (t := 2) (kd := .i64) (by kernel_rfl))
  (Y4o.cons (f := Field.mk "Author" 2 2 false "" "" 16) (off := 2) (sz := 1) rfl (by kernel_rfl) (Y4l.int (t := 2) (kd := .i64) (by kernel_rfl))
  (Y4o.cons (f := Field.mk "Kind" 2 3 false "" "" 24) (off := 3) (sz := 1) rfl (by kernel_rfl) (Y4l.int (t := 2) (kd := .i64) (by kernel_rfl))
  (Y4o.cons (f := Field.mk "Key" 2 4 false "" "" 32) (off := 4) (sz := 1) rfl (by kernel_rfl) (Y4l.int (t := 2) (kd := .i64) (by kernel_rfl))
  (Y4o.cons (f := Field.mk "N" 2 5 false "" "" 40) (off := 5) (sz := 1) rfl (by kernel_rfl) (Y4l.int (t := 2) (kd := .i64) (by kernel_rfl))
  (Y4o.cons (f := Field.mk "Text" 9 6 false "" "" 48) (off := 6) (sz := 1) rfl (by kernel_rfl) (Y4l.string (t := 9) (by kernel_rfl))
  (Y4o.cons (f := Field.mk "Prev" 39 7 false "" "" 64) (off := 7) (sz := 1) rfl (by kernel_rfl) (Y4l.slice (t := 39) (sz := 1) (k := kI64) (by kernel_rfl) (Y4l.int (t := 2) (kd := .i64) (by kernel_rfl)) (by kernel_rfl) (by decide))
  (Y4o.cons (f := Field.mk "Time" 2 8 false "" "" 88) (off := 8) (sz := 1) rfl (by kernel_rfl) (Y4l.int (t := 2) (kd := .i64) (by kernel_rfl)) Y4o.nil))))))))) (by kernel_rfl)) (fun _ => rfl) (fun g h => ⟨h.1, h.2.1, h.2.2.1, h.2.2.2.1, h.2.2.2.2.1, h.2.2.2.2.2.1, h.2.2.2.2.2.2.1, h.2.2.2.2.2.2.2.1, h.2.2.2.2.2.2.2.2.1⟩)
theorem Yru : Y4l Tryz.prog 297 Ya6 Yrf :=
 Y4l.map (fun g => Y9s.mk g.1 g.2.1 g.2.2.1) (Y4l.struct (t := 297) (fs := #[_, _, _]) (by kernel_rfl) (Y4o.cons (f := Field.mk "Room" 2 0 false "" "" 0) (off := 0) (sz := 1) rfl (by kernel_rfl) (Y4l.int (t := 2) (kd := .i64) (by kernel_rfl))
  (Y4o.cons (f := Field.mk "Events" 295 1 false "" "" 8) (off := 1) (sz := 1) rfl (by kernel_rfl) (Y4l.slice (t := 295) (sz := 9) (k := Ya5) (by kernel_rfl) Yrt (by kernel_rfl) (by decide))
  (Y4o.cons (f := Field.mk "Parked" 295 2 false "" "" 32) (off := 2) (sz := 1) rfl (by kernel_rfl) (Y4l.slice (t := 295) (sz := 9) (k := Ya5) (by kernel_rfl) Yrt (by kernel_rfl) (by decide)) Y4o.nil))) (by kernel_rfl)) (fun _ => rfl) (fun g h => ⟨h.1, h.2.1, h.2.2.1⟩)
theorem Yrv : Y4l Tryz.prog 77 kHub Yrh :=
 Y4l.map (fun g => THub.mk g.1 g.2.1) (Y4l.struct (t := 77) (fs := #[_, _]) (by kernel_rfl) (Y4o.cons (f := Field.mk "Rooms" 74 0 false "" "" 0) (off := 0) (sz := 1) rfl (by kernel_rfl) (Y4l.slice (t := 74) (sz := 3) (k := Ya6) (by kernel_rfl) Yru (by kernel_rfl) (by decide))
  (Y4o.cons (f := Field.mk "Stream" 75 1 false "" "" 24) (off := 1) (sz := 1) rfl (by kernel_rfl) (Y4l.slice (t := 75) (sz := 2) (k := Ya7) (by kernel_rfl) Yrs (by kernel_rfl) (by decide)) Y4o.nil)) (by kernel_rfl)) (fun _ => rfl) (fun g h => ⟨h.1, h.2.1⟩)
theorem Yrw : Y4l Tryz.prog 59 Yay Yrj :=
 Y4l.map (fun g => Y9v.mk g.1 g.2.1) (Y4l.struct (t := 59) (fs := #[_, _]) (by kernel_rfl) (Y4o.cons (f := Field.mk "Hubs" 56 0 false "" "" 0) (off := 0) (sz := 1) rfl (by kernel_rfl) (Y4l.slice (t := 56) (sz := 2) (k := kHub) (by kernel_rfl) Yrv (by kernel_rfl) (by decide))
  (Y4o.cons (f := Field.mk "Letters" 57 1 false "" "" 24) (off := 1) (sz := 1) rfl (by kernel_rfl) (Y4l.slice (t := 57) (sz := 5) (k := Ya8) (by kernel_rfl) Yrr (by kernel_rfl) (by decide)) Y4o.nil)) (by kernel_rfl)) (fun _ => rfl) (fun g h => ⟨h.1, h.2.1⟩)

theorem rowA : ownKnob Tryz.checked.prog.godebug = none := by kernel_rfl
theorem rowB : Tryz.checked.prog.inits.idxOf? 5 = none := by kernel_rfl
theorem rowC : laidOutB Tryz.checked.prog = true := by kernel_rfl
theorem rowD : ([59, 2].all fun t => Tryz.checked.prog.readableRec t && decide (t < Tryz.checked.prog.types.size)) = true := by kernel_rfl
theorem rowE : Tryz.checked.prog.underlying 4 = some .bool := by kernel_rfl
set_option maxRecDepth 100000 in
theorem Yrx (os : Os) (started : os.Started) (H : Type) (enc : TypeId × Value → H) :
  ReturnsInHanded {} Tryz.checked os 5 .any (Rows.fnExactPeerLoseSpec.pre6 enc Tryz.prog Tryz.f5 Rows.fnExactPeerLoseRow.domain false) (Rows.fnExactPeerLoseSpec.post enc Tryz.prog Tryz.f5 false true false false) :=
 Y4u (C := Tryz.checked) (ts := [59, 2]) (tb := 4) rowA started rowB Tryz.func5
  (ChangeSpec.witness6 (enc := enc) (C := Tryz.checked) false ⟨#[], #[.agg #[.slice none 0 0, .slice none 0 0], .int .i64 0], []⟩ 8 (by kernel_rfl) (by kernel_rfl) (by kernel_rfl) (by kernel_rfl))
  rowC rfl rowD rfl rowE rfl (fun ds h => match ds, h with | [_, _], _ => rfl)
  (Y4p.consA (t := 59) (fs := #[Field.mk "Hubs" 56 0 false "" "" 0, Field.mk "Letters" 57 1 false "" "" 24]) (by kernel_rfl) Yrw (Y4p.cons (t := 2) (d := .int .i64) (by kernel_rfl) rfl (Y4l.int (t := 2) (kd := .i64) (by kernel_rfl)) Y4p.nil))
  (fun g hg => (Zl8 g.1 g.2.1).h true (Yrq g.1 g.2.1 hg.1 hg.2.1)) (fun _ _ _ h => h.elim)

theorem andI {a b : Bool} (h : a = true) (k : b = true) : (a && b) = true := by rw [h, k]; rfl
set_option maxHeartbeats 100000000 in
theorem rowF : joinedFacts Tryz.checked.prog 5 Tryz.f5 Rows.fnExactPeerLoseSpec Rows.fnExactPeerLoseRow = true := by
 unfold joinedFacts
 iterate 31 refine andI ?_ (by as_aux_lemma => kernel_rfl)
 as_aux_lemma => kernel_rfl
theorem fnExactPeerLose_holds : Rows.FnExactPeerLoseSaid :=
 OpenClaim.holds_of_wide 5 Tryz.f5 rfl rfl rfl rfl rfl rfl rfl ⟨rfl, rfl, rfl, rfl, rfl⟩ rfl rfl rfl rfl rfl (by kernel_rfl) Tryz.func5 rowF
  (Wo (by kernel_rfl)) (by unfold Func.isWrapper; first | (rw [if_pos (by decide +kernel)]; kernel_rfl) | (rw [if_neg (by decide +kernel)]; exact ⟨rfl, rfl⟩))
  (fun os started H enc _ => Yrx os started H enc)

end Go.Proofs.YtmaefakalikkiaaGreat
