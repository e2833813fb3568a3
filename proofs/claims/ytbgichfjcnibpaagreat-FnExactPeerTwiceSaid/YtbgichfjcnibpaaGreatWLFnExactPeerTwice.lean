/- FnExactPeerTwice: for all peers and every letter's place the law returns true; no condition. -/
import Derived.Test.YtbgichfjcnibpaaGreatWIC
import Derived.Test.YtbgichfjcnibpaaGreatRows
set_option autoImplicit false
set_option linter.unusedVariables false
set_option linter.unusedSimpArgs false
namespace Go.Proofs.YtbgichfjcnibpaaGreat
open Go Go.Abs

structure Yqa (x : Y8v) : Prop where
 id : IntKind.i64.min ≤ x.id ∧ x.id ≤ IntKind.i64.max
 room : IntKind.i64.min ≤ x.room ∧ x.room ≤ IntKind.i64.max
 author : IntKind.i64.min ≤ x.author ∧ x.author ≤ IntKind.i64.max
 kind : IntKind.i64.min ≤ x.kind ∧ x.kind ≤ IntKind.i64.max
 key : IntKind.i64.min ≤ x.key ∧ x.key ≤ IntKind.i64.max
 n : IntKind.i64.min ≤ x.n ∧ x.n ≤ IntKind.i64.max
 text : x.text.size ≤ maxLen
 prev : x.prev.length ≤ maxLen ∧ ∀ y ∈ x.prev, (IntKind.i64.min ≤ y ∧ y ≤ IntKind.i64.max)
 time : IntKind.i64.min ≤ x.time ∧ x.time ≤ IntKind.i64.max
structure Yqb (x : Y8w) : Prop where
 room : IntKind.i64.min ≤ x.room ∧ x.room ≤ IntKind.i64.max
 events : x.events.length ≤ maxLen ∧ ∀ y ∈ x.events, Yqa y
 parked : x.parked.length ≤ maxLen ∧ ∀ y ∈ x.parked, Yqa y
structure Yqc (x : Y8x) : Prop where
 room : IntKind.i64.min ≤ x.room ∧ x.room ≤ IntKind.i64.max
 id : IntKind.i64.min ≤ x.id ∧ x.id ≤ IntKind.i64.max
structure Yqd (x : THub) : Prop where
 rooms : x.rooms.length ≤ maxLen ∧ ∀ y ∈ x.rooms, Yqb y
 stream : x.stream.length ≤ maxLen ∧ ∀ y ∈ x.stream, Yqc y
structure Yqe (x : Y8y) : Prop where
 kind : IntKind.i64.min ≤ x.kind ∧ x.kind ≤ IntKind.i64.max
 from_ : IntKind.i64.min ≤ x.from_ ∧ x.from_ ≤ IntKind.i64.max
 to_ : IntKind.i64.min ≤ x.to_ ∧ x.to_ ≤ IntKind.i64.max
 room : IntKind.i64.min ≤ x.room ∧ x.room ≤ IntKind.i64.max
 text : x.text.size ≤ maxLen
structure Yqf (x : Y8z) : Prop where
 hubs : x.hubs.length ≤ maxLen ∧ ∀ y ∈ x.hubs, Yqd y
 letters : x.letters.length ≤ maxLen ∧ ∀ y ∈ x.letters, Yqe y


theorem Yqg {e : Y8v} (h : Yqa e) : EvIn e := ⟨h.text, h.prev.1⟩
theorem Yqh {g : Y8w} (h : Yqb g) : GIn g := ⟨h.events.1, h.parked.1, fun e he => Yqg (h.events.2 e he), fun e he => Yqg (h.parked.2 e he)⟩
theorem Yqi {h : THub} (k : Yqd h) : HIn h := ⟨k.rooms.1, fun g hg => Yqh (k.rooms.2 g hg), k.stream.1⟩
theorem Yqj {p : Y8z} (k : Yqf p) : PIn p := ⟨k.hubs.1, fun h hh => Yqi (k.hubs.2 h hh), k.letters.1, fun x hx => (k.letters.2 x hx).text⟩
theorem Yqk {h : THub} (s : Yob h) : Yni (toH h) := ⟨by show (h.rooms.map toG).length ≤ _; rw [List.length_map]; exact s.rl, s.sl, fun g hg => by
 obtain ⟨g0, h1, rfl⟩ := List.mem_map.1 hg
 exact Ym1 (s.rg g0 h1).1 (s.rg g0 h1).2⟩
theorem Yql {p : Y8z} (s : Yp7 p) : Ypv (toP p) := ⟨(Ypg s).1, fun h hh => by
 obtain ⟨h0, h1, rfl⟩ := List.mem_map.1 hh
 exact Yqk (s.hs h0 h1), s.ll⟩

theorem Yqm (p : Y8z) (i : Int) (hp : Yqf p) (_ : IntKind.i64.min ≤ i ∧ i ≤ IntKind.i64.max) : Zko p i = some true := by
 unfold Zko
 obtain ⟨z, z1, z2⟩ := Ypb p 1048576 (Yqj hp) (by omega) (by omega)
 rw [z1, Wb]
 rcases z2 with ⟨z2, _, hs⟩ | rfl
 ·
  rw [Wf (by omega), Wv]
  obtain ⟨v, s1, i1, v1, v2⟩ := Yq9 _ (Yql hs) i
  have hv : Yoz v.peers.hubs := by
   rcases v1 with e | e
   ·
    rw [e]; exact ⟨by simp, by simp⟩
   ·
    rw [e]; exact Ypg hs
  have hw : wtG wHu v.peers.hubs ≤ 2097152000000 := by
   rcases v1 with e | e
   ·
    rw [e]; simp [wtG]
   ·
    rw [e]; exact Ypl hs
  have hl : (toP p).letters.length ≤ 1048577 := by have := hs.ll; show p.letters.length ≤ _; omega
  have hw' := Ypl hs
  have q1 := Ypq v hv v2
  have q2 := Ypp (toP p) (Ypg hs) hl
  have q3 := Yp5 (toP p) 1 (Ypg hs) hl (by omega) (by omega)
  have q4 := Ypr v hv v2 hw
  have q5 := Yps v hv v2 hw
  have e2 : decide ((1 : Int) + wtG wHu (toP p).hubs + wtG wLe (toP p).letters < 0) = false := Wf (by omega)
  have e3 : decide ((1 : Int) + wtG wHu v.peers.hubs + wtG wLe v.peers.letters < 0) = false := Wf (by omega)
  rw [Ype p hs, Wb, s1, Wb, Wb, i1, Wb, q1, Wb, Wu, Wb, q2, Wb, Wu, q3, Wb]
  simp only [e2, Wv, Wb, Bool.not_true, Zkn, q4, q5, e3, bne_self_eq_false, Ype p hs, i1, q1, Wu]
 ·
  rfl
theorem Yqn : Y49 Tryz.prog 203 Y9c Yqe :=
 Y49.map (fun g => Y8y.mk g.1 g.2.1 g.2.2.1 g.2.2.2.1 g.2.2.2.2.1) (Y49.struct (t := 203) (fs := #[_, _, _, _, _]) (by kernel_rfl) (Y4c.cons (f := Field.mk "Kind" 2 0 false "" "" 0) (off := 0) (sz := 1) rfl (by kernel_rfl) (Y49.int (t := 2) (kd := .i64) (by kernel_rfl))
  (Y4c.cons (f := Field.mk "From" 2 1 false "" "" 8) (off := 1) (sz := 1) rfl (by kernel_rfl) (Y49.int (t := 2) (kd := .i64) (by kernel_rfl))
  (Y4c.cons (f := Field.mk "To" 2 2 false "" "" 16) (off := 2) (sz := 1) rfl (by kernel_rfl) (Y49.int (t := 2) (kd := .i64) (by kernel_rfl))
  (Y4c.cons (f := Field.mk "Room" 2 3 false "" "" 24) (off := 3) (sz := 1) rfl (by kernel_rfl) (Y49.int (t := 2) (kd := .i64) (by kernel_rfl))
  (Y4c.cons (f := Field.mk "Text" 9 4 false "" "" 32) (off := 4) (sz := 1) rfl (by kernel_rfl) (Y49.string (t := 9) (by kernel_rfl)) Y4c.nil))))) (by kernel_rfl)) (fun _ => rfl) (fun g h => ⟨h.1, h.2.1, h.2.2.1, h.2.2.2.1, h.2.2.2.2.1⟩)
theorem Yqo : Y49 Tryz.prog 185 Y9b Yqc :=
 Y49.map (fun g => Y8x.mk g.1 g.2.1) (Y49.struct (t := 185) (fs := #[_, _]) (by kernel_rfl) (Y4c.cons (f := Field.mk "Room" 2 0 false "" "" 0) (off := 0) (sz := 1) rfl (by kernel_rfl) (Y49.int (t := 2) (kd := .i64) (by kernel_rfl))
  (Y4c.cons (f := Field.mk "Id" 2 1 false "" "" 8) (off := 1) (sz := 1) rfl (by kernel_rfl) (Y49.int (t := 2) (kd := .i64) (by kernel_rfl)) Y4c.nil)) (by kernel_rfl)) (fun _ => rfl) (fun g h => ⟨h.1, h.2.1⟩)
theorem Yqp : Y49 Tryz.prog 273 Y99 Yqa :=
 Y49.map (fun g => Y8v.mk g.1 g.2.1 g.2.2.1 g.2.2.2.1 g.2.2.2.2.1 g.2.2.2.2.2.1 g.2.2.2.2.2.2.1 g.2.2.2.2.2.2.2.1 g.2.2.2.2.2.2.2.2.1) (Y49.struct (t := 273) (fs := #[_, _, _, _, _, _, _, _, _]) (by kernel_rfl) (Y4c.cons (f := Field.mk "Id" 2 0 false "" "" 0) (off := 0) (sz := 1) rfl (by kernel_rfl) (Y49.int (t := 2) (kd := .i64) (by kernel_rfl))
  (Y4c.cons (f := Field.mk "Room" 2 1 false "" "" 8) (off := 1) (sz := 1) rfl (by kernel_rfl) (Y49.int (t := 2) (kd := .i64) (by kernel_rfl))
  (Y4c.cons (f := Field.mk "Author" 2 2 false "" "" 16) (off := 2) (sz := 1) rfl (by kernel_rfl) (Y49.int (t := 2) (kd := .i64) (by kernel_rfl))
  (Y4c.cons (f := Field.mk "Kind" 2 3 false "" "" 24) (off := 3) (sz := 1) rfl (by kernel_rfl) (Y49.int (t := 2) (kd := .i64) (by kernel_rfl))
  (Y4c.cons (f := Field.mk "Key" 2 4 false "" "" 32) (off := 4) (sz := 1) rfl (by kernel_rfl) (Y49.int (t := 2) (kd := .i64) (by kernel_rfl))
  (Y4c.cons (f := Field.mk "N" 2 5 false "" "" 40) (off := 5) (sz := 1) rfl (by kernel_rfl) (Y49.int (t := 2) (kd := .i64) (by kernel_rfl))
  (Y4c.cons (f := Field.mk "Text" 9 6 false "" "" 48) (off := 6) (sz := 1) rfl (by kernel_rfl) (Y49.string (t := 9) (by kernel_rfl))
  (Y4c.cons (f := Field.mk "Prev" 57 7 false "" "" 64) (off := 7) (sz := 1) rfl (by kernel_rfl) (Y49.slice (t := 57) (sz := 1) (k := kI64) (by kernel_rfl) (Y49.int (t := 2) (kd := .i64) (by kernel_rfl)) (by kernel_rfl) (by decide))
  (Y4c.cons (f := Field.mk "Time" 2 8 false "" "" 88) (off := 8) (sz := 1) rfl (by kernel_rfl) (Y49.int (t := 2) (kd := .i64) (by kernel_rfl)) Y4c.nil))))))))) (by kernel_rfl)) (fun _ => rfl) (fun g h => ⟨h.1, h.2.1, h.2.2.1, h.2.2.2.1, h.2.2.2.2.1, h.2.2.2.2.2.1, h.2.2.2.2.2.2.1, h.2.2.2.2.2.2.2.1, h.2.2.2.2.2.2.2.2.1⟩)
theorem Yqq : Y49 Tryz.prog 176 Y9a Yqb :=
 Y49.map (fun g => Y8w.mk g.1 g.2.1 g.2.2.1) (Y49.struct (t := 176) (fs := #[_, _, _]) (by kernel_rfl) (Y4c.cons (f := Field.mk "Room" 2 0 false "" "" 0) (off := 0) (sz := 1) rfl (by kernel_rfl) (Y49.int (t := 2) (kd := .i64) (by kernel_rfl))
  (Y4c.cons (f := Field.mk "Events" 174 1 false "" "" 8) (off := 1) (sz := 1) rfl (by kernel_rfl) (Y49.slice (t := 174) (sz := 9) (k := Y99) (by kernel_rfl) Yqp (by kernel_rfl) (by decide))
  (Y4c.cons (f := Field.mk "Parked" 174 2 false "" "" 32) (off := 2) (sz := 1) rfl (by kernel_rfl) (Y49.slice (t := 174) (sz := 9) (k := Y99) (by kernel_rfl) Yqp (by kernel_rfl) (by decide)) Y4c.nil))) (by kernel_rfl)) (fun _ => rfl) (fun g h => ⟨h.1, h.2.1, h.2.2.1⟩)
theorem Yqr : Y49 Tryz.prog 25 kHub Yqd :=
 Y49.map (fun g => THub.mk g.1 g.2.1) (Y49.struct (t := 25) (fs := #[_, _]) (by kernel_rfl) (Y4c.cons (f := Field.mk "Rooms" 22 0 false "" "" 0) (off := 0) (sz := 1) rfl (by kernel_rfl) (Y49.slice (t := 22) (sz := 3) (k := Y9a) (by kernel_rfl) Yqq (by kernel_rfl) (by decide))
  (Y4c.cons (f := Field.mk "Stream" 23 1 false "" "" 24) (off := 1) (sz := 1) rfl (by kernel_rfl) (Y49.slice (t := 23) (sz := 2) (k := Y9b) (by kernel_rfl) Yqo (by kernel_rfl) (by decide)) Y4c.nil)) (by kernel_rfl)) (fun _ => rfl) (fun g h => ⟨h.1, h.2.1⟩)
def Yqs (x : Y8z) : List C := [C.im kHub 2 x.hubs, C.im Y9c 5 x.letters]
theorem Yqt : Y49 Tryz.prog 42 Yqs Yqf :=
 Y49.map (fun g => Y8z.mk g.1 g.2.1) (Y49.struct (t := 42) (fs := #[_, _]) (by kernel_rfl) (Y4c.cons (f := Field.mk "Hubs" 39 0 false "" "" 0) (off := 0) (sz := 1) rfl (by kernel_rfl) (Y49.slice (t := 39) (sz := 2) (k := kHub) (by kernel_rfl) Yqr (by kernel_rfl) (by decide))
  (Y4c.cons (f := Field.mk "Letters" 40 1 false "" "" 24) (off := 1) (sz := 1) rfl (by kernel_rfl) (Y49.slice (t := 40) (sz := 5) (k := Y9c) (by kernel_rfl) Yqn (by kernel_rfl) (by decide)) Y4c.nil)) (by kernel_rfl)) (fun _ => rfl) (fun g h => ⟨h.1, h.2.1⟩)

theorem rowA : ownKnob Tryz.checked.prog.godebug = none := by kernel_rfl
theorem rowB : Tryz.checked.prog.inits.idxOf? 4 = none := by kernel_rfl
theorem rowC : laidOutB Tryz.checked.prog = true := by kernel_rfl
theorem rowD : ([42, 2].all fun t => Tryz.checked.prog.readableRec t && decide (t < Tryz.checked.prog.types.size)) = true := by kernel_rfl
theorem rowE : Tryz.checked.prog.underlying 4 = some .bool := by kernel_rfl
set_option maxRecDepth 100000 in
theorem Yqu (os : Os) (started : os.Started) (H : Type) (enc : TypeId × Value → H) :
  ReturnsInHanded {} Tryz.checked os 4 .any (Rows.fnExactPeerTwiceSpec.pre6 enc Tryz.prog Tryz.f4 Rows.fnExactPeerTwiceRow.domain false) (Rows.fnExactPeerTwiceSpec.post enc Tryz.prog Tryz.f4 false true false false) :=
 Y4h (C := Tryz.checked) (ts := [42, 2]) (tb := 4) rowA started rowB Tryz.func4
  (ChangeSpec.witness6 (enc := enc) (C := Tryz.checked) false ⟨#[], #[.agg #[.slice none 0 0, .slice none 0 0], .int .i64 0], []⟩ 8 (by kernel_rfl) (by kernel_rfl) (by kernel_rfl) (by kernel_rfl))
  rowC rfl rowD rfl rowE rfl (fun ds h => match ds, h with | [_, _], _ => rfl)
  (Y4d.consA (t := 42) (fs := #[Field.mk "Hubs" 39 0 false "" "" 0, Field.mk "Letters" 40 1 false "" "" 24]) (by kernel_rfl) Yqt (Y4d.cons (t := 2) (d := .int .i64) (by kernel_rfl) rfl (Y49.int (t := 2) (kd := .i64) (by kernel_rfl)) Y4d.nil))
  (fun g hg => (Zkp g.1 g.2.1).h true (Yqm g.1 g.2.1 hg.1 hg.2.1))

theorem andI {a b : Bool} (h : a = true) (k : b = true) : (a && b) = true := by rw [h, k]; rfl
set_option maxHeartbeats 100000000 in
theorem rowF : joinedFacts Tryz.checked.prog 4 Tryz.f4 Rows.fnExactPeerTwiceSpec Rows.fnExactPeerTwiceRow = true := by
 unfold joinedFacts
 iterate 31 refine andI ?_ (by as_aux_lemma => kernel_rfl)
 as_aux_lemma => kernel_rfl
theorem fnExactPeerTwice_holds : Rows.FnExactPeerTwiceSaid :=
 OpenClaim.holds_of_wide 4 Tryz.f4 rfl rfl rfl rfl rfl rfl rfl ⟨rfl, rfl, rfl, rfl, rfl⟩ rfl rfl rfl rfl rfl (by kernel_rfl) Tryz.func4 rowF
  (Wo (by kernel_rfl)) (by unfold Func.isWrapper; first | (rw [if_pos (by decide +kernel)]; kernel_rfl) | (rw [if_neg (by decide +kernel)]; exact ⟨rfl, rfl⟩))
  (fun os started H enc _ => Yqu os started H enc)

end Go.Proofs.YtbgichfjcnibpaaGreat
