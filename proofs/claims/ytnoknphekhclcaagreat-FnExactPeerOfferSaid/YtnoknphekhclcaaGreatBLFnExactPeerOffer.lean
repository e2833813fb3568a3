/- FnExactPeerOffer: for all peers, places and rooms the law returns true; no condition. -/
import Derived.Test.YtnoknphekhclcaaGreatBKE
import Derived.Test.YtnoknphekhclcaaGreatRows
import Derived.Test.YtnoknphekhclcaaGreatBRS
set_option autoImplicit false
set_option linter.unusedVariables false
set_option linter.unusedSimpArgs false
namespace Go.Proofs.YtnoknphekhclcaaGreat
open Go Go.Abs

structure Yte (x : Yaa) : Prop where
 id : IntKind.i64.min ≤ x.id ∧ x.id ≤ IntKind.i64.max
 room : IntKind.i64.min ≤ x.room ∧ x.room ≤ IntKind.i64.max
 author : IntKind.i64.min ≤ x.author ∧ x.author ≤ IntKind.i64.max
 kind : IntKind.i64.min ≤ x.kind ∧ x.kind ≤ IntKind.i64.max
 key : IntKind.i64.min ≤ x.key ∧ x.key ≤ IntKind.i64.max
 n : IntKind.i64.min ≤ x.n ∧ x.n ≤ IntKind.i64.max
 text : x.text.size ≤ maxLen
 prev : x.prev.length ≤ maxLen ∧ ∀ y ∈ x.prev, (IntKind.i64.min ≤ y ∧ y ≤ IntKind.i64.max)
 time : IntKind.i64.min ≤ x.time ∧ x.time ≤ IntKind.i64.max
structure Ytf (x : Yab) : Prop where
 room : IntKind.i64.min ≤ x.room ∧ x.room ≤ IntKind.i64.max
 events : x.events.length ≤ maxLen ∧ ∀ y ∈ x.events, Yte y
 parked : x.parked.length ≤ maxLen ∧ ∀ y ∈ x.parked, Yte y
structure Ytg (x : Yac) : Prop where
 room : IntKind.i64.min ≤ x.room ∧ x.room ≤ IntKind.i64.max
 id : IntKind.i64.min ≤ x.id ∧ x.id ≤ IntKind.i64.max
structure Yth (x : THub) : Prop where
 rooms : x.rooms.length ≤ maxLen ∧ ∀ y ∈ x.rooms, Ytf y
 stream : x.stream.length ≤ maxLen ∧ ∀ y ∈ x.stream, Ytg y
structure Yti (x : Yad) : Prop where
 kind : IntKind.i64.min ≤ x.kind ∧ x.kind ≤ IntKind.i64.max
 from_ : IntKind.i64.min ≤ x.from_ ∧ x.from_ ≤ IntKind.i64.max
 to_ : IntKind.i64.min ≤ x.to_ ∧ x.to_ ≤ IntKind.i64.max
 room : IntKind.i64.min ≤ x.room ∧ x.room ≤ IntKind.i64.max
 text : x.text.size ≤ maxLen
structure Ytj (x : Yae) : Prop where
 hubs : x.hubs.length ≤ maxLen ∧ ∀ y ∈ x.hubs, Yth y
 letters : x.letters.length ≤ maxLen ∧ ∀ y ∈ x.letters, Yti y


theorem Ytk {e : Yaa} (h : Yte e) : EvIn e := ⟨h.text, h.prev.1⟩
theorem Ytl {g : Yab} (h : Ytf g) : GIn g := ⟨h.events.1, h.parked.1, fun e he => Ytk (h.events.2 e he), fun e he => Ytk (h.parked.2 e he)⟩
theorem Ytm {h : THub} (k : Yth h) : HIn h := ⟨k.rooms.1, fun g hg => Ytl (k.rooms.2 g hg), k.stream.1⟩
theorem Ytn {p : Yae} (k : Ytj p) : PIn p := ⟨k.hubs.1, fun h hh => Ytm (k.hubs.2 h hh), k.letters.1, fun x hx => (k.letters.2 x hx).text⟩
theorem Yto {h : THub} (s : Yqd h) : Ypk (toH h) := ⟨by show (h.rooms.map toG).length ≤ _; rw [List.length_map]; exact s.rl, s.sl, fun g hg => by
 obtain ⟨g0, h1, rfl⟩ := List.mem_map.1 hg
 exact Yo1 (s.rg g0 h1).1 (s.rg g0 h1).2⟩
theorem Ytp {p : Yae} (s : Yr9 p) : Yrx (toP p) := ⟨(Yri s).1, fun h hh => by
 obtain ⟨h0, h1, rfl⟩ := List.mem_map.1 hh
 exact Yto (s.hs h0 h1), s.ll⟩

theorem Ytq (p : Yae) (a b r : Int) (hp : Ytj p) (_ : IntKind.i64.min ≤ a ∧ a ≤ IntKind.i64.max) (_ : IntKind.i64.min ≤ b ∧ b ≤ IntKind.i64.max) (_ : IntKind.i64.min ≤ r ∧ r ≤ IntKind.i64.max) : Zms p a b r = some true := by
 unfold Zms
 obtain ⟨z, z1, z2⟩ := Yrd p 1048576 (Ytn hp) (by omega) (by omega)
 rw [z1, Wb]
 rcases z2 with ⟨z2, _, hs⟩ | rfl
 ·
  rw [Wf (by omega), Wv]
  obtain ⟨v, s1, i1, v1, v2⟩ := Ytd _ (Ytp hs) a b r
  have hv : Yr1 v.peers.hubs := by
   rcases v1 with e | e
   ·
    rw [e]; exact ⟨by simp, by simp⟩
   ·
    rw [e]; exact Yri hs
  have hw : wtG wHu v.peers.hubs ≤ 2097152000000 := by
   rcases v1 with e | e
   ·
    rw [e]; simp [wtG]
   ·
    rw [e]; exact Yrn hs
  have hl : (toP p).letters.length ≤ 1048577 := by have := hs.ll; show p.letters.length ≤ _; omega
  have hw' := Yrn hs
  have q1 := Yrs v hv v2
  have q2 := Yrr (toP p) (Yri hs) hl
  have q3 := Yr7 (toP p) 1 (Yri hs) hl (by omega) (by omega)
  have q4 := Yrt v hv v2 hw
  have q5 := Yru v hv v2 hw
  have e2 : decide ((1 : Int) + wtG wHu (toP p).hubs + wtG wLe (toP p).letters < 0) = false := Wf (by omega)
  have e3 : decide ((1 : Int) + wtG wHu v.peers.hubs + wtG wLe v.peers.letters < 0) = false := Wf (by omega)
  rw [Yrg p hs, Wb, s1, Wb, Wb, i1, Wb, q1, Wb, Wu, Wb, q2, Wb, Wu, q3, Wb]
  simp only [e2, Wv, Wb, Bool.not_true, Zmr, q4, q5, e3, bne_self_eq_false, Yrg p hs, i1, q1, Wu]
 ·
  rfl
theorem Ytr : Y4n Tryz.prog 105 Yas Yti :=
 Y4n.map (fun g => Yad.mk g.1 g.2.1 g.2.2.1 g.2.2.2.1 g.2.2.2.2.1) (Y4n.struct (t := 105) (fs := #[_, _, _, _, _]) (by kernel_rfl) (Y4q.cons (f := Field.mk "Kind" 2 0 false "" "" 0) (off := 0) (sz := 1) rfl (by kernel_rfl) (Y4n.int (t := 2) (kd := .i64) (by kernel_rfl))
  (Y4q.cons (f := Field.mk "From" 2 1 false "" "" 8) (off := 1) (sz := 1) rfl (by kernel_rfl) (Y4n.int (t := 2) (kd := .i64) (by kernel_rfl))
  (Y4q.cons (f := Field.mk "To" 2 2 false "" "" 16) (off := 2) (sz := 1) rfl (by kernel_rfl) (Y4n.int (t := 2) (kd := .i64) (by kernel_rfl))
  (Y4q.cons (f := Field.mk "Room" 2 3 false "" "" 24) (off := 3) (sz := 1) rfl (by kernel_rfl) (Y4n.int (t := 2) (kd := .i64) (by kernel_rfl))
  (Y4q.cons (f := Field.mk "Text" 9 4 false "" "" 32) (off := 4) (sz := 1) rfl (by kernel_rfl) (Y4n.string (t := 9) (by kernel_rfl)) Y4q.nil))))) (by kernel_rfl)) (fun _ => rfl) (fun g h => ⟨h.1, h.2.1, h.2.2.1, h.2.2.2.1, h.2.2.2.2.1⟩)
theorem Yts : Y4n Tryz.prog 254 Yar Ytg :=
 Y4n.map (fun g => Yac.mk g.1 g.2.1) (Y4n.struct (t := 254) (fs := #[_, _]) (by kernel_rfl) (Y4q.cons (f := Field.mk "Room" 2 0 false "" "" 0) (off := 0) (sz := 1) rfl (by kernel_rfl) (Y4n.int (t := 2) (kd := .i64) (by kernel_rfl))
  (Y4q.cons (f := Field.mk "Id" 2 1 false "" "" 8) (off := 1) (sz := 1) rfl (by kernel_rfl) (Y4n.int (t := 2) (kd := .i64) (by kernel_rfl)) Y4q.nil)) (by kernel_rfl)) (fun _ => rfl) (fun g h => ⟨h.1, h.2.1⟩)
theorem Ytt : Y4n Tryz.prog 44 Yap Yte :=
 Y4n.map (fun g => Yaa.mk g.1 g.2.1 g.2.2.1 g.2.2.2.1 g.2.2.2.2.1 g.2.2.2.2.2.1 g.2.2.2.2.2.2.1 g.2.2.2.2.2.2.2.1 g.2.2.2.2.2.2.2.2.1) (Y4n.struct (t := 44) (fs := #[_, _, _, _, _, _, _, _, _]) (by kernel_rfl) (Y4q.cons (f := Field.mk "Id" 2 0 false "" "" 0) (off := 0) (sz := 1) rfl (by kernel_rfl) (Y4n.int (t := 2) (kd := .i64) (by kernel_rfl))
  (Y4q.cons (f := Field.mk "Room" 2 1 false "" "" 8) (off := 1) (sz := 1) rfl (by kernel_rfl) (Y4n.int (t := 2) (kd := .i64) (by kernel_rfl))
  (Y4q.cons (f := Field.mk "Author" 2 2 false "" "" 16) (off := 2) (sz := 1) rfl (by kernel_rfl) (Y4n.int (t := 2) (kd := .i64) (by kernel_rfl))
  (Y4q.cons (f := Field.mk "Kind" 2 3 false "" "" 24) (off := 3) (sz := 1) rfl (by kernel_rfl) (Y4n.int (t := 2) (kd := .i64) (by kernel_rfl))
  (Y4q.cons (f := Field.mk "Key" 2 4 false "" "" 32) (off := 4) (sz := 1) rfl (by kernel_rfl) (Y4n.int (t := 2) (kd := .i64) (by kernel_rfl))
  (Y4q.cons (f := Field.mk "N" 2 5 false "" "" 40) (off := 5) (sz := 1) rfl (by kernel_rfl) (Y4n.int (t := 2) (kd := .i64) (by kernel_rfl))
  (Y4q.cons (f := Field.mk "Text" 9 6 false "" "" 48) (off := 6) (sz := 1) rfl (by kernel_rfl) (Y4n.string (t := 9) (by kernel_rfl))
  (Y4q.cons (f := Field.mk "Prev" 42 7 false "" "" 64) (off := 7) (sz := 1) rfl (by kernel_rfl) (Y4n.slice (t := 42) (sz := 1) (k := kI64) (by kernel_rfl) (Y4n.int (t := 2) (kd := .i64) (by kernel_rfl)) (by kernel_rfl) (by decide))
  (Y4q.cons (f := Field.mk "Time" 2 8 false "" "" 88) (off := 8) (sz := 1) rfl (by kernel_rfl) (Y4n.int (t := 2) (kd := .i64) (by kernel_rfl)) Y4q.nil))))))))) (by kernel_rfl)) (fun _ => rfl) (fun g h => ⟨h.1, h.2.1, h.2.2.1, h.2.2.2.1, h.2.2.2.2.1, h.2.2.2.2.2.1, h.2.2.2.2.2.2.1, h.2.2.2.2.2.2.2.1, h.2.2.2.2.2.2.2.2.1⟩)
theorem Ytu : Y4n Tryz.prog 248 Yaq Ytf :=
 Y4n.map (fun g => Yab.mk g.1 g.2.1 g.2.2.1) (Y4n.struct (t := 248) (fs := #[_, _, _]) (by kernel_rfl) (Y4q.cons (f := Field.mk "Room" 2 0 false "" "" 0) (off := 0) (sz := 1) rfl (by kernel_rfl) (Y4n.int (t := 2) (kd := .i64) (by kernel_rfl))
  (Y4q.cons (f := Field.mk "Events" 246 1 false "" "" 8) (off := 1) (sz := 1) rfl (by kernel_rfl) (Y4n.slice (t := 246) (sz := 9) (k := Yap) (by kernel_rfl) Ytt (by kernel_rfl) (by decide))
  (Y4q.cons (f := Field.mk "Parked" 246 2 false "" "" 32) (off := 2) (sz := 1) rfl (by kernel_rfl) (Y4n.slice (t := 246) (sz := 9) (k := Yap) (by kernel_rfl) Ytt (by kernel_rfl) (by decide)) Y4q.nil))) (by kernel_rfl)) (fun _ => rfl) (fun g h => ⟨h.1, h.2.1, h.2.2.1⟩)
theorem Ytv : Y4n Tryz.prog 103 kHub Yth :=
 Y4n.map (fun g => THub.mk g.1 g.2.1) (Y4n.struct (t := 103) (fs := #[_, _]) (by kernel_rfl) (Y4q.cons (f := Field.mk "Rooms" 100 0 false "" "" 0) (off := 0) (sz := 1) rfl (by kernel_rfl) (Y4n.slice (t := 100) (sz := 3) (k := Yaq) (by kernel_rfl) Ytu (by kernel_rfl) (by decide))
  (Y4q.cons (f := Field.mk "Stream" 101 1 false "" "" 24) (off := 1) (sz := 1) rfl (by kernel_rfl) (Y4n.slice (t := 101) (sz := 2) (k := Yar) (by kernel_rfl) Yts (by kernel_rfl) (by decide)) Y4q.nil)) (by kernel_rfl)) (fun _ => rfl) (fun g h => ⟨h.1, h.2.1⟩)
theorem Ytw : Y4n Tryz.prog 25 Ybj Ytj :=
 Y4n.map (fun g => Yae.mk g.1 g.2.1) (Y4n.struct (t := 25) (fs := #[_, _]) (by kernel_rfl) (Y4q.cons (f := Field.mk "Hubs" 22 0 false "" "" 0) (off := 0) (sz := 1) rfl (by kernel_rfl) (Y4n.slice (t := 22) (sz := 2) (k := kHub) (by kernel_rfl) Ytv (by kernel_rfl) (by decide))
  (Y4q.cons (f := Field.mk "Letters" 23 1 false "" "" 24) (off := 1) (sz := 1) rfl (by kernel_rfl) (Y4n.slice (t := 23) (sz := 5) (k := Yas) (by kernel_rfl) Ytr (by kernel_rfl) (by decide)) Y4q.nil)) (by kernel_rfl)) (fun _ => rfl) (fun g h => ⟨h.1, h.2.1⟩)

set_option maxRecDepth 100000 in
theorem Ytx (os : Os) (started : os.Started) (H : Type) (enc : TypeId × Value → H) :
  ReturnsInHanded {} Tryz.checked os 3 .any (Rows.fnExactPeerOfferSpec.pre6 enc Tryz.prog Tryz.f3 Rows.fnExactPeerOfferRow.domain false) (Rows.fnExactPeerOfferSpec.post enc Tryz.prog Tryz.f3 false true false false) :=
 Y4x (C := Tryz.checked) (ts := [25, 2, 2, 2]) (tb := 4) rowA started rowB Tryz.func3
  (rowW os H enc)
  rowC rfl rowD rfl rowE rfl (fun ds h => match ds, h with | [_, _, _, _], _ => rfl)
  (Y4r.consA (t := 25) (fs := #[Field.mk "Hubs" 22 0 false "" "" 0, Field.mk "Letters" 23 1 false "" "" 24]) (by kernel_rfl) Ytw (Y4r.cons (t := 2) (d := .int .i64) (by kernel_rfl) rfl (Y4n.int (t := 2) (kd := .i64) (by kernel_rfl)) (Y4r.cons (t := 2) (d := .int .i64) (by kernel_rfl) rfl (Y4n.int (t := 2) (kd := .i64) (by kernel_rfl)) (Y4r.cons (t := 2) (d := .int .i64) (by kernel_rfl) rfl (Y4n.int (t := 2) (kd := .i64) (by kernel_rfl)) Y4r.nil))))
  (fun g hg => (Zmt g.1 g.2.1 g.2.2.1 g.2.2.2.1).h true (Ytq g.1 g.2.1 g.2.2.1 g.2.2.2.1 hg.1 hg.2.1 hg.2.2.1 hg.2.2.2.1)) (fun _ _ _ h => h.elim)
theorem fnExactPeerOffer_holds : Rows.FnExactPeerOfferSaid :=
 rowS fun os started H enc => Ytx os started H enc

end Go.Proofs.YtnoknphekhclcaaGreat
