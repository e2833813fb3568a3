/- Printed by gen.py: plain functions for Go functions, and that the walks keep to them. -/
import Derived.Test.YtbgichfjcnibpaaGreatTQ3
set_option autoImplicit false
set_option linter.unusedVariables false
set_option linter.unusedSimpArgs false
set_option maxHeartbeats 1000000
set_option maxRecDepth 100000
namespace Go.Proofs.YtbgichfjcnibpaaGreat
open Go Go.Abs
attribute [local irreducible] AW Ops OpsD Y3n
def Z7e (l82 : List Int) : Option (List Int) := some l82
def Z7f (x42 : Int) (l80 : List Int) : Option ((List Int × Int) ⊕ ((List Int))) := some (.inl (l80, (IntKind.i64.wrap (x42 + 1))))
def Z7g (x62 : Int) (l78 : List Int) : Option ((List Int × Int) ⊕ ((List Int))) := some (.inl (l78, (IntKind.i64.wrap (x62 + 1))))
def Z7h (l61 : List Int) (x62 : Int) (x71 : Bool) : Option ((List Int × Int) ⊕ ((List Int))) := cond x71 ((chk (decide ((l61.length + [x62].length) * 8 ≤ 140737488355328))).bind fun u75 => Z7g x62 (l61 ++ [x62])) (Z7g x62 l61)
def Z7i (p0 : Y96) (p1 : Int) (p2 : Int) (x42 : Int) (l61 : List Int) (x62 : Int) : Option ((List Int × Int) ⊕ ((List Int))) := (getI p0.pos (IntKind.i64.wrap (p2 - 1))).bind fun e63 => cond (decide (x62 < (e63.length : Int))) ((getI e63 x62).bind fun e66 => cond (e66 == x42) ((Z7c p0 p1 p2 x62).bind fun r69 => Z7h l61 x62 r69) (Z7h l61 x62 false)) (some (.inr l61))
def Z7j (p0 : Y96) (p1 : Int) (p2 : Int) (l41 : List Int) (x42 : Int) : Option ((List Int × Int) ⊕ ((List Int))) := cond (decide (x42 ≤ (p0.h.stream.length : Int))) ((iter (fun z84 => Z7i p0 p1 p2 x42 z84.1 z84.2) big (l41, 0)).bind fun y85 => Z7f x42 y85) (some (.inr l41))
def Z7k (p0 : Y96) (p1 : Int) (p2 : Int) : Option (List Int) := (iter (fun z86 => Z7j p0 p1 p2 z86.1 z86.2) big (([] : List Int), 1)).bind fun y87 => Z7e y87
theorem Z7l (p0 : Y96) (p1 : Int) (p2 : Int) (r : List Int) (h : Z7k p0 p1 p2 = some r) : Ok Tryz.prog 98 [C.ip [cM Y9g 3 p0.h.rooms, cM Y9d 2 p0.h.stream, cM Y9m 1 p0.rooms, cM Y9n 1 p0.pos, cM Y9k 1 p0.now], cI p1, cI p2] [] (fun c qs => ∃ (v83 : Value), c = cV v83 ∧ qs = [oA v83 3 kI64 1 r]) := by
 refine Ok.of_body (rs := [.tmp 6]) Tryz.func98 rfl rfl rfl rfl rfl fun X => ?_
 unfold Z7k at h
 refine zw ?_
 refine Ops.h (ns := []) rfl rfl (Y39 (k := kI64) (ys := ([] : List Int)) Ycu .nil rfl rfl rfl) ?_
 rintro _ _ ⟨b1, rfl, rfl⟩
 refine Ops.v rfl (Yr rfl rfl) ?_
 refine Ops.nil ?_
 refine AW.seq ?_
 refine AW.cut (τ := List Int × Value) (fun (l82, v81) => ⟨[(7, cV v81)], [oA v81 3 kI64 1 l82]⟩) (fun (l82, v81) => Z7e l82 = some r) ?_ ?_
 ·
  refine zw ?_
  refine AW.lp h (fun (l41, x42) (v40 : Value) => ⟨[(0, C.ip [cM Y9g 3 p0.h.rooms, cM Y9d 2 p0.h.stream, cM Y9m 1 p0.rooms, cM Y9n 1 p0.pos, cM Y9k 1 p0.now]), (1, cI p1), (2, cI p2), (7, cV v40), (8, cI x42)], [oA v40 3 kI64 1 l41]⟩) (gb [0]) ?_
  rintro ⟨l41, x42⟩ v40 y93 h
  refine zw ?_
  refine cnd h (fun hb43 h => ?_) fun hb43 h => ?_
  ·
   refine AW.ct hb43 rfl ?_
   refine zw ?_
   refine AW.lp h (fun (l61, x62) (v60 : Value) => ⟨[(0, C.ip [cM Y9g 3 p0.h.rooms, cM Y9d 2 p0.h.stream, cM Y9m 1 p0.rooms, cM Y9n 1 p0.pos, cM Y9k 1 p0.now]), (1, cI p1), (2, cI p2), (7, cV v60), (8, cI x42), (9, cI x62)], [oA v60 3 kI64 1 l61]⟩) (gb [0]) ?_
   rintro ⟨l61, x62⟩ v60 y100 h
   refine zw ?_
   refine oi h fun e63 g64 h => ?_
   refine zw ?_
   refine cnd h (fun hb65 h => ?_) fun hb65 h => ?_
   ·
    refine AW.ct hb65 rfl ?_
    refine AW.skip ?_
    refine AW.seq ?_
    refine AW.block ?_
    refine AW.seq ?_
    refine AW.cut (τ := Bool) (fun x71 => ⟨[(0, C.ip [cM Y9g 3 p0.h.rooms, cM Y9d 2 p0.h.stream, cM Y9m 1 p0.rooms, cM Y9n 1 p0.pos, cM Y9k 1 p0.now]), (1, cI p1), (2, cI p2), (7, cV v60), (8, cI x42), (9, cI x62), (53, C.bool x71)], [oA v60 3 kI64 1 l61]⟩) (fun x71 => Z7h l61 x62 x71 = some y100) ?_ ?_
    ·
     refine zw ?_
     refine oi h fun e66 g67 h => ?_
     refine zw ?_
     refine cnd h (fun hb68 h => ?_) fun hb68 h => ?_
     ·
      refine zw ?_
      refine ob' h fun r69 g70 h => ?_
      refine Ops.ghd (ns := []) rfl rfl rfl rfl hb68 rfl (Y24 ((Z7d _ _ _ _).h _ g70) rfl rfl) ?_
      exact go
     exact go
    intro x71 h
    replace h : Z7h l61 x62 x71 = some y100 := h
    unfold Z7h at h
    refine cnd h (fun hb72 h => ?_) fun hb72 h => ?_
    ·
     refine AW.ct hb72 rfl ?_
     refine zw ?_
     refine Ops.h (ns := []) rfl rfl (Y39 (k := kI64) (ys := [x62]) Ycu (.one rfl (One.val rfl) rfl rfl .nil) rfl rfl rfl) ?_
     rintro _ _ ⟨b73, rfl, rfl⟩
     refine ob' h fun u75 c74 h => ?_
     refine Ops.h (ns := [1, 0]) rfl rfl (Y2s Ycu rfl rfl (Wo (Y3t c74)) (Y3w (by decide) c74) rfl) ?_
     rintro _ _ ⟨v76, rfl, rfl⟩
     exact go
    exact go
   exact go
  exact go
 rintro ⟨l82, v81⟩ h
 replace h : Z7e l82 = some r := h
 unfold Z7e at h
 refine zw ?_
 refine AW.ret ?_
 rw [← Wj h]
 exact ⟨[cV v81], _, Y21.refl _, (.cons (.tmp rfl) .nil), [0], _, _, rfl, ⟨v81, rfl, rfl⟩⟩
instance Z7l' (p0 : Y96) (p1 : Int) (p2 : Int) : Sp Tryz.prog 98 [C.ip [cM Y9g 3 p0.h.rooms, cM Y9d 2 p0.h.stream, cM Y9m 1 p0.rooms, cM Y9n 1 p0.pos, cM Y9k 1 p0.now], cI p1, cI p2] (Z7k p0 p1 p2) (fun r => cM kI64 1 r) := ⟨fun r h => Ok.freeze (Z7l p0 p1 p2 r h) (by rintro c qs ⟨v83, rfl, rfl⟩; exact Frz.arr)⟩

def Z7m (x40 : Int) : Option Int := some x40
def Z7n (x21 : Int) (x38 : Int) (x39 : Int) : Option ((Int × Int × Int) ⊕ (Int)) := some (.inl (x38, x39, (IntKind.i64.wrap (x21 + 1))))
def Z7o (x19 : Int) (x20 : Int) (x21 : Int) (e25 : Y8z) (e30 : Int) (x36 : Bool) : Option ((Int × Int × Int) ⊕ (Int)) := cond x36 (Z7n x21 e25.id e30) (Z7n x21 x19 x20)
def Z7p (p0 : Y96) (p1 : Int) (p2 : Int) (x19 : Int) (x20 : Int) (x21 : Int) : Option ((Int × Int × Int) ⊕ (Int)) := (getI p0.h.rooms (IntKind.i64.wrap (p1 - 1))).bind fun e22 => cond (decide (x21 < (e22.events.length : Int))) ((getI e22.events x21).bind fun e25 => (getI p0.pos (IntKind.i64.wrap (p1 - 1))).bind fun e28 => (getI e28 x21).bind fun e30 => cond (e25.kind == 8) (cond (e25.key == p2) (cond (decide (e30 > 0)) (cond (x19 == 0) (Z7o x19 x20 x21 e25 e30 true) (Z7o x19 x20 x21 e25 e30 (decide (e30 < x20)))) (Z7o x19 x20 x21 e25 e30 false)) (Z7o x19 x20 x21 e25 e30 false)) (Z7o x19 x20 x21 e25 e30 false)) (some (.inr x19))
def Z7q (p0 : Y96) (p1 : Int) (p2 : Int) : Option Int := (iter (fun z41 => Z7p p0 p1 p2 z41.1 z41.2.1 z41.2.2) big (0, 0, 0)).bind fun y42 => Z7m y42
instance Z7r (p0 : Y96) (p1 : Int) (p2 : Int) : Sp Tryz.prog 168 [C.ip [cM Y9g 3 p0.h.rooms, cM Y9d 2 p0.h.stream, cM Y9m 1 p0.rooms, cM Y9n 1 p0.pos, cM Y9k 1 p0.now], cI p1, cI p2] (Z7q p0 p1 p2) cI := sp Tryz.func168 rfl rfl fun r X h => by
 unfold Z7q at h
 refine zw ?_
 refine AW.lp (v := ()) h (fun (x19, x20, x21) (_ : Unit) => ⟨[(0, C.ip [cM Y9g 3 p0.h.rooms, cM Y9d 2 p0.h.stream, cM Y9m 1 p0.rooms, cM Y9n 1 p0.pos, cM Y9k 1 p0.now]), (1, cI p1), (2, cI p2), (7, cI x19), (8, cI x20), (9, cI x21)], []⟩) (gb []) ?_
 rintro ⟨x19, x20, x21⟩ _ y48 h
 refine zw ?_
 refine oi h fun e22 g23 h => ?_
 refine zw ?_
 refine cnd h (fun hb24 h => ?_) fun hb24 h => ?_
 ·
  refine AW.ct hb24 rfl ?_
  refine zw ?_
  refine oi h fun e25 g26 h => ?_
  refine zw ?_
  refine Ops.h (ns := []) rfl rfl (Y1p (cs := [cI 0, cI 0, cI 0, cI 0, cI 0, cI 0, C.str ByteArray.empty, cV s0, cI 0]) Yac (Y42 rfl rfl) rfl) ?_
  rintro _ _ ⟨b27, rfl, rfl⟩
  refine Ops.hd (ns := [0]) rfl rfl (Y1u (gs := [cI e25.id, cI e25.room, cI e25.author, cI e25.kind, cI e25.key, cI e25.n, C.str e25.text, cM kI64 1 e25.prev, cI e25.time]) Yat.h rfl rfl rfl rfl rfl) ?_
  exact go
 exact go

def Z7s (r6 : Y8z) (x15 : Bool) : Option Y97 := cond x15 (some (Y97.mk (Y8z.mk r6.id r6.room r6.author r6.kind r6.key r6.n ByteArray.empty r6.prev r6.time) true)) (some (Y97.mk r6 false))
def Z7t (p0 : Y96) (p1 : Int) (p2 : Int) : Option Y97 := (getI p0.h.rooms (IntKind.i64.wrap (p1 - 1))).bind fun e2 => (getI e2.events p2).bind fun e4 => (Z56 e4).bind fun r6 => cond (r6.kind == 7) ((Z7q p0 p1 r6.id).bind fun r10 => Z7s r6 (decide (r10 > 0))) (cond (r6.kind == 4) ((Z7q p0 p1 r6.id).bind fun r13 => Z7s r6 (decide (r13 > 0))) (Z7s r6 false))
instance Z7u (p0 : Y96) (p1 : Int) (p2 : Int) : Sp Tryz.prog 114 [C.ip [cM Y9g 3 p0.h.rooms, cM Y9d 2 p0.h.stream, cM Y9m 1 p0.rooms, cM Y9n 1 p0.pos, cM Y9k 1 p0.now], cI p1, cI p2] (Z7t p0 p1 p2) (fun r => C.agg [cI r.event.id, cI r.event.room, cI r.event.author, cI r.event.kind, cI r.event.key, cI r.event.n, C.str r.event.text, cM kI64 1 r.event.prev, cI r.event.time, C.bool r.hidden]) := sp Tryz.func114 rfl rfl fun r X h => by
 unfold Z7t at h
 refine zw ?_
 refine Ops.h (ns := []) rfl rfl (Y1p (cs := [cI 0, cI 0, cI 0, cI 0, cI 0, cI 0, C.str ByteArray.empty, cV s0, cI 0, C.bool false]) Ycv (Y42 rfl rfl) rfl) ?_
 rintro _ _ ⟨b1, rfl, rfl⟩
 refine zw ?_
 refine oi h fun e2 g3 h => ?_
 refine zw ?_
 refine oi h fun e4 g5 h => ?_
 refine zw ?_
 refine oc h fun r6 g7 h => ?_
 refine Ops.h (ns := []) rfl rfl (Y1p (cs := [cI 0, cI 0, cI 0, cI 0, cI 0, cI 0, C.str ByteArray.empty, cV s0, cI 0]) Yac (Y42 rfl rfl) rfl) ?_
 rintro _ _ ⟨b8, rfl, rfl⟩
 refine Ops.hd (ns := [0]) rfl rfl (Y1u (gs := [cI r6.id, cI r6.room, cI r6.author, cI r6.kind, cI r6.key, cI r6.n, C.str r6.text, cM kI64 1 r6.prev, cI r6.time]) Yat.h rfl rfl rfl rfl rfl) ?_
 refine Ops.nil ?_
 refine AW.seq ?_
 refine AW.seq ?_
 refine AW.cut (τ := Bool) (fun x15 => ⟨[(6, pt b1), (7, pt b8), (37, C.bool x15)], [oB b1 160 [cI 0, cI 0, cI 0, cI 0, cI 0, cI 0, C.str ByteArray.empty, cV s0, cI 0, C.bool false], oB b8 136 [cI r6.id, cI r6.room, cI r6.author, cI r6.kind, cI r6.key, cI r6.n, C.str r6.text, cM kI64 1 r6.prev, cI r6.time]]⟩) (fun x15 => Z7s r6 x15 = some r) ?_ ?_
 ·
  refine zw ?_
  refine cnd h (fun hb9 h => ?_) fun hb9 h => ?_
  ·
   refine zw ?_
   refine ob' h fun r10 g11 h => ?_
   refine Ops.ghd (ns := []) rfl rfl rfl rfl rfl rfl (Y24 ((Z7r _ _ _).h _ g11) rfl rfl) ?_
   exact go
  refine zw ?_
  refine cnd h (fun hb12 h => ?_) fun hb12 h => ?_
  ·
   refine zw ?_
   refine ob' h fun r13 g14 h => ?_
   refine Ops.ghd (ns := []) rfl rfl rfl rfl hb12 rfl (Y24 ((Z7r _ _ _).h _ g14) rfl rfl) ?_
   exact go
  exact go
 intro x15 h
 replace h : Z7s r6 x15 = some r := h
 unfold Z7s at h
 refine cnd h (fun hb16 h => ?_) fun hb16 h => ?_
 ·
  refine AW.ct hb16 rfl ?_
  refine zw ?_
  refine Ops.hd (ns := [1]) rfl rfl (Y1t (gs := [cI r6.id, cI r6.room, cI r6.author, cI r6.kind, cI r6.key, cI r6.n, C.str ByteArray.empty, cM kI64 1 r6.prev, cI r6.time]) ld_9.h rfl rfl (One.val rfl) rfl rfl) ?_
  refine zw ?_
  refine Ops.v rfl (Y38 (ds := [cI r6.id, cI r6.room, cI r6.author, cI r6.kind, cI r6.key, cI r6.n, C.str ByteArray.empty, cM kI64 1 r6.prev, cI r6.time, C.bool true]) Ycw Ycv (Y42 rfl rfl) (.agg rfl rfl rfl (.one rfl (One.val rfl) rfl rfl .nil)) rfl) ?_
  refine Ops.hd (ns := [1]) rfl rfl (Y1u (gs := [cI r6.id, cI r6.room, cI r6.author, cI r6.kind, cI r6.key, cI r6.n, C.str ByteArray.empty, cM kI64 1 r6.prev, cI r6.time, C.bool true]) Ycx.h rfl rfl rfl rfl rfl) ?_
  refine zw ?_
  refine AW.ret ?_
  rw [← Wj h]
  exact ⟨[C.agg [cI r6.id, cI r6.room, cI r6.author, cI r6.kind, cI r6.key, cI r6.n, C.str ByteArray.empty, cM kI64 1 r6.prev, cI r6.time, C.bool true]], _, Y21.refl _, (.cons (.cell (p := 0) rfl rfl Ycx.h rfl) .nil), [], _, _, rfl, ⟨rfl, rfl⟩⟩
 refine AW.cf hb16 rfl ?_
 refine zw ?_
 refine Ops.v rfl (Y38 (ds := [cI r6.id, cI r6.room, cI r6.author, cI r6.kind, cI r6.key, cI r6.n, C.str r6.text, cM kI64 1 r6.prev, cI r6.time, C.bool false]) Ycw Ycv (Y42 rfl rfl) (.agg rfl rfl rfl .nil) rfl) ?_
 refine Ops.hd (ns := [0]) rfl rfl (Y1u (gs := [cI r6.id, cI r6.room, cI r6.author, cI r6.kind, cI r6.key, cI r6.n, C.str r6.text, cM kI64 1 r6.prev, cI r6.time, C.bool false]) Ycx.h rfl rfl rfl rfl rfl) ?_
 refine zw ?_
 refine AW.ret ?_
 rw [← Wj h]
 exact ⟨[C.agg [cI r6.id, cI r6.room, cI r6.author, cI r6.kind, cI r6.key, cI r6.n, C.str r6.text, cM kI64 1 r6.prev, cI r6.time, C.bool false]], _, Y21.refl _, (.cons (.cell (p := 0) rfl rfl Ycx.h rfl) .nil), [], _, _, rfl, ⟨rfl, rfl⟩⟩

def Z7v (l79 : List Y97) (l81 : List Y97) (x82 : Int) (x83 : Bool) : Option Y98 := some (Y98.mk l81 x82 x83 0)
def Z7w (l46 : List Y97) (x50 : Int) (l77 : List Y97) (x78 : Int) : Option ((List Y97 × List Y97 × Int × Int) ⊕ ((List Y97 × List Y97 × Int × Bool))) := some (.inl (l46, l77, x78, (IntKind.i64.wrap (x50 - 1))))
def Z7x (p0 : Y96) (p2 : Int) (p3 : Int) (p4 : Int) (r3 : List Int) (l46 : List Y97) (l48 : List Y97) (x49 : Int) (x50 : Int) : Option ((List Y97 × List Y97 × Int × Int) ⊕ ((List Y97 × List Y97 × Int × Bool))) := cond (decide (x50 ≥ 0)) ((getI p0.pos (IntKind.i64.wrap (p2 - 1))).bind fun e52 => (getI r3 x50).bind fun e54 => (getI e52 e54).bind fun e56 => cond (decide (e56 > p3)) (Z7w l46 x50 l48 x49) (cond (decide ((l48.length : Int) ≥ p4)) (some (.inr (l46, l48, x49, false))) ((Z7t p0 p2 e54).bind fun r69 => (chk (decide ((l48.length + [r69].length) * 104 ≤ 140737488355328))).bind fun u73 => Z7w l46 x50 (l48 ++ [r69]) (IntKind.i64.wrap (e56 - 1))))) (some (.inr (l46, l48, x49, true)))
def Z7y (p0 : Y96) (p1 : Int) (p2 : Int) (p3 : Int) (p4 : Int) : Option Y98 := (Z7k p0 p1 p2).bind fun r3 => (iter (fun z85 => Z7x p0 p2 p3 p4 r3 z85.1 z85.2.1 z85.2.2.1 z85.2.2.2) big ([], [], 0, (IntKind.i64.wrap ((r3.length : Int) - 1)))).bind fun (y86, y87, y88, y89) => Z7v y86 y87 y88 y89
theorem Z7z (p0 : Y96) (p1 : Int) (p2 : Int) (p3 : Int) (p4 : Int) (r : Y98) (h : Z7y p0 p1 p2 p3 p4 = some r) : Ok Tryz.prog 120 [C.ip [cM Y9g 3 p0.h.rooms, cM Y9d 2 p0.h.stream, cM Y9m 1 p0.rooms, cM Y9n 1 p0.pos, cM Y9k 1 p0.now], cI p1, cI p2, cI p3, cI p4] [] (fun c qs => ∃ (v84 : Value), c = C.agg [cV v84, cI r.at_, C.bool r.end_, cI r.code] ∧ qs = [oA v84 160 Y9o 10 r.events]) := by
 refine Ok.of_body (rs := [.cell 10 86]) Tryz.func120 rfl rfl rfl rfl rfl fun X => ?_
 unfold Z7y at h
 refine zw ?_
 refine Ops.h (ns := []) rfl rfl (Y1p (cs := [cV s0, cI 0, C.bool false, cI 0]) Ycr (Y42 rfl rfl) rfl) ?_
 rintro _ _ ⟨b1, rfl, rfl⟩
 refine zw ?_
 refine Ops.v rfl (Y38 (ds := [cV s0, cI 0, C.bool true, cI 0]) Ycs Ycr (Y42 rfl rfl) (.one rfl (One.val rfl) rfl rfl .nil) rfl) ?_
 refine Ops.h (ns := []) rfl rfl (Y1p (cs := [cV s0, cI 0, C.bool false, cI 0]) Ycr (Y42 rfl rfl) rfl) ?_
 rintro _ _ ⟨b2, rfl, rfl⟩
 refine Ops.hd (ns := [0]) rfl rfl (Y1u (gs := [cV s0, cI 0, C.bool true, cI 0]) Yct.h rfl rfl rfl rfl rfl) ?_
 refine zw ?_
 refine oc h fun r3 g4 h => ?_
 refine Ops.v rfl (Yr rfl rfl) ?_
 refine Ops.nil ?_
 refine AW.seq ?_
 refine AW.cut (τ := List Y97 × List Y97 × Int × Bool × Value) (fun (l79, l81, x82, x83, v80) => ⟨[(10, pt b1), (11, pt b2)], [oB b1 86 [cV s0, cI 0, C.bool false, cI 0], oA s0 160 Y9o 10 l79, oB b2 86 [cV v80, cI x82, C.bool x83, cI 0], oA v80 160 Y9o 10 l81]⟩) (fun (l79, l81, x82, x83, v80) => Z7v l79 l81 x82 x83 = some r) ?_ ?_
 ·
  refine zw ?_
  refine AW.lp h (fun (l46, l48, x49, x50) (v47 : Value) => ⟨[(0, C.ip [cM Y9g 3 p0.h.rooms, cM Y9d 2 p0.h.stream, cM Y9m 1 p0.rooms, cM Y9n 1 p0.pos, cM Y9k 1 p0.now]), (2, cI p2), (3, cI p3), (4, cI p4), (10, pt b1), (11, pt b2), (12, cM kI64 1 r3), (13, cI x50)], [oB b1 86 [cV s0, cI 0, C.bool false, cI 0], oA s0 160 Y9o 10 l46, oB b2 86 [cV v47, cI x49, C.bool true, cI 0], oA v47 160 Y9o 10 l48]⟩) ((Y21.nil 160 Y9o 10).trans ((Y21.nil 160 Y9o 10).trans (Y21.both (ns := [3, 0, 1, 0]) rfl rfl))) ?_
  rintro ⟨l46, l48, x49, x50⟩ v47 y95 h
  refine zw ?_
  refine cnd h (fun hb51 h => ?_) fun hb51 h => ?_
  ·
   refine AW.ct hb51 rfl ?_
   refine AW.skip ?_
   refine AW.seq ?_
   refine AW.cut (τ := List Y97 × Int × Value) (fun (l77, x78, v76) => ⟨[(0, C.ip [cM Y9g 3 p0.h.rooms, cM Y9d 2 p0.h.stream, cM Y9m 1 p0.rooms, cM Y9n 1 p0.pos, cM Y9k 1 p0.now]), (2, cI p2), (3, cI p3), (4, cI p4), (10, pt b1), (11, pt b2), (12, cM kI64 1 r3), (13, cI x50)], [oB b1 86 [cV s0, cI 0, C.bool false, cI 0], oA s0 160 Y9o 10 l46, oB b2 86 [cV v76, cI x78, C.bool true, cI 0], oA v76 160 Y9o 10 l77]⟩) (fun (l77, x78, v76) => Z7w l46 x50 l77 x78 = some y95) ?_ ?_
   ·
    refine zw ?_
    refine rD [0,0,0,0] [3,7,11,13] [] [0,4,8,13,16,20,24,29,32,36,40,45,48,53,56,60] ?_
    refine zw ?_
    refine di h fun e52 g53 h => ?_
    refine zw ?_
    refine di h fun e54 g55 h => ?_
    refine zw ?_
    refine di h fun e56 g57 h => ?_
    refine zw ?_
    refine cnd h (fun hb58 h => ?_) fun hb58 h => ?_
    ·
     refine AW.ct hb58 rfl ?_
     refine AW.exit ?_
     exact ⟨(l48, x49, v47), h, Y21.both (ns := [0, 0, 0, 0]) rfl rfl⟩
    refine AW.cf hb58 rfl ?_
    refine AW.skip ?_
    refine AW.seq ?_
    refine AW.seq ?_
    refine AW.region ?_
    refine Ops.v rfl (Y1b Ycz.h rfl rfl) ?_
    refine Ops.v rfl (Y1k (p := 2) Yd0.h rfl rfl rfl rfl) ?_
    refine Ops.v rfl (Y2u (p := 3) Yd1.h rfl rfl rfl) ?_
    refine zw ?_
    refine cnd h (fun hb59 h => ?_) fun hb59 h => ?_
    ·
     refine AW.ct hb59 rfl ?_
     refine zw ?_
     refine Ops.hd (ns := [2]) rfl rfl (Y1t (gs := [cV v47, cI x49, C.bool false, cI 0]) ld_4.h rfl rfl (One.val rfl) rfl rfl) ?_
     refine zw ?_
     refine AW.exit ?_
     refine lx h fun h => ?_
     exact ⟨(l46, l48, x49, false, v47), h, Y21.both (ns := [1, 1, 0, 0]) rfl rfl⟩
    refine AW.cf hb59 rfl ?_
    refine zw ?_
    refine rD [0,0,0] [1,7] [12] [0,5,8,12,16,20,24,29,34,38,42,44,51] ?_
    refine zw ?_
    refine dc h fun r69 g70 h => ?_
    refine OpsD.one ?_
    refine Y3n.h (ns := []) rfl rfl rfl (Y39 (k := Y9o) (ys := [r69]) Yd3 (.agg rfl rfl .nil) rfl rfl rfl) ?_
    rintro _ _ ⟨b71, rfl, rfl⟩
    refine zw ?_
    refine ob' h fun u73 c72 h => ?_
    refine Y3n.h (ns := [1, 0]) rfl rfl rfl (Y2s Yd3 rfl rfl (Wo (Y3t c72)) (Y3w (by decide) c72) rfl) ?_
    rintro _ _ ⟨v74, rfl, rfl⟩
    refine OpsD.v rfl rfl (Y1b Ycz.h rfl rfl) ?_
    refine OpsD.learn (Sim.arr_one (p := 3) rfl) fun n75 => ?_
    refine OpsD.late (ns := [2]) rfl rfl rfl (Y1t (gs := [cV v74, cI x49, C.bool true, cI 0]) Yd0.h rfl rfl (One.val n75) rfl rfl) ?_
    rintro _ _ ⟨rfl, rfl⟩
    refine zw ?_
    refine rD [0,0,0,0] [3,7,11,13] [16] [0,4,8,13,16,20,24,29,32,36,40,45,48,53,56,60,67] ?_
    refine zw ?_
    refine OpsD.late (ns := [0]) rfl rfl rfl (Y1t (gs := [cV v74, cI (IntKind.i64.wrap (e56 - 1)), C.bool true, cI 0]) ld_2.h rfl rfl (One.val rfl) rfl rfl) ?_
    rintro _ _ ⟨rfl, rfl⟩
    refine zw ?_
    exact ⟨((l48 ++ [r69]), (IntKind.i64.wrap (e56 - 1)), v74), h, Y21.both (ns := [1, 1, 0, 0]) rfl rfl⟩
   rintro ⟨l77, x78, v76⟩ h
   replace h : Z7w l46 x50 l77 x78 = some y95 := h
   unfold Z7w at h
   refine zw ?_
   exact le h (gb [0, 0, 0, 0])
  refine AW.cf hb51 rfl ?_
  refine AW.exit ?_
  refine lx h fun h => ?_
  exact ⟨(l46, l48, x49, true, v47), h, Y21.both (ns := [0, 0, 0, 0]) rfl rfl⟩
 rintro ⟨l79, l81, x82, x83, v80⟩ h
 replace h : Z7v l79 l81 x82 x83 = some r := h
 unfold Z7v at h
 refine zw ?_
 refine Ops.hd (ns := [0]) rfl rfl (Y1u (gs := [cV v80, cI x82, C.bool x83, cI 0]) Yct.h rfl rfl rfl rfl rfl) ?_
 refine zw ?_
 refine AW.ret ?_
 rw [← Wj h]
 exact ⟨[C.agg [cV v80, cI x82, C.bool x83, cI 0]], _, Y21.refl _, (.cons (.cell (p := 0) rfl rfl Yct.h rfl) .nil), [3], _, _, rfl, ⟨v80, rfl, rfl⟩⟩
instance Z7z' (p0 : Y96) (p1 : Int) (p2 : Int) (p3 : Int) (p4 : Int) : Sp Tryz.prog 120 [C.ip [cM Y9g 3 p0.h.rooms, cM Y9d 2 p0.h.stream, cM Y9m 1 p0.rooms, cM Y9n 1 p0.pos, cM Y9k 1 p0.now], cI p1, cI p2, cI p3, cI p4] (Z7y p0 p1 p2 p3 p4) (fun r => C.agg [cM Y9o 10 r.events, cI r.at_, C.bool r.end_, cI r.code]) := ⟨fun r h => Ok.freeze (Z7z p0 p1 p2 p3 p4 r h) (by rintro c qs ⟨v84, rfl, rfl⟩; exact Frz.agg (FrzL.cons (os := [_]) (Frz.arr) (fS (fS (fS (FrzL.nil))))))⟩

def Z80 (p0 : Y93) (p1 : Int) (p2 : Int) (p3 : Int) (p4 : Int) : Option Y98 := (Z6z p0).bind fun r3 => (Z78 r3.1 r3.2 p1 p2 p3 p4).bind fun r5 => cond (r5 != 0) ((Z73 r5).bind fun r8 => some r8) ((Z7y r3.1 p1 p2 p3 p4).bind fun r10 => some r10)
instance Z81 (p0 : Y93) (p1 : Int) (p2 : Int) (p3 : Int) (p4 : Int) : Sp Tryz.prog 64 [C.agg [cM Y9g 3 p0.rooms, cM Y9d 2 p0.stream], cI p1, cI p2, cI p3, cI p4] (Z80 p0 p1 p2 p3 p4) (fun r => C.agg [cM Y9o 10 r.events, cI r.at_, C.bool r.end_, cI r.code]) := sp Tryz.func64 rfl rfl fun r X h => by
 unfold Z80 at h
 refine zw ?_
 refine ox fun b1 => ?_
 refine Ops.h (ns := []) rfl rfl (Y1p (cs := [cV s0, cI 0, C.bool false, cI 0]) Ycr (Y42 rfl rfl) rfl) ?_
 rintro _ _ ⟨b2, rfl, rfl⟩
 refine zw ?_
 refine oc h fun r3 g4 h => ?_
 refine zw ?_
 refine oc h fun r5 g6 h => ?_
 refine zw ?_
 refine cnd h (fun hb7 h => ?_) fun hb7 h => ?_
 ·
  refine AW.ct hb7 rfl ?_
  refine zw ?_
  refine oc h fun r8 g9 h => ?_
  refine Ops.hd (ns := [0]) rfl rfl (Y1u (gs := [cM Y9o 10 r8.events, cI r8.at_, C.bool r8.end_, cI r8.code]) Yct.h rfl rfl rfl rfl rfl) ?_
  refine zw ?_
  refine AW.ret ?_
  rw [← Wj h]
  exact ⟨[C.agg [cM Y9o 10 r8.events, cI r8.at_, C.bool r8.end_, cI r8.code]], _, Y21.refl _, (.cons (.cell (p := 0) rfl rfl Yct.h rfl) .nil), [], _, _, rfl, ⟨rfl, rfl⟩⟩
 refine AW.cf hb7 rfl ?_
 refine zw ?_
 refine oc h fun r10 g11 h => ?_
 refine Ops.hd (ns := [0]) rfl rfl (Y1u (gs := [cM Y9o 10 r10.events, cI r10.at_, C.bool r10.end_, cI r10.code]) Yct.h rfl rfl rfl rfl rfl) ?_
 refine zw ?_
 refine AW.ret ?_
 rw [← Wj h]
 exact ⟨[C.agg [cM Y9o 10 r10.events, cI r10.at_, C.bool r10.end_, cI r10.code]], _, Y21.refl _, (.cons (.cell (p := 0) rfl rfl Yct.h rfl) .nil), [], _, _, rfl, ⟨rfl, rfl⟩⟩

def Z82 (x2 : Bool) : Option Bool := some x2
def Z83 (p0 : Int) (p1 : Int) (p2 : Int) : Option Bool := cond (decide (p1 ≤ p0)) (Z82 (decide (p0 ≤ p2))) (Z82 false)
instance Z84 (p0 : Int) (p1 : Int) (p2 : Int) : Sp Tryz.prog 115 [cI p0, cI p1, cI p2] (Z83 p0 p1 p2) C.bool := sp Tryz.func115 rfl rfl fun r X h => go

def Z85 (p0 : Int) : Option Bool := (Z83 p0 1 3).bind fun r1 => some r1
instance Z86 (p0 : Int) : Sp Tryz.prog 74 [cI p0] (Z85 p0) C.bool := sp Tryz.func74 rfl rfl fun r X h => go

def Z87 (p0 : Int) : Option Bool := (Z83 p0 1 1000000).bind fun r1 => some r1
instance Z88 (p0 : Int) : Sp Tryz.prog 301 [cI p0] (Z87 p0) C.bool := sp Tryz.func301 rfl rfl fun r X h => go

def Z89 (p0 : Int) : Option Bool := (Z83 p0 1 6).bind fun r1 => some r1
instance Z8a (p0 : Int) : Sp Tryz.prog 99 [cI p0] (Z89 p0) C.bool := sp Tryz.func99 rfl rfl fun r X h => go

def Z8b (p0 : Int) : Option Bool := (Z83 p0 0 1000000).bind fun r1 => some r1
instance Z8c (p0 : Int) : Sp Tryz.prog 302 [cI p0] (Z8b p0) C.bool := sp Tryz.func302 rfl rfl fun r X h => go

def Z8d : Option Bool := some true
def Z8e (x12 : Int) (x22 : Bool) : Option (Int ⊕ (Bool ⊕ Unit)) := cond x22 (some (.inr (.inl false))) (some (.inl (IntKind.i64.wrap (x12 + 1))))
def Z8f (p0 : List Int) (p1 : Int) (p2 : Int) (x12 : Int) : Option (Int ⊕ (Bool ⊕ Unit)) := cond (decide (x12 < (p0.length : Int))) ((getI p0 x12).bind fun e14 => (Z83 e14 p1 p2).bind fun r16 => cond r16 (cond (decide (x12 > 0)) ((getI p0 (IntKind.i64.wrap (x12 - 1))).bind fun e20 => Z8e x12 (decide (e20 ≥ e14))) (Z8e x12 false)) (Z8e x12 true)) (some (.inr (.inr ())))
def Z8g (p0 : List Int) (p1 : Int) (p2 : Int) : Option Bool := (iter (Z8f p0 p1 p2) big 0).bind (fun z25 => match z25 with | .inl y24 => some y24 | .inr () => Z8d)
instance Z8h (p0 : List Int) (p1 : Int) (p2 : Int) : Sp Tryz.prog 303 [cM kI64 1 p0, cI p1, cI p2] (Z8g p0 p1 p2) C.bool := sp Tryz.func303 rfl rfl fun r X h => by
 unfold Z8g at h
 refine zw ?_
 refine AW.lp (v := ()) h (fun x12 (_ : Unit) => ⟨[(0, cM kI64 1 p0), (1, cI p1), (2, cI p2), (9, cM kI64 1 p0), (10, cI (p0.length : Int)), (11, cI x12)], []⟩) (gb []) ?_
 rintro x12 _ y31 h
 exact go

def Z8i : Option Int := some (-1)
def Z8j (p0 : List Int) (p1 : Int) (x5 : Int) : Option (Int ⊕ (Int ⊕ Unit)) := cond (decide (x5 < (p0.length : Int))) ((getI p0 x5).bind fun e7 => cond (p1 == e7) (some (.inr (.inl x5))) (some (.inl (IntKind.i64.wrap (x5 + 1))))) (some (.inr (.inr ())))
def Z8k (p0 : List Int) (p1 : Int) : Option Int := (iter (Z8j p0 p1) big 0).bind (fun z11 => match z11 with | .inl y10 => some y10 | .inr () => Z8i)
instance Z8l (p0 : List Int) (p1 : Int) : Sp Tryz.prog 258 [cM kI64 1 p0, cI p1] (Z8k p0 p1) cI := sp Tryz.func258 rfl rfl fun r X h => by
 unfold Z8k at h
 refine zw ?_
 refine AW.lp (v := ()) h (fun x5 (_ : Unit) => ⟨[(0, cM kI64 1 p0), (1, cI p1), (7, cI (p0.length : Int)), (8, cI x5)], []⟩) (gb []) ?_
 rintro x5 _ y17 h
 exact go

def Z8m (p0 : List Int) (p1 : Int) : Option Bool := (Z8k p0 p1).bind fun r1 => some (decide (r1 ≥ 0))
instance Z8n (p0 : List Int) (p1 : Int) : Sp Tryz.prog 208 [cM kI64 1 p0, cI p1] (Z8m p0 p1) C.bool := sp Tryz.func208 rfl rfl fun r X h => go

def Z8o (x5 : Bool) : Option Bool := some x5
def Z8p (x13 : Bool) : Option Bool := some x13
def Z8q (x21 : Bool) : Option Bool := some x21
def Z8r (x25 : Bool) : Option Bool := some x25
def Z8s (x31 : Bool) : Option Bool := some x31
def Z8t (x37 : Bool) : Option Bool := some x37
def Z8u (x43 : Bool) : Option Bool := some x43
def Z8v (x49 : Bool) : Option Bool := some x49
def Z8w (p0 : Y8z) : Option Bool := cond (p0.kind == 1) (cond (p0.key == 0) (cond (p0.n == 0) (Z8o ((p0.text.size : Int) == 0)) (Z8o false)) (Z8o false)) (cond (p0.kind == 2) ((Z89 p0.key).bind fun r7 => cond r7 ((Z83 p0.n 1 4).bind fun r10 => cond r10 (Z8p ((p0.text.size : Int) == 0)) (Z8p false)) (Z8p false)) (cond (p0.kind == 3) ((Z89 p0.key).bind fun r15 => cond r15 ((Z83 p0.n 0 100).bind fun r18 => cond r18 (Z8q ((p0.text.size : Int) == 0)) (Z8q false)) (Z8q false)) (cond (p0.kind == 4) (cond (p0.key == 0) (cond (p0.n == 0) (Z8r (decide ((p0.text.size : Int) ≤ 30))) (Z8r false)) (Z8r false)) (cond (p0.kind == 5) (cond (p0.key == 0) ((Z83 p0.n 1 2).bind fun r28 => cond r28 (Z8s ((p0.text.size : Int) == 0)) (Z8s false)) (Z8s false)) (cond (p0.kind == 6) (cond (p0.key == 0) ((Z83 p0.n 1 3).bind fun r34 => cond r34 (Z8t ((p0.text.size : Int) == 0)) (Z8t false)) (Z8t false)) (cond (p0.kind == 7) (cond (p0.key == 0) (cond (p0.n == 0) ((Z83 (p0.text.size : Int) 1 30).bind fun r41 => Z8u r41) (Z8u false)) (Z8u false)) (cond (p0.kind == 8) ((Z87 p0.key).bind fun r45 => cond r45 (cond (p0.n == 0) (Z8v ((p0.text.size : Int) == 0)) (Z8v false)) (Z8v false)) (Z8v false))))))))
instance Z8x (p0 : Y8z) : Sp Tryz.prog 304 [C.agg [cI p0.id, cI p0.room, cI p0.author, cI p0.kind, cI p0.key, cI p0.n, C.str p0.text, cM kI64 1 p0.prev, cI p0.time]] (Z8w p0) C.bool := sp Tryz.func304 rfl rfl fun r X h => by
 unfold Z8w at h
 refine zw ?_
 refine ox fun b1 => ?_
 refine zw ?_
 refine rD [0] [1,4,7] [] [0,5,8,12,17,20,24,29,32,36,40,44] ?_
 refine zw ?_
 refine cnd h (fun hb2 h => go) fun hb2 h => ?_
 refine AW.cf hb2 rfl ?_
 refine zw ?_
 refine cnd h (fun hb6 h => ?_) fun hb6 h => ?_
 ·
  refine AW.ct hb6 rfl ?_
  refine zw ?_
  refine oc h fun r7 g8 h => ?_
  refine zw ?_
  refine cnd h (fun hb9 h => ?_) fun hb9 h => ?_
  ·
   refine zw ?_
   refine ob' h fun r10 g11 h => ?_
   refine Ops.ghd (ns := []) rfl rfl rfl rfl hb9 rfl (Y24 ((Z84 _ _ _).h _ g11) rfl rfl) ?_
   exact go
  exact go
 refine AW.cf hb6 rfl ?_
 refine zw ?_
 refine cnd h (fun hb14 h => ?_) fun hb14 h => ?_
 ·
  refine AW.ct hb14 rfl ?_
  refine zw ?_
  refine oc h fun r15 g16 h => ?_
  refine zw ?_
  refine cnd h (fun hb17 h => ?_) fun hb17 h => ?_
  ·
   refine zw ?_
   refine ob' h fun r18 g19 h => ?_
   refine Ops.ghd (ns := []) rfl rfl rfl rfl hb17 rfl (Y24 ((Z84 _ _ _).h _ g19) rfl rfl) ?_
   exact go
  exact go
 refine AW.cf hb14 rfl ?_
 refine zw ?_
 refine cnd h (fun hb22 h => go) fun hb22 h => ?_
 refine AW.cf hb22 rfl ?_
 refine zw ?_
 refine cnd h (fun hb26 h => ?_) fun hb26 h => ?_
 ·
  refine AW.ct hb26 rfl ?_
  refine zw ?_
  refine cnd h (fun hb27 h => ?_) fun hb27 h => ?_
  ·
   refine zw ?_
   refine ob' h fun r28 g29 h => ?_
   refine Ops.ghd (ns := []) rfl rfl rfl rfl hb27 rfl (Y24 ((Z84 _ _ _).h _ g29) rfl rfl) ?_
   exact go
  exact go
 refine AW.cf hb26 rfl ?_
 refine zw ?_
 refine cnd h (fun hb32 h => ?_) fun hb32 h => ?_
 ·
  refine AW.ct hb32 rfl ?_
  refine zw ?_
  refine cnd h (fun hb33 h => ?_) fun hb33 h => ?_
  ·
   refine zw ?_
   refine ob' h fun r34 g35 h => ?_
   refine Ops.ghd (ns := []) rfl rfl rfl rfl hb33 rfl (Y24 ((Z84 _ _ _).h _ g35) rfl rfl) ?_
   exact go
  exact go
 refine AW.cf hb32 rfl ?_
 refine zw ?_
 refine cnd h (fun hb38 h => ?_) fun hb38 h => ?_
 ·
  refine AW.ct hb38 rfl ?_
  refine zw ?_
  refine cnd h (fun hb39 h => ?_) fun hb39 h => ?_
  ·
   refine zw ?_
   refine cnd h (fun hb40 h => ?_) fun hb40 h => ?_
   ·
    refine zw ?_
    refine ob' h fun r41 g42 h => ?_
    refine Ops.ghd (ns := []) rfl rfl rfl rfl hb40 rfl (Y24 ((Z84 _ _ _).h _ g42) rfl rfl) ?_
    exact go
   exact go
  exact go
 refine AW.cf hb38 rfl ?_
 refine zw ?_
 refine cnd h (fun hb44 h => ?_) fun hb44 h => ?_
 ·
  refine zw ?_
  refine ob' h fun r45 g46 h => ?_
  refine Ops.ghd (ns := []) rfl rfl rfl rfl hb44 rfl (Y24 ((Z88 _).h _ g46) rfl rfl) ?_
  exact go
 exact go

def Z8y (x23 : Bool) : Option Bool := some x23
def Z8z (p0 : Y8z) : Option Bool := (Z87 p0.id).bind fun r2 => cond r2 ((Z85 p0.room).bind fun r5 => cond r5 ((Z89 p0.author).bind fun r8 => cond r8 ((Z8b p0.time).bind fun r11 => cond r11 (cond (decide ((p0.prev.length : Int) ≤ 4)) ((Z8g p0.prev 1 1000000).bind fun r15 => cond r15 ((Z8m p0.prev p0.id).bind fun r18 => cond r18 (Z8y false) ((Z8w p0).bind fun r21 => Z8y r21)) (Z8y false)) (Z8y false)) (Z8y false)) (Z8y false)) (Z8y false)) (Z8y false)
instance Z90 (p0 : Y8z) : Sp Tryz.prog 282 [C.agg [cI p0.id, cI p0.room, cI p0.author, cI p0.kind, cI p0.key, cI p0.n, C.str p0.text, cM kI64 1 p0.prev, cI p0.time]] (Z8z p0) C.bool := sp Tryz.func282 rfl rfl fun r X h => by
 unfold Z8z at h
 refine zw ?_
 refine ox fun b1 => ?_
 refine zw ?_
 refine oc h fun r2 g3 h => ?_
 refine zw ?_
 refine cnd h (fun hb4 h => ?_) fun hb4 h => ?_
 ·
  refine zw ?_
  refine ob' h fun r5 g6 h => ?_
  refine Ops.ghd (ns := []) rfl rfl rfl rfl hb4 rfl (Y24 ((Z86 _).h _ g6) rfl rfl) ?_
  refine zw ?_
  refine cnd h (fun hb7 h => ?_) fun hb7 h => ?_
  ·
   refine zw ?_
   refine ob' h fun r8 g9 h => ?_
   refine Ops.ghd (ns := []) rfl rfl rfl rfl hb7 rfl (Y24 ((Z8a _).h _ g9) rfl rfl) ?_
   refine zw ?_
   refine cnd h (fun hb10 h => ?_) fun hb10 h => ?_
   ·
    refine zw ?_
    refine ob' h fun r11 g12 h => ?_
    refine Ops.ghd (ns := []) rfl rfl rfl rfl hb10 rfl (Y24 ((Z8c _).h _ g12) rfl rfl) ?_
    refine zw ?_
    refine cnd h (fun hb13 h => ?_) fun hb13 h => ?_
    ·
     refine zw ?_
     refine cnd h (fun hb14 h => ?_) fun hb14 h => ?_
     ·
      refine zw ?_
      refine ob' h fun r15 g16 h => ?_
      refine Ops.ghd (ns := []) rfl rfl rfl rfl hb14 rfl (Y24 ((Z8h _ _ _).h _ g16) rfl rfl) ?_
      refine zw ?_
      refine cnd h (fun hb17 h => ?_) fun hb17 h => ?_
      ·
       refine zw ?_
       refine ob' h fun r18 g19 h => ?_
       refine Ops.ghd (ns := []) rfl rfl rfl rfl hb17 rfl (Y24 ((Z8n _ _).h _ g19) rfl rfl) ?_
       refine zw ?_
       refine cnd h (fun hb20 h => go) fun hb20 h => ?_
       refine zw ?_
       refine ob' h fun r21 g22 h => ?_
       refine Ops.ghd (ns := []) rfl rfl rfl rfl (Y3v hb20) rfl (Y24 ((Z8x _).h _ g22) rfl rfl) ?_
       exact go
      exact go
     exact go
    exact go
   exact go
  exact go
 exact go

def Z91 (x5 : Bool) : Option Bool := some x5
def Z92 (p0 : Y8z) : Option Bool := (Z8z p0).bind fun r2 => cond r2 (Z91 ((p0.kind == 1) == ((p0.prev.length : Int) == 0))) (Z91 false)
instance Z93 (p0 : Y8z) : Sp Tryz.prog 235 [C.agg [cI p0.id, cI p0.room, cI p0.author, cI p0.kind, cI p0.key, cI p0.n, C.str p0.text, cM kI64 1 p0.prev, cI p0.time]] (Z92 p0) C.bool := sp Tryz.func235 rfl rfl fun r X h => by
 unfold Z92 at h
 refine zw ?_
 refine ox fun b1 => ?_
 refine zw ?_
 refine oc h fun r2 g3 h => ?_
 refine zw ?_
 refine cnd h (fun hb4 h => ?_) fun hb4 h => ?_
 ·
  refine zw ?_
  refine Ops.gv rfl rfl rfl rfl hb4 (Y10 un_4 rfl rfl rfl) ?_
  exact go
 exact go

def Z94 : Option Bool := some true
def Z95 (x15 : Int) (x27 : Bool) : Option (Int ⊕ (Bool ⊕ Unit)) := cond x27 (some (.inr (.inl false))) (some (.inl (IntKind.i64.wrap (x15 + 1))))
def Z96 (p0 : Y92) (p1 : List Y8z) (x15 : Int) : Option (Int ⊕ (Bool ⊕ Unit)) := cond (decide (x15 < (p1.length : Int))) ((getI p1 x15).bind fun e17 => (Z92 e17).bind fun r20 => cond r20 (cond (e17.room != p0.room) (Z95 x15 true) (cond (decide (x15 > 0)) ((getI p1 (IntKind.i64.wrap (x15 - 1))).bind fun e25 => Z95 x15 (decide (e25.id ≥ e17.id))) (Z95 x15 false))) (Z95 x15 true)) (some (.inr (.inr ())))
def Z97 (p0 : Y92) (p1 : List Y8z) : Option Bool := (iter (Z96 p0 p1) big 0).bind (fun z30 => match z30 with | .inl y29 => some y29 | .inr () => Z94)
instance Z98 (p0 : Y92) (p1 : List Y8z) : Sp Tryz.prog 184 [C.agg [cI p0.room, cM Y9b 9 p0.events, cM Y9b 9 p0.parked], cM Y9b 9 p1] (Z97 p0 p1) C.bool := sp Tryz.func184 rfl rfl fun r X h => by
 unfold Z97 at h
 refine zw ?_
 refine ox fun b1 => ?_
 refine zw ?_
 refine AW.lp (v := ()) h (fun x15 (_ : Unit) => ⟨[(1, cM Y9b 9 p1), (2, pt b1), (7, cM Y9b 9 p1), (8, cI (p1.length : Int)), (9, cI x15)], [oB b1 139 [cI p0.room, cM Y9b 9 p0.events, cM Y9b 9 p0.parked]]⟩) (gb [0]) ?_
 rintro x15 _ y36 h
 refine zw ?_
 refine cnd h (fun hb16 h => ?_) fun hb16 h => ?_
 ·
  refine AW.ct hb16 rfl ?_
  refine zw ?_
  refine oi h fun e17 g18 h => ?_
  refine zw ?_
  refine Ops.h (ns := []) rfl rfl (Y1p (cs := [cI 0, cI 0, cI 0, cI 0, cI 0, cI 0, C.str ByteArray.empty, cV s0, cI 0]) Yac (Y42 rfl rfl) rfl) ?_
  rintro _ _ ⟨b19, rfl, rfl⟩
  refine zw ?_
  refine Ops.hd (ns := [0]) rfl rfl (Y1u (gs := [cI e17.id, cI e17.room, cI e17.author, cI e17.kind, cI e17.key, cI e17.n, C.str e17.text, cM kI64 1 e17.prev, cI e17.time]) Yat.h rfl rfl rfl rfl rfl) ?_
  refine zw ?_
  refine rD [0,0] [0,5,7,19,21] [] [1,6,8,12,16,21,24,29,32,36,40,44,48,52,56,60,64,68,72,77,80,85,88,92,96] ?_
  exact go
 exact go

def Z99 (p0 : Int) : Option Bool := some (p0 != p0)
instance Z9a (p0 : Int) : Sp Tryz.prog 247 [cI p0] (Z99 p0) C.bool := sp Tryz.func247 rfl rfl fun r X h => go

def Z9b (p0 : Int) (p1 : Int) : Option Int := (Z99 p0).bind fun r1 => (Z99 p1).bind fun r3 => cond r1 (cond r3 (some 0) (some (-1))) (cond r3 (some 1) (cond (decide (p0 < p1)) (some (-1)) (cond (decide (p0 > p1)) (some 1) (some 0))))
instance Z9c (p0 : Int) (p1 : Int) : Sp Tryz.prog 202 [cI p0, cI p1] (Z9b p0 p1) cI := sp Tryz.func202 rfl rfl fun r X h => go

def Z9d (p0 : Y8z) (p1 : Int) : Option Int := (Z9b p0.id p1).bind fun r2 => some r2
instance Z9e (p0 : Y8z) (p1 : Int) : Sp Tryz.prog 242 [C.agg [cI p0.id, cI p0.room, cI p0.author, cI p0.kind, cI p0.key, cI p0.n, C.str p0.text, cM kI64 1 p0.prev, cI p0.time], cI p1] (Z9d p0 p1) cI := sp Tryz.func242 rfl rfl fun r X h => go

def Z9f (x15 : Int) (x21 : Bool) : Option (Int × Bool) := some (x15, x21)
def Z9g (p0 : List Y8z) (p1 : Int) (x15 : Int) : Option (Int × Bool) := cond (decide (x15 < (p0.length : Int))) ((getI p0 x15).bind fun e17 => (Z9d e17 p1).bind fun r19 => Z9f x15 (r19 == 0)) (Z9f x15 false)
def Z9h (p0 : List Y8z) (p1 : Int) (x7 : Int) (x8 : Int) : Option ((Int × Int) ⊕ (Int)) := cond (decide (x7 < x8)) ((getI p0 (IntKind.i64.wrap (shrI .u64 (IntKind.u64.wrap (IntKind.i64.wrap (x7 + x8))) 1))).bind fun e10 => (Z9d e10 p1).bind fun r12 => cond (decide (r12 < 0)) (some (.inl ((IntKind.i64.wrap ((IntKind.i64.wrap (shrI .u64 (IntKind.u64.wrap (IntKind.i64.wrap (x7 + x8))) 1)) + 1)), x8))) (some (.inl (x7, (IntKind.i64.wrap (shrI .u64 (IntKind.u64.wrap (IntKind.i64.wrap (x7 + x8))) 1)))))) (some (.inr x7))
def Z9i (p0 : List Y8z) (p1 : Int) : Option (Int × Bool) := (iter (fun z22 => Z9h p0 p1 z22.1 z22.2) big (0, (p0.length : Int))).bind fun y23 => Z9g p0 p1 y23
instance Z9j (p0 : List Y8z) (p1 : Int) : Sp Tryz.prog 241 [cM Y9b 9 p0, cI p1, cV (.func (.func 242) #[] #[])] (Z9i p0 p1) (fun r => C.tup [cI r.1, C.bool r.2]) := sp Tryz.func241 rfl rfl fun r X h => by
 unfold Z9i at h
 refine AW.seq ?_
 refine AW.region ?_
 refine Ops.v rfl (Yr rfl rfl) ?_
 refine Ops.v rfl (Yr rfl rfl) ?_
 refine Ops.nil ?_
 refine AW.seq ?_
 refine AW.region ?_
 refine Ops.v rfl (Yq rfl rfl) ?_
 refine Ops.v rfl (Y2c Yax.h rfl rfl) ?_
 refine Ops.v rfl (Yr rfl rfl) ?_
 refine Ops.nil ?_
 refine AW.seq ?_
 refine AW.region ?_
 refine Ops.v rfl (Yq rfl rfl) ?_
 refine Ops.v rfl (Yr rfl rfl) ?_
 refine Ops.v rfl (Yr rfl rfl) ?_
 refine Ops.nil ?_
 refine AW.seq ?_
 refine AW.cut (τ := Int) (fun x15 => ⟨[(0, cM Y9b 9 p0), (1, cI p1), (2, cV (.func (.func 242) #[] #[])), (8, cI (p0.length : Int)), (9, cI x15)], []⟩) (fun x15 => Z9g p0 p1 x15 = some r) ?_ ?_
 ·
  refine zw ?_
  refine AW.lp (v := ()) h (fun (x7, x8) (_ : Unit) => ⟨[(0, cM Y9b 9 p0), (1, cI p1), (2, cV (.func (.func 242) #[] #[])), (8, cI (p0.length : Int)), (9, cI x7), (10, cI x8)], []⟩) (gb []) ?_
  rintro ⟨x7, x8⟩ _ y29 h
  refine zw ?_
  refine cnd h (fun hb9 h => ?_) fun hb9 h => ?_
  ·
   refine AW.ct hb9 rfl ?_
   refine zw ?_
   refine Ops.v rfl (Y12 un_3 Yd5 rfl rfl) ?_
   refine Ops.v rfl (Yz rfl rfl rfl rfl) ?_
   refine Ops.v rfl (Y12 Yd5 un_3 rfl rfl) ?_
   refine zw ?_
   refine oi h fun e10 g11 h => ?_
   refine zw ?_
   refine ob' h fun r12 g13 h => ?_
   refine Ops.h (ns := []) rfl rfl (Y26 (cs := [_, _]) rfl rfl ((Z9e _ _).h _ g13) rfl rfl) ?_
   rintro _ _ ⟨_, ⟨rfl, rfl⟩, rfl⟩
   exact go
  exact go
 intro x15 h
 replace h : Z9g p0 p1 x15 = some r := h
 unfold Z9g at h
 refine AW.seq ?_
 refine AW.cut (τ := Bool) (fun x21 => ⟨[(6, cI x15), (7, C.bool x21)], []⟩) (fun x21 => Z9f x15 x21 = some r) ?_ ?_
 ·
  refine zw ?_
  refine cnd h (fun hb16 h => ?_) fun hb16 h => ?_
  ·
   refine zw ?_
   refine ob' h fun e17 g18 h => ?_
   refine zw ?_
   refine ob' h fun r19 g20 h => ?_
   refine Ops.gh (ns := []) rfl rfl rfl rfl hb16 rfl (Y26 (cs := [_, _]) rfl rfl ((Z9e _ _).h _ g20) rfl rfl) ?_
   rintro _ _ ⟨_, ⟨rfl, rfl⟩, rfl⟩
   exact go
  exact go
 intro x21 h
 replace h : Z9f x15 x21 = some r := h
 unfold Z9f at h
 refine AW.ret ?_
 rw [← Wj h]
 exact ⟨[cI x15, C.bool x21], _, Y21.refl _, (.cons (.tmp rfl) (.cons (.tmp rfl) .nil)), [], _, _, rfl, ⟨rfl, rfl⟩⟩

def Z9k (p0 : List Y8z) (p1 : Int) : Option (Int × Bool) := (Z9i p0 p1).bind fun r1 => some (r1.1, r1.2)
instance Z9l (p0 : List Y8z) (p1 : Int) : Sp Tryz.prog 193 [cM Y9b 9 p0, cI p1] (Z9k p0 p1) (fun r => C.tup [cI r.1, C.bool r.2]) := sp Tryz.func193 rfl rfl fun r X h => by
 unfold Z9k at h
 refine zw ?_
 refine oc h fun r1 g2 h => ?_
 refine zw ?_
 refine AW.ret ?_
 rw [← Wj h]
 exact ⟨[cI r1.1, C.bool r1.2], _, Y21.refl _, (.cons (.tmp rfl) (.cons (.tmp rfl) .nil)), [], _, _, rfl, ⟨rfl, rfl⟩⟩

def Z9m (p0 : Y92) (p1 : Int) : Option Bool := (Z9k p0.events p1).bind fun r2 => some r2.2
instance Z9n (p0 : Y92) (p1 : Int) : Sp Tryz.prog 189 [C.agg [cI p0.room, cM Y9b 9 p0.events, cM Y9b 9 p0.parked], cI p1] (Z9m p0 p1) C.bool := sp Tryz.func189 rfl rfl fun r X h => go

def Z9o (p0 : Int) (q0 : Y92) : Option Bool := (Z9m q0 p0).bind fun r1 => some (!r1)
theorem Z9p {b00 : Nat} (p0 : Int) (q0 : Y92) (r : Bool) (h : Z9o p0 q0 = some r) : Ok Tryz.prog 237 [cI p0, pt b00] [oB b00 139 [cI q0.room, cM Y9b 9 q0.events, cM Y9b 9 q0.parked]] (fun c qs => c = C.bool r ∧ qs = [oB b00 139 [cI q0.room, cM Y9b 9 q0.events, cM Y9b 9 q0.parked]]) := by
 refine Ok.of_body (rs := [.tmp 3]) Tryz.func237 rfl rfl rfl rfl rfl fun X => ?_
 unfold Z9o at h
 refine zw ?_
 refine oc h fun r1 g2 h => ?_
 refine zw ?_
 refine AW.ret ?_
 rw [← Wj h]
 exact ⟨[C.bool (!r1)], _, Y21.refl _, (.cons (.tmp rfl) .nil), [0], _, _, rfl, ⟨rfl, rfl⟩⟩

def Z9q : Option Int := some (-1)
def Z9r (p0 : List Int) (p1_0 : Y92) (x7 : Int) : Option (Int ⊕ (Int ⊕ Unit)) := cond (decide (x7 < (p0.length : Int))) ((getI p0 x7).bind fun e9 => (Z9o e9 p1_0).bind fun r11 => cond r11 (some (.inr (.inl x7))) (some (.inl (IntKind.i64.wrap (x7 + 1))))) (some (.inr (.inr ())))
def Z9s (p0 : List Int) (p1_0 : Y92) : Option Int := (iter (Z9r p0 p1_0) big 0).bind (fun z15 => match z15 with | .inl y14 => some y14 | .inr () => Z9q)
theorem Z9t {b00 : Nat} (p0 : List Int) (p1_0 : Y92) (r : Int) (h : Z9s p0 p1_0 = some r) : Ok Tryz.prog 194 [cM kI64 1 p0, C.clo 237 [pt b00]] [oB b00 139 [cI p1_0.room, cM Y9b 9 p1_0.events, cM Y9b 9 p1_0.parked]] (fun c qs => c = cI r ∧ qs = [oB b00 139 [cI p1_0.room, cM Y9b 9 p1_0.events, cM Y9b 9 p1_0.parked]]) := by
 refine Ok.of_body (rs := [.tmp 4]) Tryz.func194 rfl rfl rfl rfl rfl fun X => ?_
 unfold Z9s at h
 refine AW.seq ?_
 refine AW.region ?_
 refine Ops.v rfl (Yr rfl rfl) ?_
 refine Ops.nil ?_
 refine AW.seq ?_
 refine AW.cut (τ := Unit) (fun (_ : Unit) => ⟨[], [oB b00 139 [cI p1_0.room, cM Y9b 9 p1_0.events, cM Y9b 9 p1_0.parked]]⟩) (fun (_ : Unit) => Z9q = some r) ?_ ?_
 ·
  refine zw ?_
  refine AW.lp (v := ()) h (fun x7 (_ : Unit) => ⟨[(0, cM kI64 1 p0), (1, C.clo 237 [pt b00]), (7, cI (p0.length : Int)), (8, cI x7)], [oB b00 139 [cI p1_0.room, cM Y9b 9 p1_0.events, cM Y9b 9 p1_0.parked]]⟩) (gb [0]) ?_
  rintro x7 _ y21 h
  refine zw ?_
  refine cnd h (fun hb8 h => ?_) fun hb8 h => ?_
  ·
   refine AW.ct hb8 rfl ?_
   refine zw ?_
   refine oi h fun e9 g10 h => ?_
   refine zw ?_
   refine ob' h fun r11 g12 h => ?_
   refine Ops.hd (ns := [0]) rfl rfl (Y6s (cs := [_]) (ds := [_]) rfl (Z9p e9 p1_0 _ g12) rfl rfl) ?_
   refine zw ?_
   refine cnd h (fun hb13 h => ?_) fun hb13 h => ?_
   ·
    refine AW.ct hb13 rfl ?_
    refine zw ?_
    refine AW.ret ?_
    refine lx h fun h => ?_
    rw [← Wj h]
    exact ⟨[cI x7], _, Y21.refl _, (.cons (.tmp rfl) .nil), [0], _, _, rfl, ⟨rfl, rfl⟩⟩
   exact go
  exact go
 rintro ⟨⟩ h
 replace h : Z9q = some r := h
 unfold Z9q at h
 refine zw ?_
 refine AW.ret ?_
 rw [← Wj h]
 exact ⟨[cI (-1)], _, Y21.refl _, (.cons (.tmp rfl) .nil), [0], _, _, rfl, ⟨rfl, rfl⟩⟩

def Z9u (p0 : List Int) (p1_0 : Y92) : Option Bool := (Z9s p0 p1_0).bind fun r1 => some (decide (r1 ≥ 0))
theorem Z9v {b00 : Nat} (p0 : List Int) (p1_0 : Y92) (r : Bool) (h : Z9u p0 p1_0 = some r) : Ok Tryz.prog 140 [cM kI64 1 p0, C.clo 237 [pt b00]] [oB b00 139 [cI p1_0.room, cM Y9b 9 p1_0.events, cM Y9b 9 p1_0.parked]] (fun c qs => c = C.bool r ∧ qs = [oB b00 139 [cI p1_0.room, cM Y9b 9 p1_0.events, cM Y9b 9 p1_0.parked]]) := by
 refine Ok.of_body (rs := [.tmp 4]) Tryz.func140 rfl rfl rfl rfl rfl fun X => ?_
 unfold Z9u at h
 refine zw ?_
 refine ob' h fun r1 g2 h => ?_
 refine Ops.hd (ns := [0]) rfl rfl (Y24 (Z9t p0 p1_0 _ g2) rfl rfl) ?_
 refine zw ?_
 refine AW.ret ?_
 rw [← Wj h]
 exact ⟨[C.bool (decide (r1 ≥ 0))], _, Y21.refl _, (.cons (.tmp rfl) .nil), [0], _, _, rfl, ⟨rfl, rfl⟩⟩

def Z9w (p0 : Y92) (p1 : Y8z) : Option Bool := (Z9u p1.prev p0).bind fun r3 => some (!r3)
instance Z9x (p0 : Y92) (p1 : Y8z) : Sp Tryz.prog 187 [C.agg [cI p0.room, cM Y9b 9 p0.events, cM Y9b 9 p0.parked], C.agg [cI p1.id, cI p1.room, cI p1.author, cI p1.kind, cI p1.key, cI p1.n, C.str p1.text, cM kI64 1 p1.prev, cI p1.time]] (Z9w p0 p1) C.bool := sp Tryz.func187 rfl rfl fun r X h => by
 unfold Z9w at h
 refine zw ?_
 refine ox fun b1 => ?_
 refine ox fun b2 => ?_
 refine zw ?_
 refine Ops.v rfl (Y6q rfl rfl) ?_
 refine ob' h fun r3 g4 h => ?_
 refine Ops.hd (ns := [1]) rfl rfl (Y24 (Z9v p1.prev p0 _ g4) rfl rfl) ?_
 exact go

def Z9y (l140 : List Int) (x141 : Int) : Option (List Int × Bool) := some (l140, (x141 == 0))
def Z9z (x109 : Int) (l137 : List Int) (x138 : Int) (x139 : Bool) : Option ((List Int × Int × Bool × Int) ⊕ ((List Int × Int × Bool))) := some (.inl (l137, x138, x139, (IntKind.i64.wrap (x109 + 1))))
def Za0 (l106 : List Int) (x107 : Int) (x108 : Bool) (x109 : Int) (x135 : Int) : Option ((List Int × Int × Bool × Int) ⊕ ((List Int × Int × Bool))) := cond (decide (x135 > 0)) (Z9z x109 (List.set l106 (Int.toNat x109) x135) (IntKind.i64.wrap (x107 - 1)) true) (Z9z x109 l106 x107 x108)
def Za1 (p0 : Y92) (l106 : List Int) (e111 : Y8z) (x125 : Int) (x126 : Int) : Option ((Int × Int) ⊕ (Int)) := cond (decide (x126 < (e111.prev.length : Int))) ((getI e111.prev x126).bind fun e128 => (Z9k p0.events e128).bind fun r130 => (getI l106 r130.1).bind fun e132 => cond (e132 == 0) (some (.inr 0)) (some (.inl ((if (IntKind.i64.wrap (e132 + 1)) > x125 then (IntKind.i64.wrap (e132 + 1)) else x125), (IntKind.i64.wrap (x126 + 1)))))) (some (.inr x125))
def Za2 (p0 : Y92) (l106 : List Int) (x107 : Int) (x108 : Bool) (x109 : Int) : Option ((List Int × Int × Bool × Int) ⊕ ((List Int × Int × Bool))) := cond (decide (x109 < (p0.events.length : Int))) ((getI p0.events x109).bind fun e111 => (getI l106 x109).bind fun e114 => cond (decide (e114 > 0)) (Z9z x109 l106 x107 x108) ((iter (fun z143 => Za1 p0 l106 e111 z143.1 z143.2) big (1, 0)).bind fun y144 => Za0 l106 x107 x108 x109 y144)) (some (.inr (l106, x107, x108)))
def Za3 (p0 : Y92) (l70 : List Int) (x71 : Int) (x74 : Bool) : Option ((List Int × Int × Bool) ⊕ ((List Int × Int))) := cond x74 ((iter (fun z145 => Za2 p0 z145.1 z145.2.1 z145.2.2.1 z145.2.2.2) big (l70, x71, false, 0)).bind fun (y146, y147, y148) => some (.inl (y146, y147, y148))) (some (.inr (l70, x71)))
def Za4 (p0 : Y92) (l70 : List Int) (x71 : Int) (x72 : Bool) : Option ((List Int × Int × Bool) ⊕ ((List Int × Int))) := cond x72 (Za3 p0 l70 x71 (decide (x71 > 0))) (Za3 p0 l70 x71 false)
def Za5 (p0 : Y92) : Option (List Int × Bool) := (chk (decide (0 ≤ (p0.events.length : Int) ∧ (p0.events.length : Int) * 8 ≤ 140737488355328))).bind fun u3 => (iter (fun z149 => Za4 p0 z149.1 z149.2.1 z149.2.2) big ((List.replicate (Int.toNat (p0.events.length : Int)) 0), (p0.events.length : Int), true)).bind fun (y150, y151) => Z9y y150 y151
theorem Za6 (p0 : Y92) (r : List Int × Bool) (h : Za5 p0 = some r) : Ok Tryz.prog 190 [C.agg [cI p0.room, cM Y9b 9 p0.events, cM Y9b 9 p0.parked]] [] (fun c qs => ∃ (v142 : Value), c = C.tup [cV v142, C.bool r.2] ∧ qs = [oA v142 2 kI64 1 r.1]) := by
 refine Ok.of_body (rs := [.tmp 2, .tmp 3]) Tryz.func190 rfl rfl rfl rfl rfl fun X => ?_
 unfold Za5 at h
 refine zw ?_
 refine ox fun b1 => ?_
 refine zw ?_
 refine rD [0] [1,5] [] [0,5,8,16,21,24,14,28,32] ?_
 refine zw ?_
 refine ob' h fun u3 c2 h => ?_
 refine Y3n.h (ns := []) rfl rfl rfl (Y3b (k := kI64) (z := 0) Yab ze_2 (Y42 rfl rfl) rfl rfl (Y3x c2).1 (Y3x c2).2 (Y3y (by decide) c2) rfl) ?_
 rintro _ _ ⟨b4, rfl, rfl⟩
 refine OpsD.v rfl rfl (Yr rfl rfl) ?_
 refine OpsD.v rfl rfl (Yr rfl rfl) ?_
 refine OpsD.done ?_
 refine AW.seq ?_
 refine AW.cut (τ := List Int × Int) (fun (l140, x141) => ⟨[(4, cV (sn b4 (p0.events.length : Int))), (5, cI x141)], [oA (sn b4 (p0.events.length : Int)) 2 kI64 1 l140]⟩) (fun (l140, x141) => Z9y l140 x141 = some r) ?_ ?_
 ·
  refine zw ?_
  refine AW.lp (v := ()) h (fun (l70, x71, x72) (_ : Unit) => ⟨[(1, pt b1), (4, cV (sn b4 (p0.events.length : Int))), (5, cI x71), (6, C.bool x72)], [oB b1 139 [cI p0.room, cM Y9b 9 p0.events, cM Y9b 9 p0.parked], oA (sn b4 (p0.events.length : Int)) 2 kI64 1 l70]⟩) (gb [0, 0]) ?_
  rintro ⟨l70, x71, x72⟩ _ y157 h
  refine AW.seq ?_
  refine AW.seq ?_
  refine AW.cut (τ := Bool) (fun x74 => ⟨[(1, pt b1), (4, cV (sn b4 (p0.events.length : Int))), (5, cI x71), (25, C.bool x74)], [oB b1 139 [cI p0.room, cM Y9b 9 p0.events, cM Y9b 9 p0.parked], oA (sn b4 (p0.events.length : Int)) 2 kI64 1 l70]⟩) (fun x74 => Za3 p0 l70 x71 x74 = some y157) go fun x74 h => ?_
  replace h : Za3 p0 l70 x71 x74 = some y157 := h
  unfold Za3 at h
  refine cnd h (fun hb75 h => ?_) fun hb75 h => ?_
  ·
   refine AW.ct hb75 rfl ?_
   refine zw ?_
   refine AW.lp (v := ()) h (fun (l106, x107, x108, x109) (_ : Unit) => ⟨[(1, pt b1), (4, cV (sn b4 (p0.events.length : Int))), (5, cI x107), (6, C.bool x108), (27, cM Y9b 9 p0.events), (28, cI (p0.events.length : Int)), (29, cI x109)], [oB b1 139 [cI p0.room, cM Y9b 9 p0.events, cM Y9b 9 p0.parked], oA (sn b4 (p0.events.length : Int)) 2 kI64 1 l106]⟩) (gb [0, 0]) ?_
   rintro ⟨l106, x107, x108, x109⟩ _ y164 h
   refine zw ?_
   refine cnd h (fun hb110 h => ?_) fun hb110 h => ?_
   ·
    refine AW.ct hb110 rfl ?_
    refine zw ?_
    refine oi h fun e111 g112 h => ?_
    refine zw ?_
    refine Ops.h (ns := []) rfl rfl (Y1p (cs := [cI 0, cI 0, cI 0, cI 0, cI 0, cI 0, C.str ByteArray.empty, cV s0, cI 0]) Yac (Y42 rfl rfl) rfl) ?_
    rintro _ _ ⟨b113, rfl, rfl⟩
    refine zw ?_
    refine Ops.hd (ns := [0]) rfl rfl (Y1u (gs := [cI e111.id, cI e111.room, cI e111.author, cI e111.kind, cI e111.key, cI e111.n, C.str e111.text, cM kI64 1 e111.prev, cI e111.time]) Yat.h rfl rfl rfl rfl rfl) ?_
    refine zw ?_
    refine ob' h fun e114 g115 h => ?_
    refine Ops.v rfl (Y2x (p := 2) Y9v.h rfl rfl rfl g115 rfl) ?_
    refine Ops.v rfl (Y30 (p := 2) ld_2.h rfl rfl (Y29 g115).2.2 rfl rfl) ?_
    refine zw ?_
    refine cnd h (fun hb116 h => go) fun hb116 h => ?_
    refine AW.cf hb116 rfl ?_
    refine AW.skip ?_
    refine AW.seq ?_
    refine AW.region ?_
    refine Ops.v rfl (Yr rfl rfl) ?_
    refine Ops.nil ?_
    refine AW.seq ?_
    refine AW.cut (τ := Int) (fun x135 => ⟨[(1, pt b1), (4, cV (sn b4 (p0.events.length : Int))), (5, cI x107), (6, C.bool x108), (7, cI x109), (9, cI x135), (27, cM Y9b 9 p0.events), (28, cI (p0.events.length : Int)), (29, cI x109)], [oB b1 139 [cI p0.room, cM Y9b 9 p0.events, cM Y9b 9 p0.parked], oA (sn b4 (p0.events.length : Int)) 2 kI64 1 l106]⟩) (fun x135 => Za0 l106 x107 x108 x109 x135 = some y164) ?_ ?_
    ·
     refine zw ?_
     refine AW.lp (v := ()) h (fun (x125, x126) (_ : Unit) => ⟨[(1, pt b1), (4, cV (sn b4 (p0.events.length : Int))), (5, cI x107), (6, C.bool x108), (7, cI x109), (9, cI x125), (27, cM Y9b 9 p0.events), (28, cI (p0.events.length : Int)), (29, cI x109), (40, cM kI64 1 e111.prev), (41, cI (e111.prev.length : Int)), (42, cI x126)], [oB b1 139 [cI p0.room, cM Y9b 9 p0.events, cM Y9b 9 p0.parked], oA (sn b4 (p0.events.length : Int)) 2 kI64 1 l106]⟩) (gb [1, 1]) ?_
     rintro ⟨x125, x126⟩ _ y171 h
     refine zw ?_
     refine cnd h (fun hb127 h => ?_) fun hb127 h => ?_
     ·
      refine AW.ct hb127 rfl ?_
      refine zw ?_
      refine oi h fun e128 g129 h => ?_
      refine zw ?_
      refine oc h fun r130 g131 h => ?_
      refine zw ?_
      refine ob' h fun e132 g133 h => ?_
      refine Ops.v rfl (Y2x (p := 1) Y9v.h rfl rfl rfl g133 rfl) ?_
      refine Ops.v rfl (Y30 (p := 1) ld_2.h rfl rfl (Y29 g133).2.2 rfl rfl) ?_
      refine zw ?_
      refine cnd h (fun hb134 h => go) fun hb134 h => ?_
      refine AW.cf hb134 rfl ?_
      refine AW.skip ?_
      refine AW.region ?_
      refine Ops.v rfl (Yq rfl rfl) ?_
      refine Ops.v rfl (Yq rfl rfl) ?_
      refine Ops.v rfl (Yq rfl rfl) ?_
      refine Ops.v rfl (Y2x (p := 1) Y9v.h rfl rfl rfl g133 rfl) ?_
      refine Ops.v rfl (Y30 (p := 1) ld_2.h rfl rfl (Y29 g133).2.2 rfl rfl) ?_
      refine zw ?_
      refine Ops.v rfl (Y2f rfl rfl rfl) ?_
      exact go
     exact go
    intro x135 h
    replace h : Za0 l106 x107 x108 x109 x135 = some y164 := h
    unfold Za0 at h
    refine zw ?_
    refine cnd h (fun hb136 h => ?_) fun hb136 h => ?_
    ·
     refine AW.ct hb136 rfl ?_
     refine AW.region ?_
     refine Ops.v rfl (Yq rfl rfl) ?_
     refine Ops.v rfl (Yq rfl rfl) ?_
     refine Ops.v rfl (Yq rfl rfl) ?_
     refine Ops.v rfl (Yq rfl rfl) ?_
     refine Ops.v rfl (Yv rfl rfl rfl rfl) ?_
     refine Ops.v rfl (Y2x (p := 1) Y9v.h rfl rfl rfl g115 rfl) ?_
     refine Ops.hd (ns := [1]) rfl rfl (Y33 (e' := x135) ld_2.h rfl rfl (One.val rfl) (Y29 g115).2.2 rfl rfl) ?_
     exact go
    exact go
   exact go
  exact go
 rintro ⟨l140, x141⟩ h
 replace h : Z9y l140 x141 = some r := h
 unfold Z9y at h
 refine zw ?_
 refine AW.ret ?_
 rw [← Wj h]
 exact ⟨[cV (sn b4 (p0.events.length : Int)), C.bool (x141 == 0)], _, Y21.refl _, (.cons (.tmp rfl) (.cons (.tmp rfl) .nil)), [0], _, _, rfl, ⟨(sn b4 (p0.events.length : Int)), rfl, rfl⟩⟩
instance Za6' (p0 : Y92) : Sp Tryz.prog 190 [C.agg [cI p0.room, cM Y9b 9 p0.events, cM Y9b 9 p0.parked]] (Za5 p0) (fun r => C.tup [cM kI64 1 r.1, C.bool r.2]) := ⟨fun r h => Ok.freeze (Za6 p0 r h) (by rintro c qs ⟨v142, rfl, rfl⟩; exact Frz.tup (FrzT.cons (os := [_]) (Frz.arr) (fT (FrzT.nil))))⟩

def Za7 (p0 : Y8z) (q0 : Y92) : Option Bool := (Z9w q0 p0).bind fun r2 => some (!r2)
theorem Za8 {b00 : Nat} (p0 : Y8z) (q0 : Y92) (r : Bool) (h : Za7 p0 q0 = some r) : Ok Tryz.prog 186 [C.agg [cI p0.id, cI p0.room, cI p0.author, cI p0.kind, cI p0.key, cI p0.n, C.str p0.text, cM kI64 1 p0.prev, cI p0.time], pt b00] [oB b00 139 [cI q0.room, cM Y9b 9 q0.events, cM Y9b 9 q0.parked]] (fun c qs => c = C.bool r ∧ qs = [oB b00 139 [cI q0.room, cM Y9b 9 q0.events, cM Y9b 9 q0.parked]]) := by
 refine Ok.of_body (rs := [.tmp 3]) Tryz.func186 rfl rfl rfl rfl rfl fun X => ?_
 unfold Za7 at h
 refine zw ?_
 refine ox fun b1 => ?_
 refine zw ?_
 refine oc h fun r2 g3 h => ?_
 refine zw ?_
 refine AW.ret ?_
 rw [← Wj h]
 exact ⟨[C.bool (!r2)], _, Y21.refl _, (.cons (.tmp rfl) .nil), [1], _, _, rfl, ⟨rfl, rfl⟩⟩

def Za9 : Option Int := some (-1)
def Zaa (p0 : List Y8z) (p1_0 : Y92) (x7 : Int) : Option (Int ⊕ (Int ⊕ Unit)) := cond (decide (x7 < (p0.length : Int))) ((getI p0 x7).bind fun e9 => (Za7 e9 p1_0).bind fun r11 => cond r11 (some (.inr (.inl x7))) (some (.inl (IntKind.i64.wrap (x7 + 1))))) (some (.inr (.inr ())))
def Zab (p0 : List Y8z) (p1_0 : Y92) : Option Int := (iter (Zaa p0 p1_0) big 0).bind (fun z15 => match z15 with | .inl y14 => some y14 | .inr () => Za9)
theorem Zac {b00 : Nat} (p0 : List Y8z) (p1_0 : Y92) (r : Int) (h : Zab p0 p1_0 = some r) : Ok Tryz.prog 236 [cM Y9b 9 p0, C.clo 186 [pt b00]] [oB b00 139 [cI p1_0.room, cM Y9b 9 p1_0.events, cM Y9b 9 p1_0.parked]] (fun c qs => c = cI r ∧ qs = [oB b00 139 [cI p1_0.room, cM Y9b 9 p1_0.events, cM Y9b 9 p1_0.parked]]) := by
 refine Ok.of_body (rs := [.tmp 4]) Tryz.func236 rfl rfl rfl rfl rfl fun X => ?_
 unfold Zab at h
 refine AW.seq ?_
 refine AW.region ?_
 refine Ops.v rfl (Yr rfl rfl) ?_
 refine Ops.nil ?_
 refine AW.seq ?_
 refine AW.cut (τ := Unit) (fun (_ : Unit) => ⟨[], [oB b00 139 [cI p1_0.room, cM Y9b 9 p1_0.events, cM Y9b 9 p1_0.parked]]⟩) (fun (_ : Unit) => Za9 = some r) ?_ ?_
 ·
  refine zw ?_
  refine AW.lp (v := ()) h (fun x7 (_ : Unit) => ⟨[(0, cM Y9b 9 p0), (1, C.clo 186 [pt b00]), (7, cI (p0.length : Int)), (8, cI x7)], [oB b00 139 [cI p1_0.room, cM Y9b 9 p1_0.events, cM Y9b 9 p1_0.parked]]⟩) (gb [0]) ?_
  rintro x7 _ y21 h
  refine zw ?_
  refine cnd h (fun hb8 h => ?_) fun hb8 h => ?_
  ·
   refine AW.ct hb8 rfl ?_
   refine zw ?_
   refine oi h fun e9 g10 h => ?_
   refine zw ?_
   refine ob' h fun r11 g12 h => ?_
   refine Ops.hd (ns := [0]) rfl rfl (Y6s (cs := [_]) (ds := [_]) rfl (Za8 e9 p1_0 _ g12) rfl rfl) ?_
   refine zw ?_
   refine cnd h (fun hb13 h => ?_) fun hb13 h => ?_
   ·
    refine AW.ct hb13 rfl ?_
    refine zw ?_
    refine AW.ret ?_
    refine lx h fun h => ?_
    rw [← Wj h]
    exact ⟨[cI x7], _, Y21.refl _, (.cons (.tmp rfl) .nil), [0], _, _, rfl, ⟨rfl, rfl⟩⟩
   exact go
  exact go
 rintro ⟨⟩ h
 replace h : Za9 = some r := h
 unfold Za9 at h
 refine zw ?_
 refine AW.ret ?_
 rw [← Wj h]
 exact ⟨[cI (-1)], _, Y21.refl _, (.cons (.tmp rfl) .nil), [0], _, _, rfl, ⟨rfl, rfl⟩⟩

def Zad (p0 : List Y8z) (p1_0 : Y92) : Option Bool := (Zab p0 p1_0).bind fun r1 => some (decide (r1 ≥ 0))
theorem Zae {b00 : Nat} (p0 : List Y8z) (p1_0 : Y92) (r : Bool) (h : Zad p0 p1_0 = some r) : Ok Tryz.prog 185 [cM Y9b 9 p0, C.clo 186 [pt b00]] [oB b00 139 [cI p1_0.room, cM Y9b 9 p1_0.events, cM Y9b 9 p1_0.parked]] (fun c qs => c = C.bool r ∧ qs = [oB b00 139 [cI p1_0.room, cM Y9b 9 p1_0.events, cM Y9b 9 p1_0.parked]]) := by
 refine Ok.of_body (rs := [.tmp 4]) Tryz.func185 rfl rfl rfl rfl rfl fun X => ?_
 unfold Zad at h
 refine zw ?_
 refine ob' h fun r1 g2 h => ?_
 refine Ops.hd (ns := [0]) rfl rfl (Y24 (Zac p0 p1_0 _ g2) rfl rfl) ?_
 refine zw ?_
 refine AW.ret ?_
 rw [← Wj h]
 exact ⟨[C.bool (decide (r1 ≥ 0))], _, Y21.refl _, (.cons (.tmp rfl) .nil), [0], _, _, rfl, ⟨rfl, rfl⟩⟩

def Zaf (x7 : Bool) : Option Bool := some x7
def Zag (p0 : Y8z) (q0 : Y92) : Option Bool := (Z9m q0 p0.id).bind fun r2 => cond r2 (Zaf true) ((Z9w q0 p0).bind fun r5 => Zaf r5)
theorem Zah {b00 : Nat} (p0 : Y8z) (q0 : Y92) (r : Bool) (h : Zag p0 q0 = some r) : Ok Tryz.prog 188 [C.agg [cI p0.id, cI p0.room, cI p0.author, cI p0.kind, cI p0.key, cI p0.n, C.str p0.text, cM kI64 1 p0.prev, cI p0.time], pt b00] [oB b00 139 [cI q0.room, cM Y9b 9 q0.events, cM Y9b 9 q0.parked]] (fun c qs => c = C.bool r ∧ qs = [oB b00 139 [cI q0.room, cM Y9b 9 q0.events, cM Y9b 9 q0.parked]]) := by
 refine Ok.of_body (rs := [.tmp 3]) Tryz.func188 rfl rfl rfl rfl rfl fun X => ?_
 unfold Zag at h
 refine zw ?_
 refine ox fun b1 => ?_
 refine Ops.v rfl (Yr rfl rfl) ?_
 refine Ops.nil ?_
 refine AW.seq ?_
 refine AW.cut (τ := Bool) (fun x7 => ⟨[(3, C.bool x7)], [oB b00 139 [cI q0.room, cM Y9b 9 q0.events, cM Y9b 9 q0.parked]]⟩) (fun x7 => Zaf x7 = some r) ?_ ?_
 ·
  refine zw ?_
  refine oc h fun r2 g3 h => ?_
  refine zw ?_
  refine cnd h (fun hb4 h => go) fun hb4 h => ?_
  refine zw ?_
  refine ob' h fun r5 g6 h => ?_
  refine Ops.ghd (ns := []) rfl rfl rfl rfl hb4 rfl (Y24 ((Z9x _ _).h _ g6) rfl rfl) ?_
  exact go
 intro x7 h
 replace h : Zaf x7 = some r := h
 unfold Zaf at h
 refine AW.ret ?_
 rw [← Wj h]
 exact ⟨[C.bool x7], _, Y21.refl _, (.cons (.tmp rfl) .nil), [0], _, _, rfl, ⟨rfl, rfl⟩⟩

def Zai : Option Int := some (-1)
def Zaj (p0 : List Y8z) (p1_0 : Y92) (x7 : Int) : Option (Int ⊕ (Int ⊕ Unit)) := cond (decide (x7 < (p0.length : Int))) ((getI p0 x7).bind fun e9 => (Zag e9 p1_0).bind fun r11 => cond r11 (some (.inr (.inl x7))) (some (.inl (IntKind.i64.wrap (x7 + 1))))) (some (.inr (.inr ())))
def Zak (p0 : List Y8z) (p1_0 : Y92) : Option Int := (iter (Zaj p0 p1_0) big 0).bind (fun z15 => match z15 with | .inl y14 => some y14 | .inr () => Zai)
theorem Zal {b00 : Nat} (p0 : List Y8z) (p1_0 : Y92) (r : Int) (h : Zak p0 p1_0 = some r) : Ok Tryz.prog 236 [cM Y9b 9 p0, C.clo 188 [pt b00]] [oB b00 139 [cI p1_0.room, cM Y9b 9 p1_0.events, cM Y9b 9 p1_0.parked]] (fun c qs => c = cI r ∧ qs = [oB b00 139 [cI p1_0.room, cM Y9b 9 p1_0.events, cM Y9b 9 p1_0.parked]]) := by
 refine Ok.of_body (rs := [.tmp 4]) Tryz.func236 rfl rfl rfl rfl rfl fun X => ?_
 unfold Zak at h
 refine AW.seq ?_
 refine AW.region ?_
 refine Ops.v rfl (Yr rfl rfl) ?_
 refine Ops.nil ?_
 refine AW.seq ?_
 refine AW.cut (τ := Unit) (fun (_ : Unit) => ⟨[], [oB b00 139 [cI p1_0.room, cM Y9b 9 p1_0.events, cM Y9b 9 p1_0.parked]]⟩) (fun (_ : Unit) => Zai = some r) ?_ ?_
 ·
  refine zw ?_
  refine AW.lp (v := ()) h (fun x7 (_ : Unit) => ⟨[(0, cM Y9b 9 p0), (1, C.clo 188 [pt b00]), (7, cI (p0.length : Int)), (8, cI x7)], [oB b00 139 [cI p1_0.room, cM Y9b 9 p1_0.events, cM Y9b 9 p1_0.parked]]⟩) (gb [0]) ?_
  rintro x7 _ y21 h
  refine zw ?_
  refine cnd h (fun hb8 h => ?_) fun hb8 h => ?_
  ·
   refine AW.ct hb8 rfl ?_
   refine zw ?_
   refine oi h fun e9 g10 h => ?_
   refine zw ?_
   refine ob' h fun r11 g12 h => ?_
   refine Ops.hd (ns := [0]) rfl rfl (Y6s (cs := [_]) (ds := [_]) rfl (Zah e9 p1_0 _ g12) rfl rfl) ?_
   refine zw ?_
   refine cnd h (fun hb13 h => ?_) fun hb13 h => ?_
   ·
    refine AW.ct hb13 rfl ?_
    refine zw ?_
    refine AW.ret ?_
    refine lx h fun h => ?_
    rw [← Wj h]
    exact ⟨[cI x7], _, Y21.refl _, (.cons (.tmp rfl) .nil), [0], _, _, rfl, ⟨rfl, rfl⟩⟩
   exact go
  exact go
 rintro ⟨⟩ h
 replace h : Zai = some r := h
 unfold Zai at h
 refine zw ?_
 refine AW.ret ?_
 rw [← Wj h]
 exact ⟨[cI (-1)], _, Y21.refl _, (.cons (.tmp rfl) .nil), [0], _, _, rfl, ⟨rfl, rfl⟩⟩

def Zam (p0 : List Y8z) (p1_0 : Y92) : Option Bool := (Zak p0 p1_0).bind fun r1 => some (decide (r1 ≥ 0))
theorem Zan {b00 : Nat} (p0 : List Y8z) (p1_0 : Y92) (r : Bool) (h : Zam p0 p1_0 = some r) : Ok Tryz.prog 185 [cM Y9b 9 p0, C.clo 188 [pt b00]] [oB b00 139 [cI p1_0.room, cM Y9b 9 p1_0.events, cM Y9b 9 p1_0.parked]] (fun c qs => c = C.bool r ∧ qs = [oB b00 139 [cI p1_0.room, cM Y9b 9 p1_0.events, cM Y9b 9 p1_0.parked]]) := by
 refine Ok.of_body (rs := [.tmp 4]) Tryz.func185 rfl rfl rfl rfl rfl fun X => ?_
 unfold Zam at h
 refine zw ?_
 refine ob' h fun r1 g2 h => ?_
 refine Ops.hd (ns := [0]) rfl rfl (Y24 (Zal p0 p1_0 _ g2) rfl rfl) ?_
 refine zw ?_
 refine AW.ret ?_
 rw [← Wj h]
 exact ⟨[C.bool (decide (r1 ≥ 0))], _, Y21.refl _, (.cons (.tmp rfl) .nil), [0], _, _, rfl, ⟨rfl, rfl⟩⟩

def Zao (p0 : Y92) (x12 : Bool) : Option Bool := cond x12 (some false) ((Zad p0.events p0).bind fun r14 => cond r14 (some false) ((Zam p0.parked p0).bind fun r17 => cond r17 (some false) ((Za5 p0).bind fun r20 => some r20.2)))
def Zap (p0 : Y92) : Option Bool := (Z85 p0.room).bind fun r2 => cond r2 (cond (decide ((p0.events.length : Int) > 60)) (Zao p0 true) (cond (decide ((p0.parked.length : Int) > 20)) (Zao p0 true) ((Z97 p0 p0.events).bind fun r7 => cond r7 ((Z97 p0 p0.parked).bind fun r10 => Zao p0 (!r10)) (Zao p0 true)))) (Zao p0 true)
instance Zaq (p0 : Y92) : Sp Tryz.prog 135 [C.agg [cI p0.room, cM Y9b 9 p0.events, cM Y9b 9 p0.parked]] (Zap p0) C.bool := sp Tryz.func135 rfl rfl fun r X h => by
 unfold Zap at h
 refine zw ?_
 refine ox fun b1 => ?_
 refine Ops.v rfl (Yr rfl rfl) ?_
 refine Ops.nil ?_
 refine AW.seq ?_
 refine AW.seq ?_
 refine AW.cut (τ := Bool) (fun x12 => ⟨[(1, pt b1), (34, C.bool x12)], [oB b1 139 [cI p0.room, cM Y9b 9 p0.events, cM Y9b 9 p0.parked]]⟩) (fun x12 => Zao p0 x12 = some r) ?_ ?_
 ·
  refine zw ?_
  refine oc h fun r2 g3 h => ?_
  refine zw ?_
  refine cnd h (fun hb4 h => ?_) fun hb4 h => ?_
  ·
   refine zw ?_
   refine cnd h (fun hb5 h => go) fun hb5 h => ?_
   refine zw ?_
   refine cnd h (fun hb6 h => go) fun hb6 h => ?_
   refine zw ?_
   refine ob' h fun r7 g8 h => ?_
   refine Ops.ghd (ns := []) rfl rfl rfl rfl hb6 rfl (Y24 ((Z98 _ _).h _ g8) rfl rfl) ?_
   refine zw ?_
   refine cnd h (fun hb9 h => ?_) fun hb9 h => ?_
   ·
    refine zw ?_
    refine ob' h fun r10 g11 h => ?_
    refine Ops.ghd (ns := []) rfl rfl rfl rfl (Y3u hb9) rfl (Y24 ((Z98 _ _).h _ g11) rfl rfl) ?_
    exact go
   exact go
  exact go
 intro x12 h
 replace h : Zao p0 x12 = some r := h
 unfold Zao at h
 refine cnd h (fun hb13 h => go) fun hb13 h => ?_
 refine AW.cf hb13 rfl ?_
 refine zw ?_
 refine Ops.v rfl (Y6q rfl rfl) ?_
 refine ob' h fun r14 g15 h => ?_
 refine Ops.hd (ns := [0]) rfl rfl (Y24 (Zae p0.events p0 _ g15) rfl rfl) ?_
 refine zw ?_
 refine cnd h (fun hb16 h => go) fun hb16 h => ?_
 refine AW.cf hb16 rfl ?_
 refine zw ?_
 refine Ops.v rfl (Y6q rfl rfl) ?_
 refine ob' h fun r17 g18 h => ?_
 refine Ops.hd (ns := [0]) rfl rfl (Y24 (Zan p0.parked p0 _ g18) rfl rfl) ?_
 exact go

def Zar (p0 : Int) (p1 : Int) (q0 : List Int) : Option Int := (getI q0 p0).bind fun e1 => (getI q0 p1).bind fun e3 => (Z9b e1 e3).bind fun r5 => some r5
theorem Zas {b00 : Nat} (p0 : Int) (p1 : Int) (q0 : List Int) (r : Int) (h : Zar p0 p1 q0 = some r) : Ok Tryz.prog 239 [cI p0, cI p1, pt b00] [oB b00 57 [cM kI64 1 q0]] (fun c qs => c = cI r ∧ qs = [oB b00 57 [cM kI64 1 q0]]) := by
 refine Ok.of_body (rs := [.tmp 5]) Tryz.func239 rfl rfl rfl rfl rfl fun X => ?_
 unfold Zar at h
 refine zw ?_
 refine rD [0] [0,3,4,7] [] [1,4,8,13,17,20,24,29,34,36] ?_
 refine zw ?_
 refine di h fun e1 g2 h => ?_
 refine zw ?_
 refine di h fun e3 g4 h => ?_
 refine zw ?_
 refine dc h fun r5 g6 h => ?_
 refine zw ?_
 refine AW.ret ?_
 rw [← Wj h]
 exact ⟨[cI r5], _, Y21.refl _, (.cons (.tmp rfl) .nil), [0], _, _, rfl, ⟨rfl, rfl⟩⟩

def Zat (x62 : Int) (l122 : List Int) : Option ((List Int × Int) ⊕ ((List Int))) := some (.inl (l122, (IntKind.i64.wrap (x62 + 1))))
def Zau (l92 : List Int) (x93 : Int) (x110 : Bool) : Option ((List Int × Int) ⊕ ((List Int))) := cond x110 ((getI l92 (IntKind.i64.wrap (x93 - 1))).bind fun e112 => (getI l92 x93).bind fun e114 => (getI (List.set l92 (Int.toNat x93) e112) (IntKind.i64.wrap (x93 - 1))).bind fun e120 => some (.inl ((List.set (List.set l92 (Int.toNat x93) e112) (Int.toNat (IntKind.i64.wrap (x93 - 1))) e114), (IntKind.i64.wrap (x93 - 1))))) (some (.inr l92))
def Zav (p1 : Int) (p3_0 : List Int) (l92 : List Int) (x93 : Int) : Option ((List Int × Int) ⊕ ((List Int))) := cond (decide (x93 > p1)) ((getI l92 x93).bind fun e104 => (getI l92 (IntKind.i64.wrap (x93 - 1))).bind fun e106 => (Zar e104 e106 p3_0).bind fun r108 => Zau l92 x93 (decide (r108 < 0))) (Zau l92 x93 false)
def Zaw (p1 : Int) (p2 : Int) (p3_0 : List Int) (l61 : List Int) (x62 : Int) : Option ((List Int × Int) ⊕ ((List Int))) := cond (decide (x62 < p2)) ((iter (fun z123 => Zav p1 p3_0 z123.1 z123.2) big (l61, x62)).bind fun y124 => Zat x62 y124) (some (.inr l61))
def Zax (p0 : List Int) (p1 : Int) (p2 : Int) (p3_0 : List Int) : Option (List Int) := (iter (fun z125 => Zaw p1 p2 p3_0 z125.1 z125.2) big (p0, (IntKind.i64.wrap (p1 + 1)))).bind fun y126 => some y126
theorem Zay {w00 : Value} {b01 : Nat} (p0 : List Int) (p1 : Int) (p2 : Int) (p3_0 : List Int) (r : List Int) (h : Zax p0 p1 p2 p3_0 = some r) : Ok Tryz.prog 305 [cV w00, cI p1, cI p2, C.clo 239 [pt b01]] [oA w00 3 kI64 1 p0, oB b01 57 [cM kI64 1 p3_0]] (fun c qs => c = C.tup [] ∧ qs = [oA w00 3 kI64 1 r, oB b01 57 [cM kI64 1 p3_0]]) := by
 refine Ok.of_body (rs := []) Tryz.func305 rfl rfl rfl rfl rfl fun X => ?_
 unfold Zax at h
 refine zw ?_
 refine AW.lp (v := ()) h (fun (l61, x62) (_ : Unit) => ⟨[(0, cV w00), (1, cI p1), (2, cI p2), (3, C.clo 239 [pt b01]), (8, cI x62)], [oA w00 3 kI64 1 l61, oB b01 57 [cM kI64 1 p3_0]]⟩) (gb [0, 0]) ?_
 rintro ⟨l61, x62⟩ _ y132 h
 refine zw ?_
 refine cnd h (fun hb63 h => ?_) fun hb63 h => ?_
 ·
  refine AW.ct hb63 rfl ?_
  refine zw ?_
  refine AW.lp (v := ()) h (fun (l92, x93) (_ : Unit) => ⟨[(0, cV w00), (1, cI p1), (2, cI p2), (3, C.clo 239 [pt b01]), (8, cI x62), (9, cI x93)], [oA w00 3 kI64 1 l92, oB b01 57 [cM kI64 1 p3_0]]⟩) (gb [0, 0]) ?_
  rintro ⟨l92, x93⟩ _ y139 h
  refine AW.seq ?_
  refine AW.seq ?_
  refine AW.cut (τ := Bool) (fun x110 => ⟨[(0, cV w00), (1, cI p1), (2, cI p2), (3, C.clo 239 [pt b01]), (8, cI x62), (9, cI x93), (34, C.bool x110)], [oA w00 3 kI64 1 l92, oB b01 57 [cM kI64 1 p3_0]]⟩) (fun x110 => Zau l92 x93 x110 = some y139) ?_ ?_
  ·
   refine rD [0] [8,13] [] [0,4,8,12,16,20,24,28,33,36,40,44,48,53,58,60,64] ?_
   refine zw ?_
   refine cnd h (fun hb103 h => ?_) fun hb103 h => ?_
   ·
    refine zw ?_
    refine ob' h fun e104 g105 h => ?_
    refine OpsD.gv rfl rfl rfl rfl rfl hb103 (Y2x (p := 0) Ycy.h rfl rfl rfl g105 rfl) ?_
    refine OpsD.gv rfl rfl rfl rfl rfl hb103 (Y30 (p := 0) ld_3.h rfl rfl (Y29 g105).2.2 rfl rfl) ?_
    refine zw ?_
    refine ob' h fun e106 g107 h => ?_
    refine OpsD.gv rfl rfl rfl rfl rfl hb103 (Y2x (p := 0) Ycy.h rfl rfl rfl g107 rfl) ?_
    refine OpsD.gv rfl rfl rfl rfl rfl hb103 (Y30 (p := 0) ld_3.h rfl rfl (Y29 g107).2.2 rfl rfl) ?_
    refine zw ?_
    refine ob' h fun r108 g109 h => ?_
    refine Y3n.gh (ns := [0]) rfl rfl rfl rfl rfl hb103 rfl (Y6s (cs := [_, _]) (ds := [_]) rfl (Zas e104 e106 p3_0 _ g109) rfl rfl) ?_
    rintro _ _ ⟨rfl, rfl⟩
    exact go
   refine OpsD.gs rfl rfl rfl rfl (.b rfl hb103) rfl rfl ?_
   refine OpsD.gs rfl rfl rfl rfl (.b rfl hb103) rfl rfl ?_
   refine OpsD.gs rfl rfl rfl rfl (.b rfl hb103) rfl rfl ?_
   refine OpsD.gs rfl rfl rfl rfl (.b rfl hb103) rfl rfl ?_
   refine OpsD.gs rfl rfl rfl rfl (.b rfl hb103) rfl rfl ?_
   refine OpsD.gs rfl rfl rfl rfl (.b rfl hb103) rfl rfl ?_
   refine OpsD.gs rfl rfl rfl rfl (.b rfl hb103) rfl rfl ?_
   refine OpsD.gs rfl rfl rfl rfl (.b rfl hb103) rfl rfl ?_
   refine OpsD.gs rfl rfl rfl rfl (.b rfl hb103) rfl rfl ?_
   refine OpsD.gs rfl rfl rfl rfl (.b rfl hb103) rfl rfl ?_
   refine OpsD.one ?_
   refine Y3n.gs rfl rfl rfl rfl (.b rfl hb103) rfl rfl ?_
   exact go
  intro x110 h
  replace h : Zau l92 x93 x110 = some y139 := h
  unfold Zau at h
  refine cnd h (fun hb111 h => ?_) fun hb111 h => ?_
  ·
   refine AW.ct hb111 rfl ?_
   refine zw ?_
   refine rD [0,0] [9,13] [15,17] [0,4,8,12,16,20,24,28,32,37,40,44,48,53,56,63,64,71] ?_
   refine zw ?_
   refine di h fun e112 g113 h => ?_
   refine OpsD.v rfl rfl (Y30 (p := 0) ld_3.h rfl rfl (Y29 g113).2.2 rfl rfl) ?_
   refine zw ?_
   refine di h fun e114 g115 h => ?_
   refine OpsD.v rfl rfl (Y30 (p := 0) ld_3.h rfl rfl (Y29 g115).2.2 rfl rfl) ?_
   refine zw ?_
   refine OpsD.late (ns := [0]) rfl rfl rfl (Y33 (e' := e112) ld_3.h rfl rfl (One.val rfl) (Y29 g115).2.2 rfl rfl) ?_
   rintro _ _ ⟨rfl, rfl⟩
   refine ob' h fun e120 g121 h => ?_
   refine OpsD.rest (ns := [0, 0]) rfl ?_
   refine zw ?_
   refine OpsD.late (ns := [0]) rfl rfl rfl (Y33 (e' := e114) ld_3.h rfl rfl (One.val rfl) (Y29 g121).2.2 rfl rfl) ?_
   rintro _ _ ⟨rfl, rfl⟩
   exact go
  exact go
 refine AW.cf hb63 rfl ?_
 refine AW.exit ?_
 refine lx h fun h => ?_
 rw [← Wj h]
 exact ⟨[], _, Y21.refl _, .nil, [0, 0], _, _, rfl, ⟨rfl, rfl⟩⟩

def Zaz (p1 : Int) (p2 : Int) (p3 : Int) (l12 : List Int) (x13 : Int) : Option ((List Int × Int) ⊕ ((List Int))) := cond (decide (x13 < p3)) ((getI l12 (IntKind.i64.wrap (p2 + x13))).bind fun e15 => (getI l12 (IntKind.i64.wrap (p1 + x13))).bind fun e17 => (getI (List.set l12 (Int.toNat (IntKind.i64.wrap (p1 + x13))) e15) (IntKind.i64.wrap (p2 + x13))).bind fun e23 => some (.inl ((List.set (List.set l12 (Int.toNat (IntKind.i64.wrap (p1 + x13))) e15) (Int.toNat (IntKind.i64.wrap (p2 + x13))) e17), (IntKind.i64.wrap (x13 + 1))))) (some (.inr l12))
def Zb0 (p0 : List Int) (p1 : Int) (p2 : Int) (p3 : Int) (p4_0 : List Int) : Option (List Int) := (iter (fun z25 => Zaz p1 p2 p3 z25.1 z25.2) big (p0, 0)).bind fun y26 => some y26
theorem Zb1 {w00 : Value} {b01 : Nat} (p0 : List Int) (p1 : Int) (p2 : Int) (p3 : Int) (p4_0 : List Int) (r : List Int) (h : Zb0 p0 p1 p2 p3 p4_0 = some r) : Ok Tryz.prog 328 [cV w00, cI p1, cI p2, cI p3, C.clo 239 [pt b01]] [oA w00 3 kI64 1 p0, oB b01 57 [cM kI64 1 p4_0]] (fun c qs => c = C.tup [] ∧ qs = [oA w00 3 kI64 1 r, oB b01 57 [cM kI64 1 p4_0]]) := by
 refine Ok.of_body (rs := []) Tryz.func328 rfl rfl rfl rfl rfl fun X => ?_
 unfold Zb0 at h
 refine zw ?_
 refine AW.lp (v := ()) h (fun (l12, x13) (_ : Unit) => ⟨[(0, cV w00), (1, cI p1), (2, cI p2), (3, cI p3), (10, cI x13)], [oA w00 3 kI64 1 l12, oB b01 57 [cM kI64 1 p4_0]]⟩) (gb [0, 0]) ?_
 rintro ⟨l12, x13⟩ _ y32 h
 refine zw ?_
 refine cnd h (fun hb14 h => ?_) fun hb14 h => ?_
 ·
  refine AW.ct hb14 rfl ?_
  refine zw ?_
  refine rD [0,0] [13,19] [21,23] [0,4,8,12,16,20,24,28,32,36,40,44,48,53,56,60,64,68,72,77,80,87,88,95] ?_
  refine zw ?_
  refine di h fun e15 g16 h => ?_
  refine OpsD.v rfl rfl (Y30 (p := 0) ld_3.h rfl rfl (Y29 g16).2.2 rfl rfl) ?_
  refine zw ?_
  refine di h fun e17 g18 h => ?_
  refine OpsD.v rfl rfl (Y30 (p := 0) ld_3.h rfl rfl (Y29 g18).2.2 rfl rfl) ?_
  refine zw ?_
  refine OpsD.late (ns := [0]) rfl rfl rfl (Y33 (e' := e15) ld_3.h rfl rfl (One.val rfl) (Y29 g18).2.2 rfl rfl) ?_
  rintro _ _ ⟨rfl, rfl⟩
  refine ob' h fun e23 g24 h => ?_
  refine OpsD.rest (ns := [0, 0]) rfl ?_
  refine zw ?_
  refine OpsD.late (ns := [0]) rfl rfl rfl (Y33 (e' := e17) ld_3.h rfl rfl (One.val rfl) (Y29 g24).2.2 rfl rfl) ?_
  rintro _ _ ⟨rfl, rfl⟩
  exact go
 refine AW.cf hb14 rfl ?_
 refine AW.exit ?_
 refine lx h fun h => ?_
 rw [← Wj h]
 exact ⟨[], _, Y21.refl _, .nil, [0, 0], _, _, rfl, ⟨rfl, rfl⟩⟩

def Zb2 (p2 : Int) (p4_0 : List Int) (l16 : List Int) (x17 : Int) : Option (List Int) := (Zb0 l16 (IntKind.i64.wrap (p2 - x17)) p2 x17 p4_0).bind fun r18 => some r18
def Zb3 (p2 : Int) (p4_0 : List Int) (l7 : List Int) (x8 : Int) (x9 : Int) : Option ((List Int × Int × Int) ⊕ ((List Int × Int))) := cond (x8 != x9) (cond (decide (x8 > x9)) ((Zb0 l7 (IntKind.i64.wrap (p2 - x8)) p2 x9 p4_0).bind fun r12 => some (.inl (r12, (IntKind.i64.wrap (x8 - x9)), x9))) ((Zb0 l7 (IntKind.i64.wrap (p2 - x8)) (IntKind.i64.wrap ((IntKind.i64.wrap (p2 + x9)) - x8)) x8 p4_0).bind fun r14 => some (.inl (r14, x8, (IntKind.i64.wrap (x9 - x8)))))) (some (.inr (l7, x8)))
def Zb4 (p0 : List Int) (p1 : Int) (p2 : Int) (p3 : Int) (p4_0 : List Int) : Option (List Int) := (iter (fun z20 => Zb3 p2 p4_0 z20.1 z20.2.1 z20.2.2) big (p0, (IntKind.i64.wrap (p2 - p1)), (IntKind.i64.wrap (p3 - p2)))).bind fun (y21, y22) => Zb2 p2 p4_0 y21 y22
theorem Zb5 {w00 : Value} {b01 : Nat} (p0 : List Int) (p1 : Int) (p2 : Int) (p3 : Int) (p4_0 : List Int) (r : List Int) (h : Zb4 p0 p1 p2 p3 p4_0 = some r) : Ok Tryz.prog 322 [cV w00, cI p1, cI p2, cI p3, C.clo 239 [pt b01]] [oA w00 3 kI64 1 p0, oB b01 57 [cM kI64 1 p4_0]] (fun c qs => c = C.tup [] ∧ qs = [oA w00 3 kI64 1 r, oB b01 57 [cM kI64 1 p4_0]]) := by
 refine Ok.of_body (rs := []) Tryz.func322 rfl rfl rfl rfl rfl fun X => ?_
 unfold Zb4 at h
 refine AW.seq ?_
 refine AW.region ?_
 refine Ops.v rfl (Yq rfl rfl) ?_
 refine Ops.v rfl (Yq rfl rfl) ?_
 refine Ops.v rfl (Yv rfl rfl rfl rfl) ?_
 refine Ops.v rfl (Yr rfl rfl) ?_
 refine Ops.nil ?_
 refine AW.seq ?_
 refine AW.region ?_
 refine Ops.v rfl (Yq rfl rfl) ?_
 refine Ops.v rfl (Yq rfl rfl) ?_
 refine Ops.v rfl (Yv rfl rfl rfl rfl) ?_
 refine Ops.v rfl (Yr rfl rfl) ?_
 refine Ops.nil ?_
 refine AW.seq ?_
 refine AW.cut (τ := List Int × Int) (fun (l16, x17) => ⟨[(0, cV w00), (2, cI p2), (4, C.clo 239 [pt b01]), (10, cI x17)], [oA w00 3 kI64 1 l16, oB b01 57 [cM kI64 1 p4_0]]⟩) (fun (l16, x17) => Zb2 p2 p4_0 l16 x17 = some r) ?_ ?_
 ·
  refine zw ?_
  refine ob' h fun o23 g24 q25 => ?_
  refine AW.loop (τ := List Int × Int × Int) (x := (p0, (IntKind.i64.wrap (p2 - p1)), (IntKind.i64.wrap (p3 - p2)))) (fun (l7, x8, x9) => ⟨[(0, cV w00), (2, cI p2), (4, C.clo 239 [pt b01]), (10, cI x8), (11, cI x9)], [oA w00 3 kI64 1 l7, oB b01 57 [cM kI64 1 p4_0]]⟩) (fun k (l7, x8, x9) => iter (fun z20 => Zb3 p2 p4_0 z20.1 z20.2.1 z20.2.2) k (l7, x8, x9) = some o23) g24 (Y21.both (ns := [0, 0]) rfl rfl) ?_
  rintro k ⟨l7, x8, x9⟩ i27
  refine Y41 (show iter (fun z20 => Zb3 p2 p4_0 z20.1 z20.2.1 z20.2.2) k (l7, x8, x9) = some o23 from i27) fun k26 y28 hlt_k26 h h29 => ?_
  replace h : Zb3 p2 p4_0 l7 x8 x9 = some y28 := h
  unfold Zb3 at h
  refine zw ?_
  refine cnd h (fun hb10 h => ?_) fun hb10 h => ?_
  ·
   refine AW.ct hb10 rfl ?_
   refine zw ?_
   refine cnd h (fun hb11 h => ?_) fun hb11 h => ?_
   ·
    refine AW.ct hb11 rfl ?_
    refine zw ?_
    refine ob' h fun r12 g13 h => ?_
    refine Ops.hd (ns := [0, 0]) rfl rfl (Y24 (Zb1 l7 (IntKind.i64.wrap (p2 - x8)) p2 x9 p4_0 _ g13) rfl rfl) ?_
    refine zw ?_
    obtain rfl := Wj h
    exact ⟨k26, (r12, (IntKind.i64.wrap (x8 - x9)), x9), hlt_k26, h29, Y21.both (ns := [0, 0]) rfl rfl⟩
   refine AW.cf hb11 rfl ?_
   refine zw ?_
   refine ob' h fun r14 g15 h => ?_
   refine Ops.hd (ns := [0, 0]) rfl rfl (Y24 (Zb1 l7 (IntKind.i64.wrap (p2 - x8)) (IntKind.i64.wrap ((IntKind.i64.wrap (p2 + x9)) - x8)) x8 p4_0 _ g15) rfl rfl) ?_
   refine zw ?_
   obtain rfl := Wj h
   exact ⟨k26, (r14, x8, (IntKind.i64.wrap (x9 - x8))), hlt_k26, h29, Y21.both (ns := [0, 0]) rfl rfl⟩
  refine AW.cf hb10 rfl ?_
  refine AW.exit ?_
  obtain rfl := Wj h
  obtain rfl := Wj h29
  replace h := q25
  exact ⟨(l7, x8), h, Y21.both (ns := [0, 0]) rfl rfl⟩
 rintro ⟨l16, x17⟩ h
 replace h : Zb2 p2 p4_0 l16 x17 = some r := h
 unfold Zb2 at h
 refine zw ?_
 refine ob' h fun r18 g19 h => ?_
 refine Ops.hd (ns := [0, 0]) rfl rfl (Y24 (Zb1 l16 (IntKind.i64.wrap (p2 - x17)) p2 x17 p4_0 _ g19) rfl rfl) ?_
 refine zw ?_
 rw [← Wj h]
 exact ⟨[], _, Y21.refl _, .nil, [0, 0], _, _, rfl, ⟨rfl, rfl⟩⟩

end Go.Proofs.YtbgichfjcnibpaaGreat
