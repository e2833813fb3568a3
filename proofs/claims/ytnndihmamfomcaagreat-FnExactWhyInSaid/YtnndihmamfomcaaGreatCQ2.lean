/- Printed by gen.py: plain functions for Go functions, and that the walks keep to them. -/
import Derived.Test.YtnndihmamfomcaaGreatCQ1
set_option autoImplicit false
set_option linter.unusedVariables false
set_option linter.unusedSimpArgs false
set_option maxRecDepth 100000
namespace Go.Proofs.YtnndihmamfomcaaGreat
open Go Go.Abs
attribute [local irreducible] AW Ops OpsD StepD
def Z4k (p0 : TGraph') (p1 : List TEntry) (p2 : Int) : Option Int := (Z14 p1 3 p2).bind fun r2 => cond (decide (r2 > 0)) ((Z15 p0 p1 3 p2).bind fun r5 => some r5.n) ((Z15 p0 p1 1 0).bind fun r7 => cond (r7.author == p2) (some 100) (some 0))
theorem Zbg (p0 : TGraph') (p1 : List TEntry) (p2 : Int) (r : Int) (h : Z4k p0 p1 p2 = some r) : Ok Tryz.prog 66 [C.agg [C.int p0.room, C.im kEvent 9 p0.events, C.im kEvent 9 p0.parked], C.im kEntry 3 p1, C.int p2] [] (fun c qs => c = C.int r ∧ qs = []) := by
 refine Ok.of_body (rs := [.tmp 6]) Tryz.func66 rfl rfl rfl rfl rfl fun X => ?_
 unfold Z4k at h
 refine zz ?_
 refine Ops.h (ns := []) rfl rfl (op_boxA rfl rfl) ?_
 rintro _ _ ⟨b1, rfl, rfl⟩
 refine zz ?_
 refine ob' h fun r2 g3 h => ?_
 refine Ops.hd (ns := []) rfl rfl (op_callE (Z86 _ _ _ _ g3) rfl rfl) ?_
 refine zz ?_
 refine cnd h (fun hb4 h => ?_) fun hb4 h => ?_
 ·
  refine AW.ct hb4 rfl ?_
  refine zz ?_
  refine Ops.v rfl (op_loadA (p := 0) (ds := [C.int p0.room, C.im kEvent 9 p0.events, C.im kEvent 9 p0.parked]) ld_30.h rfl rfl rfl rfl rfl) ?_
  refine zz ?_
  refine ob' h fun r5 g6 h => ?_
  refine Ops.hd (ns := []) rfl rfl (op_callE (Z88 _ _ _ _ _ g6) rfl rfl) ?_
  refine Ops.v rfl (op_field fi_38_5 rfl rfl rfl) ?_
  refine zz ?_
  refine AW.ret ?_
  rw [← Option.some.inj h]
  exact ⟨[C.int r5.n], _, Ghost.refl _, (.cons (.tmp rfl) .nil), [], _, _, rfl, ⟨rfl, rfl⟩⟩
 refine AW.cf hb4 rfl ?_
 refine zz ?_
 refine Ops.v rfl (op_loadA (p := 0) (ds := [C.int p0.room, C.im kEvent 9 p0.events, C.im kEvent 9 p0.parked]) ld_30.h rfl rfl rfl rfl rfl) ?_
 refine zz ?_
 refine ob' h fun r7 g8 h => ?_
 refine Ops.hd (ns := []) rfl rfl (op_callE (Z88 _ _ _ _ _ g8) rfl rfl) ?_
 refine Ops.v rfl (op_field fi_38_2 rfl rfl rfl) ?_
 refine zz ?_
 refine cnd h (fun hb9 h => ?_) fun hb9 h => ?_
 ·
  refine AW.ct hb9 rfl ?_
  refine zz ?_
  refine AW.ret ?_
  rw [← Option.some.inj h]
  exact ⟨[C.int 100], _, Ghost.refl _, (.cons (.tmp rfl) .nil), [], _, _, rfl, ⟨rfl, rfl⟩⟩
 refine AW.cf hb9 rfl ?_
 refine zz ?_
 refine AW.ret ?_
 rw [← Option.some.inj h]
 exact ⟨[C.int 0], _, Ghost.refl _, (.cons (.tmp rfl) .nil), [], _, _, rfl, ⟨rfl, rfl⟩⟩

def Z0 (p0 : Bool) : Option Int := cond p0 (some 11) (some 0)
theorem Z3 (p0 : Bool) (r : Int) (h : Z0 p0 = some r) : Ok Tryz.prog 162 [C.bool p0] [] (fun c qs => c = C.int r ∧ qs = []) := by
 refine Ok.of_body (rs := [.tmp 2]) Tryz.func162 rfl rfl rfl rfl rfl fun X => ?_
 unfold Z0 at h
 refine zz ?_
 refine cnd h (fun hb1 h => ?_) fun hb1 h => ?_
 ·
  refine AW.ct hb1 rfl ?_
  refine zz ?_
  refine AW.ret ?_
  rw [← Option.some.inj h]
  exact ⟨[C.int 11], _, Ghost.refl _, (.cons (.tmp rfl) .nil), [], _, _, rfl, ⟨rfl, rfl⟩⟩
 refine AW.cf hb1 rfl ?_
 refine zz ?_
 refine AW.ret ?_
 rw [← Option.some.inj h]
 exact ⟨[C.int 0], _, Ghost.refl _, (.cons (.tmp rfl) .nil), [], _, _, rfl, ⟨rfl, rfl⟩⟩

def Z4m (x20 : Int) : Option Int := some x20
def Z6q (p3 : Int) (x4 : Bool) (x11 : Bool) : Option Int := cond (p3 == 3) ((Z0 true).bind fun r13 => Z4m r13) (cond x4 ((Z0 false).bind fun r16 => Z4m r16) ((Z0 (!x11)).bind fun r18 => Z4m r18))
def Z6r (p0 : TGraph') (p1 : List TEntry) (p2 : TEvent) (p3 : Int) (x4 : Bool) : Option Int := cond (p2.n == 1) ((Z15 p0 p1 5 0).bind fun r6 => cond (r6.n == 1) (Z6q p3 x4 true) ((Z15 p0 p1 1 0).bind fun r9 => Z6q p3 x4 (r9.author == p2.author))) (cond (p2.n == 2) ((Z0 (!x4)).bind fun r22 => some r22) (some 11))
def Z93 (p0 : TGraph') (p1 : List TEntry) (p2 : TEvent) (p3 : Int) : Option Int := cond (p3 == 1) (Z6r p0 p1 p2 p3 true) (Z6r p0 p1 p2 p3 (p3 == 4))
set_option maxHeartbeats 1000000 in
theorem Zeg (p0 : TGraph') (p1 : List TEntry) (p2 : TEvent) (p3 : Int) (r : Int) (h : Z93 p0 p1 p2 p3 = some r) : Ok Tryz.prog 160 [C.agg [C.int p0.room, C.im kEvent 9 p0.events, C.im kEvent 9 p0.parked], C.im kEntry 3 p1, C.agg [C.int p2.id, C.int p2.room, C.int p2.author, C.int p2.kind, C.int p2.key, C.int p2.n, C.str p2.text, C.im kI64 1 p2.prev, C.int p2.time], C.int p3] [] (fun c qs => c = C.int r ∧ qs = []) := by
 refine Ok.of_body (rs := [.tmp 8]) Tryz.func160 rfl rfl rfl rfl rfl fun X => ?_
 unfold Z93 at h
 refine zz ?_
 refine Ops.h (ns := []) rfl rfl (op_boxA rfl rfl) ?_
 rintro _ _ ⟨b1, rfl, rfl⟩
 refine Ops.h (ns := []) rfl rfl (op_boxA rfl rfl) ?_
 rintro _ _ ⟨b2, rfl, rfl⟩
 refine Ops.v rfl (op_assign rfl rfl) ?_
 refine Ops.nil ?_
 refine AW.seq ?_
 refine AW.cut (τ := Bool) (fun x4 => ⟨[(1, C.im kEntry 3 p1), (3, C.int p3), (4, C.val (.pointer (some ⟨b1, 0, none⟩))), (6, C.val (.pointer (some ⟨b2, 0, none⟩))), (9, C.bool x4)], [Obj.box b1 30 [C.int p0.room, C.im kEvent 9 p0.events, C.im kEvent 9 p0.parked], Obj.box b2 38 [C.int p2.id, C.int p2.room, C.int p2.author, C.int p2.kind, C.int p2.key, C.int p2.n, C.str p2.text, C.im kI64 1 p2.prev, C.int p2.time]]⟩) (fun x4 => Z6r p0 p1 p2 p3 x4 = some r) ?_ ?_
 ·
  refine zz ?_
  refine cnd h (fun hb3 h => ?_) fun hb3 h => ?_
  ·
   refine zz ?_
   exact ⟨true, h, Ghost.both (ns := [1, 0]) rfl rfl⟩
  refine zz ?_
  exact ⟨(p3 == 4), h, Ghost.both (ns := [1, 0]) rfl rfl⟩
 intro x4 h
 replace h : Z6r p0 p1 p2 p3 x4 = some r := h
 unfold Z6r at h
 refine zz ?_
 refine cnd h (fun hb5 h => ?_) fun hb5 h => ?_
 ·
  refine AW.ct hb5 rfl ?_
  refine AW.seq ?_
  refine AW.cut (τ := Bool) (fun x11 => ⟨[(3, C.int p3), (9, C.bool x4), (10, C.bool x11)], []⟩) (fun x11 => Z6q p3 x4 x11 = some r) ?_ ?_
  ·
   refine AW.regionD (L := [0, 6, 11]) (Lt := []) (k := .light 0 true (.light 1 false (.one 2 (.light 3 false (.light 4 false (.light 5 false (.light 6 true (.light 7 false (.light 10 false (.light 11 true (.one 8 (.light 9 false (.light 12 false (.light 13 false (.light 14 false .done))))))))))))))) (ns := [0, 0]) (by kernel_rfl) (by kernel_rfl) (by kernel_rfl) (by kernel_rfl) rfl ?_
   refine OpsD.v rfl rfl (op_loadA (p := 0) (ds := [C.int p0.room, C.im kEvent 9 p0.events, C.im kEvent 9 p0.parked]) ld_30.h rfl rfl rfl rfl rfl) ?_
   refine zz ?_
   refine ob' h fun r6 g7 h => ?_
   refine StepD.h (ns := []) rfl rfl rfl (op_callE (Z88 _ _ _ _ _ g7) rfl rfl) ?_
   rintro _ _ ⟨rfl, rfl⟩
   refine OpsD.v rfl rfl (op_field fi_38_5 rfl rfl rfl) ?_
   refine zz ?_
   refine cnd h (fun hb8 h => ?_) fun hb8 h => ?_
   ·
    refine OpsD.gs rfl rfl rfl rfl (.b rfl hb8) rfl rfl ?_
    refine OpsD.gs rfl rfl rfl rfl (.b rfl hb8) rfl rfl ?_
    refine OpsD.gs rfl rfl rfl rfl (.b rfl hb8) rfl rfl ?_
    refine OpsD.gs rfl rfl rfl rfl (.b rfl hb8) rfl rfl ?_
    refine OpsD.one ?_
    refine StepD.gs rfl rfl rfl rfl (.b rfl hb8) rfl rfl ?_
    refine zz ?_
    exact ⟨true, h, Ghost.both (ns := []) rfl rfl⟩
   refine OpsD.gv rfl rfl rfl rfl rfl hb8 (op_loadA (p := 0) (ds := [C.int p0.room, C.im kEvent 9 p0.events, C.im kEvent 9 p0.parked]) ld_30.h rfl rfl rfl rfl rfl) ?_
   refine zz ?_
   refine ob' h fun r9 g10 h => ?_
   refine StepD.gh (ns := []) rfl rfl rfl rfl rfl hb8 rfl (op_callE (Z88 _ _ _ _ _ g10) rfl rfl) ?_
   rintro _ _ ⟨rfl, rfl⟩
   refine OpsD.gv rfl rfl rfl rfl rfl hb8 (op_field fi_38_2 rfl rfl rfl) ?_
   refine zz ?_
   exact ⟨(r9.author == p2.author), h, Ghost.both (ns := []) rfl rfl⟩
  intro x11 h
  replace h : Z6q p3 x4 x11 = some r := h
  unfold Z6q at h
  refine AW.seq ?_
  refine AW.cut (τ := Int) (fun x20 => ⟨[(8, C.int x20)], []⟩) (fun x20 => Z4m x20 = some r) ?_ ?_
  ·
   refine zz ?_
   refine cnd h (fun hb12 h => ?_) fun hb12 h => ?_
   ·
    refine zz ?_
    refine ob' h fun r13 g14 h => ?_
    refine Ops.hd (ns := []) rfl rfl (op_callE (Z3 _ _ g14) rfl rfl) ?_
    refine zz ?_
    exact ⟨r13, h, Ghost.both (ns := []) rfl rfl⟩
   refine zz ?_
   refine cnd h (fun hb15 h => ?_) fun hb15 h => ?_
   ·
    iterate 2 refine Ops.gs rfl rfl rfl (.b rfl (not_t hb15)) rfl rfl ?_
    refine Ops.gv rfl rfl rfl rfl hb12 (op_pick_f rfl (not_t hb15) rfl rfl) ?_
    refine zz ?_
    refine ob' h fun r16 g17 h => ?_
    refine Ops.hd (ns := []) rfl rfl (op_callE (Z3 _ _ g17) rfl rfl) ?_
    refine zz ?_
    exact ⟨r16, h, Ghost.both (ns := []) rfl rfl⟩
   refine Ops.gv rfl rfl rfl rfl (not_f hb15) (op_move rfl rfl) ?_
   refine Ops.gv rfl rfl rfl rfl (not_f hb15) (op_not rfl rfl) ?_
   refine Ops.gv rfl rfl rfl rfl hb12 (op_pick_t rfl (not_f hb15) rfl rfl) ?_
   refine zz ?_
   refine ob' h fun r18 g19 h => ?_
   refine Ops.hd (ns := []) rfl rfl (op_callE (Z3 _ _ g19) rfl rfl) ?_
   refine zz ?_
   exact ⟨r18, h, Ghost.both (ns := []) rfl rfl⟩
  intro x20 h
  replace h : Z4m x20 = some r := h
  unfold Z4m at h
  refine AW.ret ?_
  rw [← Option.some.inj h]
  exact ⟨[C.int x20], _, Ghost.refl _, (.cons (.tmp rfl) .nil), [], _, _, rfl, ⟨rfl, rfl⟩⟩
 refine AW.cf hb5 rfl ?_
 refine zz ?_
 refine cnd h (fun hb21 h => ?_) fun hb21 h => ?_
 ·
  refine AW.ct hb21 rfl ?_
  refine zz ?_
  refine ob' h fun r22 g23 h => ?_
  refine Ops.hd (ns := []) rfl rfl (op_callE (Z3 _ _ g23) rfl rfl) ?_
  refine zz ?_
  refine AW.ret ?_
  rw [← Option.some.inj h]
  exact ⟨[C.int r22], _, Ghost.refl _, (.cons (.tmp rfl) .nil), [], _, _, rfl, ⟨rfl, rfl⟩⟩
 refine AW.cf hb21 rfl ?_
 refine zz ?_
 refine AW.ret ?_
 rw [← Option.some.inj h]
 exact ⟨[C.int 11], _, Ghost.refl _, (.cons (.tmp rfl) .nil), [], _, _, rfl, ⟨rfl, rfl⟩⟩

def Z6p (x13 : Int) : Option Int := some x13
def Z2n (x26 : Int) : Option Int := some x26
def Z4l (x36 : Int) : Option Int := some x36
def Z92 (p0 : TGraph') (p1 : List TEntry) (p2 : TEvent) (p3 : Int) : Option Int := (Z6o p0 p1 p2.key).bind fun r3 => (Z4k p0 p1 p2.key).bind fun r5 => cond (p2.n == 4) (cond (r3 == 1) ((Z0 true).bind fun r9 => Z6p r9) ((Z0 (r3 == 3)).bind fun r11 => Z6p r11)) (cond (p2.n == 2) (cond (decide (p3 < 50)) ((Z0 true).bind fun r16 => Z2n r16) (cond (decide (p3 ≤ r5)) ((Z0 true).bind fun r19 => Z2n r19) (cond (r3 == 0) ((Z0 true).bind fun r22 => Z2n r22) ((Z0 (r3 == 2)).bind fun r24 => Z2n r24)))) (cond (p2.n == 3) (cond (decide (p3 < 50)) ((Z0 true).bind fun r29 => Z4l r29) (cond (decide (p3 ≤ r5)) ((Z0 true).bind fun r32 => Z4l r32) ((Z0 (r3 == 3)).bind fun r34 => Z4l r34))) (some 11)))
set_option maxHeartbeats 1000000 in
theorem Zef (p0 : TGraph') (p1 : List TEntry) (p2 : TEvent) (p3 : Int) (r : Int) (h : Z92 p0 p1 p2 p3 = some r) : Ok Tryz.prog 161 [C.agg [C.int p0.room, C.im kEvent 9 p0.events, C.im kEvent 9 p0.parked], C.im kEntry 3 p1, C.agg [C.int p2.id, C.int p2.room, C.int p2.author, C.int p2.kind, C.int p2.key, C.int p2.n, C.str p2.text, C.im kI64 1 p2.prev, C.int p2.time], C.int p3] [] (fun c qs => c = C.int r ∧ qs = []) := by
 refine Ok.of_body (rs := [.tmp 8]) Tryz.func161 rfl rfl rfl rfl rfl fun X => ?_
 unfold Z92 at h
 refine zz ?_
 refine Ops.h (ns := []) rfl rfl (op_boxA rfl rfl) ?_
 rintro _ _ ⟨b1, rfl, rfl⟩
 refine Ops.h (ns := []) rfl rfl (op_boxA rfl rfl) ?_
 rintro _ _ ⟨b2, rfl, rfl⟩
 refine zz ?_
 refine AW.regionD (L := [0, 3, 5, 8]) (Lt := []) (k := .light 0 true (.light 1 false (.light 2 false (.light 3 true (.light 5 true (.light 6 false (.light 7 false (.light 8 true (.one 4 (.one 9 (.light 10 false (.light 11 false .done)))))))))))) (ns := [0, 0]) (by kernel_rfl) (by kernel_rfl) (by kernel_rfl) (by kernel_rfl) rfl ?_
 refine OpsD.v rfl rfl (op_loadA (p := 1) (ds := [C.int p0.room, C.im kEvent 9 p0.events, C.im kEvent 9 p0.parked]) ld_30.h rfl rfl rfl rfl rfl) ?_
 refine zz ?_
 refine OpsD.v rfl rfl (op_loadA (p := 1) (ds := [C.int p0.room, C.im kEvent 9 p0.events, C.im kEvent 9 p0.parked]) ld_30.h rfl rfl rfl rfl rfl) ?_
 refine zz ?_
 refine ob' h fun r3 g4 h => ?_
 refine StepD.h (ns := []) rfl rfl rfl (op_callE (Zcb _ _ _ _ g4) rfl rfl) ?_
 rintro _ _ ⟨rfl, rfl⟩
 refine zz ?_
 refine ob' h fun r5 g6 h => ?_
 refine StepD.h (ns := []) rfl rfl rfl (op_callE (Zbg _ _ _ _ g6) rfl rfl) ?_
 rintro _ _ ⟨rfl, rfl⟩
 refine zz ?_
 refine cnd h (fun hb7 h => ?_) fun hb7 h => ?_
 ·
  refine AW.ct hb7 rfl ?_
  refine AW.seq ?_
  refine AW.cut (τ := Int) (fun x13 => ⟨[(8, C.int x13)], []⟩) (fun x13 => Z6p x13 = some r) ?_ ?_
  ·
   refine zz ?_
   refine cnd h (fun hb8 h => ?_) fun hb8 h => ?_
   ·
    refine zz ?_
    refine ob' h fun r9 g10 h => ?_
    refine Ops.hd (ns := []) rfl rfl (op_callE (Z3 _ _ g10) rfl rfl) ?_
    refine zz ?_
    exact ⟨r9, h, Ghost.both (ns := []) rfl rfl⟩
   refine zz ?_
   refine ob' h fun r11 g12 h => ?_
   refine Ops.hd (ns := []) rfl rfl (op_callE (Z3 _ _ g12) rfl rfl) ?_
   refine zz ?_
   exact ⟨r11, h, Ghost.both (ns := []) rfl rfl⟩
  intro x13 h
  replace h : Z6p x13 = some r := h
  unfold Z6p at h
  refine AW.ret ?_
  rw [← Option.some.inj h]
  exact ⟨[C.int x13], _, Ghost.refl _, (.cons (.tmp rfl) .nil), [], _, _, rfl, ⟨rfl, rfl⟩⟩
 refine AW.cf hb7 rfl ?_
 refine zz ?_
 refine cnd h (fun hb14 h => ?_) fun hb14 h => ?_
 ·
  refine AW.ct hb14 rfl ?_
  refine AW.seq ?_
  refine AW.cut (τ := Int) (fun x26 => ⟨[(8, C.int x26)], []⟩) (fun x26 => Z2n x26 = some r) ?_ ?_
  ·
   refine zz ?_
   refine cnd h (fun hb15 h => ?_) fun hb15 h => ?_
   ·
    refine zz ?_
    refine ob' h fun r16 g17 h => ?_
    refine Ops.hd (ns := []) rfl rfl (op_callE (Z3 _ _ g17) rfl rfl) ?_
    refine zz ?_
    exact ⟨r16, h, Ghost.both (ns := []) rfl rfl⟩
   refine zz ?_
   refine cnd h (fun hb18 h => ?_) fun hb18 h => ?_
   ·
    refine zz ?_
    refine ob' h fun r19 g20 h => ?_
    refine Ops.hd (ns := []) rfl rfl (op_callE (Z3 _ _ g20) rfl rfl) ?_
    refine zz ?_
    exact ⟨r19, h, Ghost.both (ns := []) rfl rfl⟩
   refine zz ?_
   refine cnd h (fun hb21 h => ?_) fun hb21 h => ?_
   ·
    refine zz ?_
    refine ob' h fun r22 g23 h => ?_
    refine Ops.hd (ns := []) rfl rfl (op_callE (Z3 _ _ g23) rfl rfl) ?_
    refine zz ?_
    exact ⟨r22, h, Ghost.both (ns := []) rfl rfl⟩
   refine zz ?_
   refine ob' h fun r24 g25 h => ?_
   refine Ops.hd (ns := []) rfl rfl (op_callE (Z3 _ _ g25) rfl rfl) ?_
   refine zz ?_
   exact ⟨r24, h, Ghost.both (ns := []) rfl rfl⟩
  intro x26 h
  replace h : Z2n x26 = some r := h
  unfold Z2n at h
  refine AW.ret ?_
  rw [← Option.some.inj h]
  exact ⟨[C.int x26], _, Ghost.refl _, (.cons (.tmp rfl) .nil), [], _, _, rfl, ⟨rfl, rfl⟩⟩
 refine AW.cf hb14 rfl ?_
 refine zz ?_
 refine cnd h (fun hb27 h => ?_) fun hb27 h => ?_
 ·
  refine AW.ct hb27 rfl ?_
  refine AW.seq ?_
  refine AW.cut (τ := Int) (fun x36 => ⟨[(8, C.int x36)], []⟩) (fun x36 => Z4l x36 = some r) ?_ ?_
  ·
   refine zz ?_
   refine cnd h (fun hb28 h => ?_) fun hb28 h => ?_
   ·
    refine zz ?_
    refine ob' h fun r29 g30 h => ?_
    refine Ops.hd (ns := []) rfl rfl (op_callE (Z3 _ _ g30) rfl rfl) ?_
    refine zz ?_
    exact ⟨r29, h, Ghost.both (ns := []) rfl rfl⟩
   refine zz ?_
   refine cnd h (fun hb31 h => ?_) fun hb31 h => ?_
   ·
    refine zz ?_
    refine ob' h fun r32 g33 h => ?_
    refine Ops.hd (ns := []) rfl rfl (op_callE (Z3 _ _ g33) rfl rfl) ?_
    refine zz ?_
    exact ⟨r32, h, Ghost.both (ns := []) rfl rfl⟩
   refine zz ?_
   refine ob' h fun r34 g35 h => ?_
   refine Ops.hd (ns := []) rfl rfl (op_callE (Z3 _ _ g35) rfl rfl) ?_
   refine zz ?_
   exact ⟨r34, h, Ghost.both (ns := []) rfl rfl⟩
  intro x36 h
  replace h : Z4l x36 = some r := h
  unfold Z4l at h
  refine AW.ret ?_
  rw [← Option.some.inj h]
  exact ⟨[C.int x36], _, Ghost.refl _, (.cons (.tmp rfl) .nil), [], _, _, rfl, ⟨rfl, rfl⟩⟩
 refine AW.cf hb27 rfl ?_
 refine zz ?_
 refine AW.ret ?_
 rw [← Option.some.inj h]
 exact ⟨[C.int 11], _, Ghost.refl _, (.cons (.tmp rfl) .nil), [], _, _, rfl, ⟨rfl, rfl⟩⟩

def Z2m (x35 : Int) : Option Int := some x35
def Z6m (x53 : Int) : Option Int := some x53
def Z4j (p0 : TGraph') (p2 : TEvent) (r10 : Int) (x38 : Bool) : Option Int := cond x38 ((Z0 (decide (r10 < 50))).bind fun r40 => some r40) (cond (p2.kind == 8) ((Z4 p0.events p2.key).bind fun r43 => cond (decide (r43 < 0)) (some 6) (cond (decide (r10 < 50)) ((getI p0.events r43).bind fun e47 => (Z0 (e47.author != p2.author)).bind fun r49 => Z6m r49) ((Z0 false).bind fun r51 => Z6m r51))) (some 0))
def Z6n (p0 : TGraph') (p1 : List TEntry) (p2 : TEvent) (r8 : Int) (r10 : Int) (x13 : Bool) : Option Int := cond x13 ((Z93 p0 p1 p2 r8).bind fun r15 => some r15) (cond (r8 != 1) (some 11) (cond (p2.kind == 2) ((Z92 p0 p1 p2 r10).bind fun r19 => some r19) (cond (p2.kind == 3) (cond (decide (r10 < 50)) ((Z0 true).bind fun r23 => Z2m r23) (cond (decide (p2.n > r10)) ((Z0 true).bind fun r26 => Z2m r26) (cond (p2.key != p2.author) ((Z4k p0 p1 p2.key).bind fun r29 => (Z0 (decide (r29 ≥ r10))).bind fun r31 => Z2m r31) ((Z0 false).bind fun r33 => Z2m r33)))) (cond (p2.kind == 4) (Z4j p0 p2 r10 (p2.kind == 4)) (cond (p2.kind == 5) (Z4j p0 p2 r10 (p2.kind == 5)) (Z4j p0 p2 r10 (p2.kind == 6)))))))
def Z2l (p0 : TGraph') (p1 : List TEntry) (p2 : TEvent) : Option Int := (Z14 p1 1 0).bind fun r3 => cond (p2.kind == 1) (cond (decide (r3 > 0)) (some 7) (some 0)) (cond (decide (r3 > 0)) ((Z6o p0 p1 p2.author).bind fun r8 => (Z4k p0 p1 p2.author).bind fun r10 => cond (p2.kind == 2) (Z6n p0 p1 p2 r8 r10 (p2.key == p2.author)) (Z6n p0 p1 p2 r8 r10 false)) (some 10))
set_option maxHeartbeats 1000000 in
theorem Zca (p0 : TGraph') (p1 : List TEntry) (p2 : TEvent) (r : Int) (h : Z2l p0 p1 p2 = some r) : Ok Tryz.prog 107 [C.agg [C.int p0.room, C.im kEvent 9 p0.events, C.im kEvent 9 p0.parked], C.im kEntry 3 p1, C.agg [C.int p2.id, C.int p2.room, C.int p2.author, C.int p2.kind, C.int p2.key, C.int p2.n, C.str p2.text, C.im kI64 1 p2.prev, C.int p2.time]] [] (fun c qs => c = C.int r ∧ qs = []) := by
 refine Ok.of_body (rs := [.tmp 6]) Tryz.func107 rfl rfl rfl rfl rfl fun X => ?_
 unfold Z2l at h
 refine zz ?_
 refine Ops.h (ns := []) rfl rfl (op_boxA rfl rfl) ?_
 rintro _ _ ⟨b1, rfl, rfl⟩
 refine Ops.h (ns := []) rfl rfl (op_boxA rfl rfl) ?_
 rintro _ _ ⟨b2, rfl, rfl⟩
 refine zz ?_
 refine ob' h fun r3 g4 h => ?_
 refine Ops.hd (ns := []) rfl rfl (op_callE (Z86 _ _ _ _ g4) rfl rfl) ?_
 refine zz ?_
 refine cnd h (fun hb5 h => ?_) fun hb5 h => ?_
 ·
  refine AW.ct hb5 rfl ?_
  refine zz ?_
  refine cnd h (fun hb6 h => ?_) fun hb6 h => ?_
  ·
   refine AW.ct hb6 rfl ?_
   refine zz ?_
   refine AW.ret ?_
   rw [← Option.some.inj h]
   exact ⟨[C.int 7], _, Ghost.refl _, (.cons (.tmp rfl) .nil), [], _, _, rfl, ⟨rfl, rfl⟩⟩
  refine AW.cf hb6 rfl ?_
  refine zz ?_
  refine AW.ret ?_
  rw [← Option.some.inj h]
  exact ⟨[C.int 0], _, Ghost.refl _, (.cons (.tmp rfl) .nil), [], _, _, rfl, ⟨rfl, rfl⟩⟩
 refine AW.cf hb5 rfl ?_
 refine zz ?_
 refine cnd h (fun hb7 h => ?_) fun hb7 h => ?_
 ·
  refine AW.cond rfl (fun hn => absurd ((not_t hb7).symm.trans hn) (by decide)) (fun _ => ?_)
  refine zz ?_
  refine AW.regionD (L := [0, 3, 5, 8]) (Lt := []) (k := .light 0 true (.light 1 false (.light 2 false (.light 3 true (.light 5 true (.light 6 false (.light 7 false (.light 8 true (.one 4 (.one 9 (.light 10 false (.light 11 false .done)))))))))))) (ns := [0, 0]) (by kernel_rfl) (by kernel_rfl) (by kernel_rfl) (by kernel_rfl) rfl ?_
  refine OpsD.v rfl rfl (op_loadA (p := 1) (ds := [C.int p0.room, C.im kEvent 9 p0.events, C.im kEvent 9 p0.parked]) ld_30.h rfl rfl rfl rfl rfl) ?_
  refine zz ?_
  refine OpsD.v rfl rfl (op_loadA (p := 1) (ds := [C.int p0.room, C.im kEvent 9 p0.events, C.im kEvent 9 p0.parked]) ld_30.h rfl rfl rfl rfl rfl) ?_
  refine zz ?_
  refine ob' h fun r8 g9 h => ?_
  refine StepD.h (ns := []) rfl rfl rfl (op_callE (Zcb _ _ _ _ g9) rfl rfl) ?_
  rintro _ _ ⟨rfl, rfl⟩
  refine zz ?_
  refine ob' h fun r10 g11 h => ?_
  refine StepD.h (ns := []) rfl rfl rfl (op_callE (Zbg _ _ _ _ g11) rfl rfl) ?_
  rintro _ _ ⟨rfl, rfl⟩
  refine OpsD.v rfl rfl (op_assign rfl rfl) ?_
  refine OpsD.v rfl rfl (op_assign rfl rfl) ?_
  refine OpsD.done ?_
  refine AW.seq ?_
  refine AW.seq ?_
  refine AW.cut (τ := Bool) (fun x13 => ⟨[(1, C.im kEntry 3 p1), (3, C.val (.pointer (some ⟨b1, 0, none⟩))), (5, C.val (.pointer (some ⟨b2, 0, none⟩))), (8, C.int r8), (9, C.int r10), (39, C.bool x13)], [Obj.box b1 30 [C.int p0.room, C.im kEvent 9 p0.events, C.im kEvent 9 p0.parked], Obj.box b2 38 [C.int p2.id, C.int p2.room, C.int p2.author, C.int p2.kind, C.int p2.key, C.int p2.n, C.str p2.text, C.im kI64 1 p2.prev, C.int p2.time]]⟩) (fun x13 => Z6n p0 p1 p2 r8 r10 x13 = some r) ?_ ?_
  ·
   refine zz ?_
   refine cnd h (fun hb12 h => ?_) fun hb12 h => ?_
   ·
    refine zz ?_
    exact ⟨(p2.key == p2.author), h, Ghost.both (ns := [1, 0]) rfl rfl⟩
   refine zz ?_
   exact ⟨false, h, Ghost.both (ns := [1, 0]) rfl rfl⟩
  intro x13 h
  replace h : Z6n p0 p1 p2 r8 r10 x13 = some r := h
  unfold Z6n at h
  refine cnd h (fun hb14 h => ?_) fun hb14 h => ?_
  ·
   refine AW.ct hb14 rfl ?_
   refine zz ?_
   refine Ops.v rfl (op_loadA (p := 0) (ds := [C.int p0.room, C.im kEvent 9 p0.events, C.im kEvent 9 p0.parked]) ld_30.h rfl rfl rfl rfl rfl) ?_
   refine zz ?_
   refine Ops.v rfl (op_loadA (p := 1) (ds := [C.int p2.id, C.int p2.room, C.int p2.author, C.int p2.kind, C.int p2.key, C.int p2.n, C.str p2.text, C.im kI64 1 p2.prev, C.int p2.time]) ld_38.h rfl rfl rfl rfl rfl) ?_
   refine zz ?_
   refine ob' h fun r15 g16 h => ?_
   refine Ops.hd (ns := []) rfl rfl (op_callE (Zeg _ _ _ _ _ g16) rfl rfl) ?_
   refine zz ?_
   refine AW.ret ?_
   rw [← Option.some.inj h]
   exact ⟨[C.int r15], _, Ghost.refl _, (.cons (.tmp rfl) .nil), [], _, _, rfl, ⟨rfl, rfl⟩⟩
  refine AW.cf hb14 rfl ?_
  refine zz ?_
  refine cnd h (fun hb17 h => ?_) fun hb17 h => ?_
  ·
   refine AW.ct hb17 rfl ?_
   refine zz ?_
   refine AW.ret ?_
   rw [← Option.some.inj h]
   exact ⟨[C.int 11], _, Ghost.refl _, (.cons (.tmp rfl) .nil), [], _, _, rfl, ⟨rfl, rfl⟩⟩
  refine AW.cf hb17 rfl ?_
  refine zz ?_
  refine cnd h (fun hb18 h => ?_) fun hb18 h => ?_
  ·
   refine AW.ct hb18 rfl ?_
   refine zz ?_
   refine Ops.v rfl (op_loadA (p := 0) (ds := [C.int p0.room, C.im kEvent 9 p0.events, C.im kEvent 9 p0.parked]) ld_30.h rfl rfl rfl rfl rfl) ?_
   refine zz ?_
   refine Ops.v rfl (op_loadA (p := 1) (ds := [C.int p2.id, C.int p2.room, C.int p2.author, C.int p2.kind, C.int p2.key, C.int p2.n, C.str p2.text, C.im kI64 1 p2.prev, C.int p2.time]) ld_38.h rfl rfl rfl rfl rfl) ?_
   refine zz ?_
   refine ob' h fun r19 g20 h => ?_
   refine Ops.hd (ns := []) rfl rfl (op_callE (Zef _ _ _ _ _ g20) rfl rfl) ?_
   refine zz ?_
   refine AW.ret ?_
   rw [← Option.some.inj h]
   exact ⟨[C.int r19], _, Ghost.refl _, (.cons (.tmp rfl) .nil), [], _, _, rfl, ⟨rfl, rfl⟩⟩
  refine AW.cf hb18 rfl ?_
  refine zz ?_
  refine cnd h (fun hb21 h => ?_) fun hb21 h => ?_
  ·
   refine AW.ct hb21 rfl ?_
   refine AW.seq ?_
   refine AW.cut (τ := Int) (fun x35 => ⟨[(6, C.int x35)], []⟩) (fun x35 => Z2m x35 = some r) ?_ ?_
   ·
    refine zz ?_
    refine cnd h (fun hb22 h => ?_) fun hb22 h => ?_
    ·
     refine zz ?_
     refine ob' h fun r23 g24 h => ?_
     refine Ops.hd (ns := []) rfl rfl (op_callE (Z3 _ _ g24) rfl rfl) ?_
     refine zz ?_
     exact ⟨r23, h, Ghost.both (ns := []) rfl rfl⟩
    refine zz ?_
    refine cnd h (fun hb25 h => ?_) fun hb25 h => ?_
    ·
     refine zz ?_
     refine ob' h fun r26 g27 h => ?_
     refine Ops.hd (ns := []) rfl rfl (op_callE (Z3 _ _ g27) rfl rfl) ?_
     refine zz ?_
     exact ⟨r26, h, Ghost.both (ns := []) rfl rfl⟩
    refine zz ?_
    refine cnd h (fun hb28 h => ?_) fun hb28 h => ?_
    ·
     refine Ops.gv rfl rfl rfl rfl hb28 (op_loadA (p := 0) (ds := [C.int p0.room, C.im kEvent 9 p0.events, C.im kEvent 9 p0.parked]) ld_30.h rfl rfl rfl rfl rfl) ?_
     refine zz ?_
     refine ob' h fun r29 g30 h => ?_
     refine Ops.ghd (ns := []) rfl rfl rfl rfl hb28 rfl (op_callE (Zbg _ _ _ _ g30) rfl rfl) ?_
     refine zz ?_
     refine ob' h fun r31 g32 h => ?_
     refine Ops.hd (ns := []) rfl rfl (op_callE (Z3 _ _ g32) rfl rfl) ?_
     refine zz ?_
     exact ⟨r31, h, Ghost.both (ns := []) rfl rfl⟩
    refine zz ?_
    refine ob' h fun r33 g34 h => ?_
    refine Ops.hd (ns := []) rfl rfl (op_callE (Z3 _ _ g34) rfl rfl) ?_
    refine zz ?_
    exact ⟨r33, h, Ghost.both (ns := []) rfl rfl⟩
   intro x35 h
   replace h : Z2m x35 = some r := h
   unfold Z2m at h
   refine AW.ret ?_
   rw [← Option.some.inj h]
   exact ⟨[C.int x35], _, Ghost.refl _, (.cons (.tmp rfl) .nil), [], _, _, rfl, ⟨rfl, rfl⟩⟩
  refine AW.cf hb21 rfl ?_
  refine AW.seq ?_
  refine AW.cut (τ := Bool) (fun x38 => ⟨[(3, C.val (.pointer (some ⟨b1, 0, none⟩))), (5, C.val (.pointer (some ⟨b2, 0, none⟩))), (9, C.int r10), (48, C.int p2.kind), (83, C.bool x38)], [Obj.box b1 30 [C.int p0.room, C.im kEvent 9 p0.events, C.im kEvent 9 p0.parked], Obj.box b2 38 [C.int p2.id, C.int p2.room, C.int p2.author, C.int p2.kind, C.int p2.key, C.int p2.n, C.str p2.text, C.im kI64 1 p2.prev, C.int p2.time]]⟩) (fun x38 => Z4j p0 p2 r10 x38 = some r) ?_ ?_
  ·
   refine zz ?_
   refine cnd h (fun hb36 h => ?_) fun hb36 h => ?_
   ·
    refine AW.ct hb36 rfl ?_
    refine zz ?_
    exact ⟨(p2.kind == 4), h, Ghost.both (ns := [0, 0]) rfl rfl⟩
   refine AW.cf hb36 rfl ?_
   refine zz ?_
   refine cnd h (fun hb37 h => ?_) fun hb37 h => ?_
   ·
    refine AW.ct hb37 rfl ?_
    refine zz ?_
    exact ⟨(p2.kind == 5), h, Ghost.both (ns := [0, 0]) rfl rfl⟩
   refine AW.cf hb37 rfl ?_
   refine zz ?_
   exact ⟨(p2.kind == 6), h, Ghost.both (ns := [0, 0]) rfl rfl⟩
  intro x38 h
  replace h : Z4j p0 p2 r10 x38 = some r := h
  unfold Z4j at h
  refine cnd h (fun hb39 h => ?_) fun hb39 h => ?_
  ·
   refine AW.ct hb39 rfl ?_
   refine zz ?_
   refine ob' h fun r40 g41 h => ?_
   refine Ops.hd (ns := []) rfl rfl (op_callE (Z3 _ _ g41) rfl rfl) ?_
   refine zz ?_
   refine AW.ret ?_
   rw [← Option.some.inj h]
   exact ⟨[C.int r40], _, Ghost.refl _, (.cons (.tmp rfl) .nil), [], _, _, rfl, ⟨rfl, rfl⟩⟩
  refine AW.cf hb39 rfl ?_
  refine zz ?_
  refine cnd h (fun hb42 h => ?_) fun hb42 h => ?_
  ·
   refine AW.ct hb42 rfl ?_
   refine zz ?_
   refine ob' h fun r43 g44 h => ?_
   refine Ops.hd (ns := []) rfl rfl (op_callE (Z6 _ _ _ g44) rfl rfl) ?_
   refine zz ?_
   refine cnd h (fun hb45 h => ?_) fun hb45 h => ?_
   ·
    refine AW.ct hb45 rfl ?_
    refine zz ?_
    refine AW.ret ?_
    rw [← Option.some.inj h]
    exact ⟨[C.int 6], _, Ghost.refl _, (.cons (.tmp rfl) .nil), [], _, _, rfl, ⟨rfl, rfl⟩⟩
   refine AW.cf hb45 rfl ?_
   refine AW.skip ?_
   refine AW.seq ?_
   refine AW.cut (τ := Int) (fun x53 => ⟨[(6, C.int x53)], []⟩) (fun x53 => Z6m x53 = some r) ?_ ?_
   ·
    refine AW.regionD (L := [4, 8, 10]) (Lt := []) (k := .light 0 false (.light 1 false (.light 2 false (.light 3 false (.light 4 true (.light 5 false (.light 6 false (.light 7 false (.light 8 true (.light 9 false (.light 10 true (.light 11 false (.light 12 false (.one 13 (.light 14 false .done))))))))))))))) (ns := [0, 0]) (by kernel_rfl) (by kernel_rfl) (by kernel_rfl) (by kernel_rfl) rfl ?_
    refine zz ?_
    refine cnd h (fun hb46 h => ?_) fun hb46 h => ?_
    ·
     refine zz ?_
     refine ob' h fun e47 g48 h => ?_
     refine OpsD.gv rfl rfl rfl rfl rfl hb46 (op_indexAddr_im sl_28.h rfl rfl g48 rfl) ?_
     refine OpsD.gv rfl rfl rfl rfl rfl hb46 (op_fieldAddr_ip fo_38_2.h rfl rfl rfl) ?_
     refine OpsD.gv rfl rfl rfl rfl rfl hb46 (op_load_ip ld_2.h rfl rfl) ?_
     refine zz ?_
     refine ob' h fun r49 g50 h => ?_
     refine StepD.h (ns := []) rfl rfl rfl (op_callE (Z3 _ _ g50) rfl rfl) ?_
     rintro _ _ ⟨rfl, rfl⟩
     refine zz ?_
     exact ⟨r49, h, Ghost.both (ns := []) rfl rfl⟩
    refine zz ?_
    refine ob' h fun r51 g52 h => ?_
    refine StepD.h (ns := []) rfl rfl rfl (op_callE (Z3 _ _ g52) rfl rfl) ?_
    rintro _ _ ⟨rfl, rfl⟩
    refine zz ?_
    exact ⟨r51, h, Ghost.both (ns := []) rfl rfl⟩
   intro x53 h
   replace h : Z6m x53 = some r := h
   unfold Z6m at h
   refine AW.ret ?_
   rw [← Option.some.inj h]
   exact ⟨[C.int x53], _, Ghost.refl _, (.cons (.tmp rfl) .nil), [], _, _, rfl, ⟨rfl, rfl⟩⟩
  refine AW.cf hb42 rfl ?_
  refine zz ?_
  refine AW.ret ?_
  rw [← Option.some.inj h]
  exact ⟨[C.int 0], _, Ghost.refl _, (.cons (.tmp rfl) .nil), [], _, _, rfl, ⟨rfl, rfl⟩⟩
 refine AW.cond rfl (fun _ => ?_) (fun hn => absurd ((not_f hb7).symm.trans hn) (by decide))
 refine zz ?_
 refine AW.ret ?_
 rw [← Option.some.inj h]
 exact ⟨[C.int 10], _, Ghost.refl _, (.cons (.tmp rfl) .nil), [], _, _, rfl, ⟨rfl, rfl⟩⟩

def Z9e (l249 : List TEntry) : Option (List TEntry) := some l249
def Z72 (x218 : Int) (l247 : List TEntry) : Option ((List TEntry × Int) ⊕ ((List TEntry))) := some (.inl (l247, (IntKind.i64.wrap (x218 + 1))))
def Z9h (p0 : TGraph') (l217 : List TEntry) (x218 : Int) (x230 : Int) (x231 : Int) (x232 : Int) (x233 : Int) (x234 : Int) (x235 : Int) (x236 : ByteArray) (l237 : List Int) (x238 : Int) : Option ((List TEntry × Int) ⊕ ((List TEntry))) := (Z2l p0 l217 (TEvent.mk x230 x231 x232 x233 x234 x235 x236 l237 x238)).bind fun r239 => cond (r239 == 0) ((Z2j l217 (TEntry.mk x233 x234 x230)).bind fun r242 => Z72 x218 r242) (Z72 x218 l217)
def Z2t (p0 : TGraph') (l186 : List Int) (l217 : List TEntry) (x218 : Int) : Option ((List TEntry × Int) ⊕ ((List TEntry))) := cond (decide (x218 < (l186.length : Int))) ((getI l186 x218).bind fun e220 => (Z4 p0.events e220).bind fun r222 => (getI p0.events r222).bind fun e225 => Z9h p0 l217 x218 e225.id e225.room e225.author e225.kind e225.key e225.n e225.text e225.prev e225.time) (some (.inr l217))
def Z9i (p0 : TGraph') (l95 : List TEntry) (l186 : List Int) : Option (List TEntry) := (iter (fun z251 => Z2t p0 l186 z251.1 z251.2) big (l95, 0)).bind fun y252 => Z9e y252
def Z9j (l96 : List Int) (l141 : List Int) (x142 : Int) (x163 : Int) : Option ((List Int × Int) ⊕ ((List Int))) := (chk (decide ((0 : Int) ≤ x163 ∧ x163 ≤ (l141.length : Int)))).bind fun u166 => (chk (decide ((Int.toNat x163) ≤ l141.length))).bind fun u168 => (chk (decide ((([] : List Int).length + (List.take (Int.toNat x163) l141).length) * 8 ≤ 140737488355328))).bind fun u170 => (getI l96 x142).bind fun e172 => (chk (decide (((([] : List Int) ++ (List.take (Int.toNat x163) l141)).length + [e172].length) * 8 ≤ 140737488355328))).bind fun u176 => (chk (decide ((0 : Int) ≤ x163 ∧ x163 ≤ (l141.length : Int)))).bind fun u179 => (chk (decide ((Int.toNat x163) ≤ l141.length))).bind fun u181 => (chk (decide ((((([] : List Int) ++ (List.take (Int.toNat x163) l141)) ++ [e172]).length + (List.drop (Int.toNat x163) l141).length) * 8 ≤ 140737488355328))).bind fun u183 => some (.inl ((((([] : List Int) ++ (List.take (Int.toNat x163) l141)) ++ [e172]) ++ (List.drop (Int.toNat x163) l141)), (IntKind.i64.wrap (x142 + 1))))
def Z73 (x153 : Int) (x161 : Bool) : Option (Int ⊕ (Int)) := cond x161 (some (.inl (IntKind.i64.wrap (x153 - 1)))) (some (.inr x153))
def Z4p (p0 : TGraph') (p1 : List Int) (l96 : List Int) (l141 : List Int) (x142 : Int) (x153 : Int) : Option (Int ⊕ (Int)) := cond (decide (x153 > 0)) ((getI l96 x142).bind fun e155 => (getI l141 (IntKind.i64.wrap (x153 - 1))).bind fun e157 => (Z9c p0 p1 e155 e157).bind fun r159 => Z73 x153 r159) (Z73 x153 false)
def Z1a (p0 : TGraph') (p1 : List Int) (l96 : List Int) (l141 : List Int) (x142 : Int) : Option ((List Int × Int) ⊕ ((List Int))) := cond (decide (x142 < (l96.length : Int))) ((iter (Z4p p0 p1 l96 l141 x142) big (l141.length : Int)).bind fun y253 => Z9j l96 l141 x142 y253) (some (.inr l141))
def Z9f (p0 : TGraph') (p1 : List Int) (l95 : List TEntry) (l96 : List Int) : Option (List TEntry) := (iter (fun z254 => Z1a p0 p1 l96 z254.1 z254.2) big (([] : List Int), 0)).bind fun y255 => Z9i p0 l95 y255
def Z9g (x51 : Int) (l92 : List TEntry) (l93 : List Int) : Option ((List TEntry × List Int × Int) ⊕ ((List TEntry × List Int))) := some (.inl (l92, l93, (IntKind.i64.wrap (x51 + 1))))
def Z71 (x73 : Int) (l89 : List TEntry) (l90 : List Int) : Option ((List TEntry × List Int × Int) ⊕ ((List TEntry × List Int))) := some (.inl (l89, l90, (IntKind.i64.wrap (x73 + 1))))
def Z2s (p2 : List (List TEntry)) (x51 : Int) (l71 : List TEntry) (l72 : List Int) (x73 : Int) : Option ((List TEntry × List Int × Int) ⊕ ((List TEntry × List Int))) := (getI p2 x51).bind fun e74 => cond (decide (x73 < (e74.length : Int))) ((getI e74 x73).bind fun e77 => (Z94 p2 e77).bind fun r79 => cond r79 ((Z2j l71 e77).bind fun r82 => Z71 x73 r82 l72) ((Z8w l72 e77.id).bind fun r86 => Z71 x73 l71 r86)) (some (.inr (l71, l72)))
def Z19 (p2 : List (List TEntry)) (l49 : List TEntry) (l50 : List Int) (x51 : Int) : Option ((List TEntry × List Int × Int) ⊕ ((List TEntry × List Int))) := cond (decide (x51 < (p2.length : Int))) ((iter (fun z256 => Z2s p2 x51 z256.1 z256.2.1 z256.2.2) big (l49, l50, 0)).bind fun (y257, y258) => Z9g x51 y257 y258) (some (.inr (l49, l50)))
def Z18 (p0 : TGraph') (p1 : List Int) (p2 : List (List TEntry)) : Option (List TEntry) := (iter (fun z259 => Z19 p2 z259.1 z259.2.1 z259.2.2) big (([] : List TEntry), ([] : List Int), 0)).bind fun (y260, y261) => Z9f p0 p1 y260 y261
set_option maxHeartbeats 1000000 in
theorem Zcc (p0 : TGraph') (p1 : List Int) (p2 : List (List TEntry)) (r : List TEntry) (h : Z18 p0 p1 p2 = some r) : Ok Tryz.prog 89 [C.agg [C.int p0.room, C.im kEvent 9 p0.events, C.im kEvent 9 p0.parked], C.im kI64 1 p1, C.im kEntryS 1 p2] [] (fun c qs => ∃ (v250 : Value), c = C.val v250 ∧ qs = [Obj.arr v250 99 kEntry 3 r]) := by
 refine Ok.of_body (rs := [.tmp 6]) Tryz.func89 rfl rfl rfl rfl rfl fun X => ?_
 unfold Z18 at h
 refine zz ?_
 refine Ops.h (ns := []) rfl rfl (op_boxA rfl rfl) ?_
 rintro _ _ ⟨b1, rfl, rfl⟩
 refine zz ?_
 refine Ops.h (ns := []) rfl rfl (op_buildSlice (k := kEntry) (ys := ([] : List TEntry)) ar_49 .nil rfl rfl rfl) ?_
 rintro _ _ ⟨b2, rfl, rfl⟩
 refine zz ?_
 refine Ops.h (ns := []) rfl rfl (op_buildSlice (k := kI64) (ys := ([] : List Int)) ar_26 .nil rfl rfl rfl) ?_
 rintro _ _ ⟨b3, rfl, rfl⟩
 refine Ops.v rfl (op_assign rfl rfl) ?_
 refine Ops.nil ?_
 refine AW.seq ?_
 refine AW.cut (τ := List TEntry × List Int × Value) (fun (l95, l96, v94) => ⟨[(1, C.im kI64 1 p1), (3, C.val (.pointer (some ⟨b1, 0, none⟩))), (7, C.val v94), (8, C.im kI64 1 l96)], [Obj.box b1 30 [C.int p0.room, C.im kEvent 9 p0.events, C.im kEvent 9 p0.parked], Obj.arr v94 99 kEntry 3 l95]⟩) (fun (l95, l96, v94) => Z9f p0 p1 l95 l96 = some r) ?_ ?_
 ·
  refine zz ?_
  refine ob' h fun o283 g284 q285 => ?_
  refine AW.loop (τ := List TEntry × List Int × Int × Value) (x := (([] : List TEntry), ([] : List Int), 0, (.slice (some ⟨b2, 0, none⟩) 0 0))) (fun (l49, l50, x51, v48) => ⟨[(1, C.im kI64 1 p1), (2, C.im kEntryS 1 p2), (3, C.val (.pointer (some ⟨b1, 0, none⟩))), (7, C.val v48), (8, C.im kI64 1 l50), (9, C.int x51)], [Obj.box b1 30 [C.int p0.room, C.im kEvent 9 p0.events, C.im kEvent 9 p0.parked], Obj.arr v48 99 kEntry 3 l49]⟩) (fun k (l49, l50, x51, v48) => iter (fun z259 => Z19 p2 z259.1 z259.2.1 z259.2.2) k (l49, l50, x51) = some o283) g284 ((Ghost.freeze (p := 0) (t := 8) rfl rfl).trans (Ghost.both (ns := [1, 0]) rfl rfl)) ?_
  rintro k ⟨l49, l50, x51, v48⟩ i287
  refine iter_succ' (show iter (fun z259 => Z19 p2 z259.1 z259.2.1 z259.2.2) k (l49, l50, x51) = some o283 from i287) fun k286 y288 hlt_k286 h h289 => ?_
  replace h : Z19 p2 l49 l50 x51 = some y288 := h
  unfold Z19 at h
  refine zz ?_
  refine cnd h (fun hb52 h => ?_) fun hb52 h => ?_
  ·
   refine AW.ct hb52 rfl ?_
   refine AW.skip ?_
   refine AW.seq ?_
   refine AW.cut (τ := List TEntry × List Int × Value) (fun (l92, l93, v91) => ⟨[(1, C.im kI64 1 p1), (2, C.im kEntryS 1 p2), (3, C.val (.pointer (some ⟨b1, 0, none⟩))), (7, C.val v91), (8, C.im kI64 1 l93), (9, C.int x51)], [Obj.box b1 30 [C.int p0.room, C.im kEvent 9 p0.events, C.im kEvent 9 p0.parked], Obj.arr v91 99 kEntry 3 l92]⟩) (fun (l92, l93, v91) => Z9g x51 l92 l93 = some y288) ?_ ?_
   ·
    refine zz ?_
    refine ob' h fun o290 g291 q292 => ?_
    refine AW.loop (τ := List TEntry × List Int × Int × Value) (x := (l49, l50, 0, v48)) (fun (l71, l72, x73, v70) => ⟨[(1, C.im kI64 1 p1), (2, C.im kEntryS 1 p2), (3, C.val (.pointer (some ⟨b1, 0, none⟩))), (7, C.val v70), (8, C.im kI64 1 l72), (9, C.int x51), (10, C.int x73)], [Obj.box b1 30 [C.int p0.room, C.im kEvent 9 p0.events, C.im kEvent 9 p0.parked], Obj.arr v70 99 kEntry 3 l71]⟩) (fun k (l71, l72, x73, v70) => iter (fun z256 => Z2s p2 x51 z256.1 z256.2.1 z256.2.2) k (l71, l72, x73) = some o290) g291 (Ghost.both (ns := [0, 0]) rfl rfl) ?_
    rintro k ⟨l71, l72, x73, v70⟩ i294
    refine iter_succ' (show iter (fun z256 => Z2s p2 x51 z256.1 z256.2.1 z256.2.2) k (l71, l72, x73) = some o290 from i294) fun k293 y295 hlt_k293 h h296 => ?_
    replace h : Z2s p2 x51 l71 l72 x73 = some y295 := h
    unfold Z2s at h
    refine zz ?_
    refine ob' h fun e74 g75 h => ?_
    refine Ops.v rfl (op_indexAddr_im sl_46.h rfl rfl g75 rfl) ?_
    refine Ops.v rfl (op_load_ip ld_49.h rfl rfl) ?_
    refine zz ?_
    refine cnd h (fun hb76 h => ?_) fun hb76 h => ?_
    ·
     refine AW.ct hb76 rfl ?_
     refine AW.skip ?_
     refine AW.seq ?_
     refine AW.cut (τ := List TEntry × List Int × Value) (fun (l89, l90, v88) => ⟨[(1, C.im kI64 1 p1), (2, C.im kEntryS 1 p2), (3, C.val (.pointer (some ⟨b1, 0, none⟩))), (7, C.val v88), (8, C.im kI64 1 l90), (9, C.int x51), (10, C.int x73)], [Obj.box b1 30 [C.int p0.room, C.im kEvent 9 p0.events, C.im kEvent 9 p0.parked], Obj.arr v88 99 kEntry 3 l89]⟩) (fun (l89, l90, v88) => Z71 x73 l89 l90 = some y295) ?_ ?_
     ·
      refine zz ?_
      refine Ops.v rfl (op_indexAddr_im sl_46.h rfl rfl g75 rfl) ?_
      refine Ops.v rfl (op_load_ip ld_49.h rfl rfl) ?_
      refine zz ?_
      refine ob' h fun e77 g78 h => ?_
      refine Ops.v rfl (op_indexAddr_im sl_49.h rfl rfl g78 rfl) ?_
      refine Ops.v rfl (op_load_ipA ld_99.h rfl rfl rfl rfl) ?_
      refine ob' h fun r79 g80 h => ?_
      refine Ops.hd (ns := []) rfl rfl (op_callE (Zeh _ _ _ g80) rfl rfl) ?_
      refine zz ?_
      refine cnd h (fun hb81 h => ?_) fun hb81 h => ?_
      ·
       refine AW.ct hb81 rfl ?_
       refine zz ?_
       refine Ops.v rfl (op_indexAddr_im sl_46.h rfl rfl g75 rfl) ?_
       refine Ops.v rfl (op_load_ip ld_49.h rfl rfl) ?_
       refine zz ?_
       refine Ops.v rfl (op_indexAddr_im sl_49.h rfl rfl g78 rfl) ?_
       refine Ops.v rfl (op_load_ipA ld_99.h rfl rfl rfl rfl) ?_
       refine ob' h fun r82 g83 h => ?_
       refine Ops.h (ns := [1]) rfl rfl (op_call (Ok.lend (Z87 l71 e77 _ g83) (FrzT.cons (os := [_]) Frz.arr (FrzT.cons (os := []) (Frz.same _) (FrzT.nil))) (by rintro _ _ ⟨_, rfl, rfl⟩; exact ⟨(PlainC.val _), plainO_cons (PlainO.arr plain_kEntry) (plainO_nil)⟩)) rfl rfl) ?_
       rintro _ _ ⟨_, ⟨_, ⟨v84, rfl, rfl⟩, rfl⟩, rfl⟩
       refine zz ?_
       exact ⟨(r82, l72, v84), h, Ghost.both (ns := [2, 0]) rfl rfl⟩
      refine AW.cf hb81 rfl ?_
      refine zz ?_
      refine Ops.v rfl (op_indexAddr_im sl_46.h rfl rfl g75 rfl) ?_
      refine Ops.v rfl (op_load_ip ld_49.h rfl rfl) ?_
      refine zz ?_
      refine Ops.v rfl (op_indexAddr_im sl_49.h rfl rfl g78 rfl) ?_
      refine Ops.v rfl (op_fieldAddr_ip fo_99_2.h rfl rfl rfl) ?_
      refine Ops.v rfl (op_load_ip ld_2.h rfl rfl) ?_
      refine ob' h fun r86 g87 h => ?_
      refine Ops.hd (ns := []) rfl rfl (op_callE (Zed _ _ _ g87) rfl rfl) ?_
      refine zz ?_
      exact ⟨(l71, r86, v70), h, Ghost.both (ns := [0, 0]) rfl rfl⟩
     rintro ⟨l89, l90, v88⟩ h
     replace h : Z71 x73 l89 l90 = some y295 := h
     unfold Z71 at h
     refine zz ?_
     obtain rfl := Option.some.inj h
     exact ⟨k293, (l89, l90, (IntKind.i64.wrap (x73 + 1)), v88), hlt_k293, h296, Ghost.both (ns := [0, 0]) rfl rfl⟩
    refine AW.cf hb76 rfl ?_
    refine AW.exit ?_
    obtain rfl := Option.some.inj h
    obtain rfl := Option.some.inj h296
    replace h := q292
    exact ⟨(l71, l72, v70), h, Ghost.both (ns := [0, 0]) rfl rfl⟩
   rintro ⟨l92, l93, v91⟩ h
   replace h : Z9g x51 l92 l93 = some y288 := h
   unfold Z9g at h
   refine zz ?_
   obtain rfl := Option.some.inj h
   exact ⟨k286, (l92, l93, (IntKind.i64.wrap (x51 + 1)), v91), hlt_k286, h289, Ghost.both (ns := [0, 0]) rfl rfl⟩
  refine AW.cf hb52 rfl ?_
  refine AW.exit ?_
  obtain rfl := Option.some.inj h
  obtain rfl := Option.some.inj h289
  replace h := q285
  exact ⟨(l49, l50, v48), h, Ghost.both (ns := [0, 0]) rfl rfl⟩
 rintro ⟨l95, l96, v94⟩ h
 replace h : Z9f p0 p1 l95 l96 = some r := h
 unfold Z9f at h
 refine zz ?_
 refine Ops.h (ns := []) rfl rfl (op_buildSlice (k := kI64) (ys := ([] : List Int)) ar_26 .nil rfl rfl rfl) ?_
 rintro _ _ ⟨b97, rfl, rfl⟩
 refine Ops.v rfl (op_assign rfl rfl) ?_
 refine Ops.nil ?_
 refine AW.seq ?_
 refine AW.cut (τ := List Int × Value) (fun (l186, v185) => ⟨[(3, C.val (.pointer (some ⟨b1, 0, none⟩))), (7, C.val v94), (11, C.val v185)], [Obj.box b1 30 [C.int p0.room, C.im kEvent 9 p0.events, C.im kEvent 9 p0.parked], Obj.arr v94 99 kEntry 3 l95, Obj.arr v185 2 kI64 1 l186]⟩) (fun (l186, v185) => Z9i p0 l95 l186 = some r) ?_ ?_
 ·
  refine zz ?_
  refine ob' h fun o269 g270 q271 => ?_
  refine AW.loop (τ := List Int × Int × Value) (x := (([] : List Int), 0, (.slice (some ⟨b97, 0, none⟩) 0 0))) (fun (l141, x142, v140) => ⟨[(1, C.im kI64 1 p1), (3, C.val (.pointer (some ⟨b1, 0, none⟩))), (7, C.val v94), (8, C.im kI64 1 l96), (11, C.val v140), (12, C.int x142)], [Obj.box b1 30 [C.int p0.room, C.im kEvent 9 p0.events, C.im kEvent 9 p0.parked], Obj.arr v94 99 kEntry 3 l95, Obj.arr v140 2 kI64 1 l141]⟩) (fun k (l141, x142, v140) => iter (fun z254 => Z1a p0 p1 l96 z254.1 z254.2) k (l141, x142) = some o269) g270 (Ghost.both (ns := [1, 1, 0]) rfl rfl) ?_
  rintro k ⟨l141, x142, v140⟩ i273
  refine iter_succ' (show iter (fun z254 => Z1a p0 p1 l96 z254.1 z254.2) k (l141, x142) = some o269 from i273) fun k272 y274 hlt_k272 h h275 => ?_
  replace h : Z1a p0 p1 l96 l141 x142 = some y274 := h
  unfold Z1a at h
  refine zz ?_
  refine cnd h (fun hb143 h => ?_) fun hb143 h => ?_
  ·
   refine AW.ct hb143 rfl ?_
   refine zz ?_
   refine Ops.v rfl (op_len_arr (p := 2) sl_26.h rfl rfl rfl) ?_
   refine Ops.v rfl (op_assign rfl rfl) ?_
   refine Ops.nil ?_
   refine AW.seq ?_
   refine AW.cut (τ := Int) (fun x163 => ⟨[(1, C.im kI64 1 p1), (3, C.val (.pointer (some ⟨b1, 0, none⟩))), (7, C.val v94), (8, C.im kI64 1 l96), (11, C.val v140), (12, C.int x142), (13, C.int x163)], [Obj.box b1 30 [C.int p0.room, C.im kEvent 9 p0.events, C.im kEvent 9 p0.parked], Obj.arr v94 99 kEntry 3 l95, Obj.arr v140 2 kI64 1 l141]⟩) (fun x163 => Z9j l96 l141 x142 x163 = some y274) ?_ ?_
   ·
    refine zz ?_
    refine ob' h fun o276 g277 q278 => ?_
    refine AW.loop (τ := Int) (x := (l141.length : Int)) (fun x153 => ⟨[(1, C.im kI64 1 p1), (3, C.val (.pointer (some ⟨b1, 0, none⟩))), (7, C.val v94), (8, C.im kI64 1 l96), (11, C.val v140), (12, C.int x142), (13, C.int x153)], [Obj.box b1 30 [C.int p0.room, C.im kEvent 9 p0.events, C.im kEvent 9 p0.parked], Obj.arr v94 99 kEntry 3 l95, Obj.arr v140 2 kI64 1 l141]⟩) (fun k x153 => iter (Z4p p0 p1 l96 l141 x142) k x153 = some o276) g277 (Ghost.both (ns := [0, 0, 0]) rfl rfl) ?_
    intro k x153 i280
    refine iter_succ' (show iter (Z4p p0 p1 l96 l141 x142) k x153 = some o276 from i280) fun k279 y281 hlt_k279 h h282 => ?_
    replace h : Z4p p0 p1 l96 l141 x142 x153 = some y281 := h
    unfold Z4p at h
    refine AW.seq ?_
    refine AW.seq ?_
    refine AW.cut (τ := Bool) (fun x161 => ⟨[(1, C.im kI64 1 p1), (3, C.val (.pointer (some ⟨b1, 0, none⟩))), (7, C.val v94), (8, C.im kI64 1 l96), (11, C.val v140), (12, C.int x142), (13, C.int x153), (86, C.bool x161)], [Obj.box b1 30 [C.int p0.room, C.im kEvent 9 p0.events, C.im kEvent 9 p0.parked], Obj.arr v94 99 kEntry 3 l95, Obj.arr v140 2 kI64 1 l141]⟩) (fun x161 => Z73 x153 x161 = some y281) ?_ ?_
    ·
     refine AW.regionD (L := [3, 8, 13]) (Lt := []) (k := .light 0 false (.light 1 false (.light 2 false (.light 3 true (.light 4 false (.light 5 false (.light 6 false (.light 7 false (.light 8 true (.light 9 false (.light 10 false (.light 11 false (.light 12 false (.light 13 true (.one 14 (.light 15 false .done)))))))))))))))) (ns := [0, 0, 0]) (by kernel_rfl) (by kernel_rfl) (by kernel_rfl) (by kernel_rfl) rfl ?_
     refine zz ?_
     refine cnd h (fun hb154 h => ?_) fun hb154 h => ?_
     ·
      refine OpsD.gv rfl rfl rfl rfl rfl hb154 (op_loadA (p := 0) (ds := [C.int p0.room, C.im kEvent 9 p0.events, C.im kEvent 9 p0.parked]) ld_30.h rfl rfl rfl rfl rfl) ?_
      refine zz ?_
      refine ob' h fun e155 g156 h => ?_
      refine OpsD.gv rfl rfl rfl rfl rfl hb154 (op_indexAddr_im sl_26.h rfl rfl g156 rfl) ?_
      refine OpsD.gv rfl rfl rfl rfl rfl hb154 (op_load_ip ld_2.h rfl rfl) ?_
      refine zz ?_
      refine ob' h fun e157 g158 h => ?_
      refine OpsD.gv rfl rfl rfl rfl rfl hb154 (op_indexAddr_arr (p := 2) sl_26.h rfl rfl rfl g158 rfl) ?_
      refine OpsD.gv rfl rfl rfl rfl rfl hb154 (op_load_arr (p := 2) ld_2.h rfl rfl (getI_lt g158).2.2 rfl rfl) ?_
      refine zz ?_
      refine ob' h fun r159 g160 h => ?_
      refine StepD.gh (ns := []) rfl rfl rfl rfl rfl hb154 rfl (op_callE (Zek _ _ _ _ _ g160) rfl rfl) ?_
      rintro _ _ ⟨rfl, rfl⟩
      refine zz ?_
      exact ⟨r159, h, Ghost.both (ns := [0, 0, 0]) rfl rfl⟩
     refine OpsD.gs rfl rfl rfl rfl (.b rfl hb154) rfl rfl ?_
     refine OpsD.gs rfl rfl rfl rfl (.b rfl hb154) rfl rfl ?_
     refine OpsD.gs rfl rfl rfl rfl (.b rfl hb154) rfl rfl ?_
     refine OpsD.gs rfl rfl rfl rfl (.b rfl hb154) rfl rfl ?_
     refine OpsD.gs rfl rfl rfl rfl (.b rfl hb154) rfl rfl ?_
     refine OpsD.gs rfl rfl rfl rfl (.b rfl hb154) rfl rfl ?_
     refine OpsD.gs rfl rfl rfl rfl (.b rfl hb154) rfl rfl ?_
     refine OpsD.gs rfl rfl rfl rfl (.b rfl hb154) rfl rfl ?_
     refine OpsD.gs rfl rfl rfl rfl (.b rfl hb154) rfl rfl ?_
     refine OpsD.gs rfl rfl rfl rfl (.b rfl hb154) rfl rfl ?_
     refine OpsD.gs rfl rfl rfl rfl (.b rfl hb154) rfl rfl ?_
     refine OpsD.one ?_
     refine StepD.gs rfl rfl rfl rfl (.b rfl hb154) rfl rfl ?_
     refine zz ?_
     exact ⟨false, h, Ghost.both (ns := [0, 0, 0]) rfl rfl⟩
    intro x161 h
    replace h : Z73 x153 x161 = some y281 := h
    unfold Z73 at h
    refine cnd h (fun hb162 h => ?_) fun hb162 h => ?_
    ·
     refine AW.ct hb162 rfl ?_
     refine zz ?_
     obtain rfl := Option.some.inj h
     exact ⟨k279, (IntKind.i64.wrap (x153 - 1)), hlt_k279, h282, Ghost.both (ns := [0, 0, 0]) rfl rfl⟩
    refine AW.cf hb162 rfl ?_
    refine AW.exit ?_
    obtain rfl := Option.some.inj h
    obtain rfl := Option.some.inj h282
    replace h := q278
    exact ⟨x153, h, Ghost.both (ns := [0, 0, 0]) rfl rfl⟩
   intro x163 h
   replace h : Z9j l96 l141 x142 x163 = some y274 := h
   unfold Z9j at h
   refine zz ?_
   refine Ops.h (ns := []) rfl rfl (op_buildSlice (k := kI64) (ys := ([] : List Int)) ar_26 .nil rfl rfl rfl) ?_
   rintro _ _ ⟨b164, rfl, rfl⟩
   refine zz ?_
   refine ob' h fun u166 c165 h => ?_
   refine Ops.v rfl (op_slice_arr_h (p := 3) (l := (Int.toNat x163)) sl_26.h rfl rfl rfl (of_decide_eq_true (chk_some c165)) rfl rfl) ?_
   refine ob' h fun u168 c167 h => ?_
   refine ob' h fun u170 c169 h => ?_
   refine Ops.h (ns := [0, 2]) rfl rfl (op_append_part ar_26 rfl rfl (Part.take (Int.toNat x163) (of_decide_eq_true (chk_some c167))) (of_decide_eq_true (chk_some c169)) (app63 (by decide) c169) rfl) ?_
   rintro _ _ ⟨v171, rfl, rfl⟩
   refine zz ?_
   refine ob' h fun e172 g173 h => ?_
   refine Ops.v rfl (op_indexAddr_im sl_26.h rfl rfl g173 rfl) ?_
   refine Ops.v rfl (op_load_ip ld_2.h rfl rfl) ?_
   refine Ops.h (ns := []) rfl rfl (op_buildSlice (k := kI64) (ys := [e172]) ar_26 (.one rfl (One.val rfl) rfl rfl .nil) rfl rfl rfl) ?_
   rintro _ _ ⟨b174, rfl, rfl⟩
   refine ob' h fun u176 c175 h => ?_
   refine Ops.h (ns := [1, 0]) rfl rfl (op_append ar_26 rfl rfl (of_decide_eq_true (chk_some c175)) (app63 (by decide) c175) rfl) ?_
   rintro _ _ ⟨v177, rfl, rfl⟩
   refine zz ?_
   refine ob' h fun u179 c178 h => ?_
   refine Ops.v rfl (op_slice_arr_l (p := 1) (l := (Int.toNat x163)) sl_26.h rfl rfl rfl (of_decide_eq_true (chk_some c178)) rfl rfl) ?_
   refine ob' h fun u181 c180 h => ?_
   refine ob' h fun u183 c182 h => ?_
   refine Ops.h (ns := [0, 0]) rfl rfl (op_append_part ar_26 rfl rfl (Part.drop (Int.toNat x163) (of_decide_eq_true (chk_some c180))) (of_decide_eq_true (chk_some c182)) (app63 (by decide) c182) rfl) ?_
   rintro _ _ ⟨v184, rfl, rfl⟩
   refine zz ?_
   obtain rfl := Option.some.inj h
   exact ⟨k272, ((((([] : List Int) ++ (List.take (Int.toNat x163) l141)) ++ [e172]) ++ (List.drop (Int.toNat x163) l141)), (IntKind.i64.wrap (x142 + 1)), v184), hlt_k272, h275, Ghost.both (ns := [2, 2, 0]) rfl rfl⟩
  refine AW.cf hb143 rfl ?_
  refine AW.exit ?_
  obtain rfl := Option.some.inj h
  obtain rfl := Option.some.inj h275
  replace h := q271
  exact ⟨(l141, v140), h, Ghost.both (ns := [0, 0, 0]) rfl rfl⟩
 rintro ⟨l186, v185⟩ h
 replace h : Z9i p0 l95 l186 = some r := h
 unfold Z9i at h
 refine AW.seq ?_
 refine AW.cut (τ := List TEntry × Value) (fun (l249, v248) => ⟨[(7, C.val v248)], [Obj.arr v248 99 kEntry 3 l249]⟩) (fun (l249, v248) => Z9e l249 = some r) ?_ ?_
 ·
  refine zz ?_
  refine ob' h fun o262 g263 q264 => ?_
  refine AW.loop (τ := List TEntry × Int × Value) (x := (l95, 0, v94)) (fun (l217, x218, v216) => ⟨[(3, C.val (.pointer (some ⟨b1, 0, none⟩))), (7, C.val v216), (11, C.val v185), (15, C.int x218)], [Obj.box b1 30 [C.int p0.room, C.im kEvent 9 p0.events, C.im kEvent 9 p0.parked], Obj.arr v216 99 kEntry 3 l217, Obj.arr v185 2 kI64 1 l186]⟩) (fun k (l217, x218, v216) => iter (fun z251 => Z2t p0 l186 z251.1 z251.2) k (l217, x218) = some o262) g263 (Ghost.both (ns := [0, 0, 0]) rfl rfl) ?_
  rintro k ⟨l217, x218, v216⟩ i266
  refine iter_succ' (show iter (fun z251 => Z2t p0 l186 z251.1 z251.2) k (l217, x218) = some o262 from i266) fun k265 y267 hlt_k265 h h268 => ?_
  replace h : Z2t p0 l186 l217 x218 = some y267 := h
  unfold Z2t at h
  refine zz ?_
  refine Ops.v rfl (op_len_arr (p := 2) sl_26.h rfl rfl rfl) ?_
  refine zz ?_
  refine cnd h (fun hb219 h => ?_) fun hb219 h => ?_
  ·
   refine AW.ct hb219 rfl ?_
   refine AW.skip ?_
   refine AW.seq ?_
   refine AW.cut (τ := List TEntry × Value) (fun (l247, v246) => ⟨[(3, C.val (.pointer (some ⟨b1, 0, none⟩))), (7, C.val v246), (11, C.val v185), (15, C.int x218)], [Obj.box b1 30 [C.int p0.room, C.im kEvent 9 p0.events, C.im kEvent 9 p0.parked], Obj.arr v246 99 kEntry 3 l247, Obj.arr v185 2 kI64 1 l186]⟩) (fun (l247, v246) => Z72 x218 l247 = some y267) ?_ ?_
   ·
    refine AW.block ?_
    refine AW.seq ?_
    refine AW.cut (τ := Int × Int × Int × Int × Int × Int × ByteArray × List Int × Int × Nat) (fun (x230, x231, x232, x233, x234, x235, x236, l237, x238, b229) => ⟨[(3, C.val (.pointer (some ⟨b1, 0, none⟩))), (7, C.val v216), (11, C.val v185), (15, C.int x218), (16, C.val (.pointer (some ⟨b229, 0, none⟩)))], [Obj.box b1 30 [C.int p0.room, C.im kEvent 9 p0.events, C.im kEvent 9 p0.parked], Obj.arr v216 99 kEntry 3 l217, Obj.arr v185 2 kI64 1 l186, Obj.box b229 38 [C.int x230, C.int x231, C.int x232, C.int x233, C.int x234, C.int x235, C.str x236, C.im kI64 1 l237, C.int x238]]⟩) (fun (x230, x231, x232, x233, x234, x235, x236, l237, x238, b229) => Z9h p0 l217 x218 x230 x231 x232 x233 x234 x235 x236 l237 x238 = some y267) ?_ ?_
    ·
     refine AW.regionD (L := [1, 3, 7, 10]) (Lt := [12]) (k := .light 0 false (.light 1 true (.light 2 false (.light 3 true (.light 4 false (.light 5 false (.light 6 false (.light 7 true (.two 8 11 (.light 9 false (.light 10 true (.one 11 (.late 12 (.done))))) (.one 8 (.light 9 false (.light 10 true (.late 12 (.done)))))))))))))) (ns := [0, 0, 0]) (by kernel_rfl) (by kernel_rfl) (by kernel_rfl) (by kernel_rfl) rfl ?_
     refine zz ?_
     refine ob' h fun e220 g221 h => ?_
     refine OpsD.v rfl rfl (op_indexAddr_arr (p := 2) sl_26.h rfl rfl rfl g221 rfl) ?_
     refine OpsD.v rfl rfl (op_load_arr (p := 2) ld_2.h rfl rfl (getI_lt g221).2.2 rfl rfl) ?_
     refine ob' h fun r222 g223 h => ?_
     refine OpsD.two ?_ ?_
     ·
      refine StepD.h (ns := []) rfl rfl rfl (op_callE (Z6 _ _ _ g223) rfl rfl) ?_
      rintro _ _ ⟨rfl, rfl⟩
      refine ob' h fun e225 g226 h => ?_
      refine OpsD.v rfl rfl (op_indexAddr_im sl_28.h rfl rfl g226 rfl) ?_
      refine OpsD.v rfl rfl (op_load_ipA ld_38.h rfl rfl rfl rfl) ?_
      refine OpsD.one ?_
      refine StepD.h (ns := []) rfl rfl rfl (op_alloc (cs := [C.int 0, C.int 0, C.int 0, C.int 0, C.int 0, C.int 0, C.str ByteArray.empty, C.val (.slice none 0 0), C.int 0]) ze_38 (cells_zero rfl rfl) rfl) ?_
      rintro _ _ ⟨b224, rfl, rfl⟩
      refine OpsD.late (ns := [3]) rfl rfl rfl (op_storeA (gs := [C.int e225.id, C.int e225.room, C.int e225.author, C.int e225.kind, C.int e225.key, C.int e225.n, C.str e225.text, C.im kI64 1 e225.prev, C.int e225.time]) ld_38.h rfl rfl rfl rfl rfl) ?_
      rintro _ _ ⟨rfl, rfl⟩
      refine zz ?_
      exact ⟨(e225.id, e225.room, e225.author, e225.kind, e225.key, e225.n, e225.text, e225.prev, e225.time, b224), h, Ghost.both (ns := [1, 1, 1, 0]) rfl rfl⟩
     refine StepD.h (ns := []) rfl rfl rfl (op_alloc (cs := [C.int 0, C.int 0, C.int 0, C.int 0, C.int 0, C.int 0, C.str ByteArray.empty, C.val (.slice none 0 0), C.int 0]) ze_38 (cells_zero rfl rfl) rfl) ?_
     rintro _ _ ⟨b224, rfl, rfl⟩
     refine OpsD.one ?_
     refine StepD.h (ns := []) rfl rfl rfl (op_callE (Z6 _ _ _ g223) rfl rfl) ?_
     rintro _ _ ⟨rfl, rfl⟩
     refine ob' h fun e227 g228 h => ?_
     refine OpsD.v rfl rfl (op_indexAddr_im sl_28.h rfl rfl g228 rfl) ?_
     refine OpsD.v rfl rfl (op_load_ipA ld_38.h rfl rfl rfl rfl) ?_
     refine OpsD.late (ns := [3]) rfl rfl rfl (op_storeA (gs := [C.int e227.id, C.int e227.room, C.int e227.author, C.int e227.kind, C.int e227.key, C.int e227.n, C.str e227.text, C.im kI64 1 e227.prev, C.int e227.time]) ld_38.h rfl rfl rfl rfl rfl) ?_
     rintro _ _ ⟨rfl, rfl⟩
     refine zz ?_
     exact ⟨(e227.id, e227.room, e227.author, e227.kind, e227.key, e227.n, e227.text, e227.prev, e227.time, b224), h, Ghost.both (ns := [1, 1, 1, 0]) rfl rfl⟩
    rintro ⟨x230, x231, x232, x233, x234, x235, x236, l237, x238, b229⟩ h
    replace h : Z9h p0 l217 x218 x230 x231 x232 x233 x234 x235 x236 l237 x238 = some y267 := h
    unfold Z9h at h
    refine zz ?_
    refine Ops.v rfl (op_loadA (p := 0) (ds := [C.int p0.room, C.im kEvent 9 p0.events, C.im kEvent 9 p0.parked]) ld_30.h rfl rfl rfl rfl rfl) ?_
    refine zz ?_
    refine Ops.v rfl (op_loadA (p := 3) (ds := [C.int x230, C.int x231, C.int x232, C.int x233, C.int x234, C.int x235, C.str x236, C.im kI64 1 l237, C.int x238]) ld_38.h rfl rfl rfl rfl rfl) ?_
    refine ob' h fun r239 g240 h => ?_
    refine Ops.hd (ns := [1]) rfl rfl (op_callE (Ok.lendE (Zca p0 l217 (TEvent.mk x230 x231 x232 x233 x234 x235 x236 l237 x238) _ g240) (FrzT.cons (os := []) (Frz.same _) (FrzT.cons (os := [_]) Frz.arr (FrzT.cons (os := []) (Frz.same _) (FrzT.nil)))) (PlainC.val _)) rfl rfl) ?_
    refine zz ?_
    refine cnd h (fun hb241 h => ?_) fun hb241 h => ?_
    ·
     refine AW.ct hb241 rfl ?_
     refine zz ?_
     refine Ops.v rfl (op_load (p := 3) ld_2.h rfl rfl rfl rfl) ?_
     refine zz ?_
     refine Ops.v rfl (op_load (p := 3) ld_2.h rfl rfl rfl rfl) ?_
     refine zz ?_
     refine Ops.v rfl (op_load (p := 3) ld_2.h rfl rfl rfl rfl) ?_
     refine Ops.v rfl (op_build (ds := [C.int x233, C.int x234, C.int x230]) pl_99 ze_99 (cells_zero rfl rfl) (.one rfl (One.val rfl) rfl rfl (.one rfl (One.val rfl) rfl rfl (.one rfl (One.val rfl) rfl rfl .nil))) rfl) ?_
     refine ob' h fun r242 g243 h => ?_
     refine Ops.h (ns := [0]) rfl rfl (op_call (Ok.lend (Z87 l217 (TEntry.mk x233 x234 x230) _ g243) (FrzT.cons (os := [_]) Frz.arr (FrzT.cons (os := []) (Frz.same _) (FrzT.nil))) (by rintro _ _ ⟨_, rfl, rfl⟩; exact ⟨(PlainC.val _), plainO_cons (PlainO.arr plain_kEntry) (plainO_nil)⟩)) rfl rfl) ?_
     rintro _ _ ⟨_, ⟨_, ⟨v244, rfl, rfl⟩, rfl⟩, rfl⟩
     refine zz ?_
     exact ⟨(r242, v244), h, Ghost.both (ns := [2, 0, 1]) rfl rfl⟩
    refine AW.cf hb241 rfl ?_
    refine zz ?_
    exact ⟨(l217, v216), h, Ghost.both (ns := [1, 0, 0]) rfl rfl⟩
   rintro ⟨l247, v246⟩ h
   replace h : Z72 x218 l247 = some y267 := h
   unfold Z72 at h
   refine zz ?_
   obtain rfl := Option.some.inj h
   exact ⟨k265, (l247, (IntKind.i64.wrap (x218 + 1)), v246), hlt_k265, h268, Ghost.both (ns := [0, 0, 0]) rfl rfl⟩
  refine AW.cf hb219 rfl ?_
  refine AW.exit ?_
  obtain rfl := Option.some.inj h
  obtain rfl := Option.some.inj h268
  replace h := q264
  exact ⟨(l217, v216), h, Ghost.both (ns := [1]) rfl rfl⟩
 rintro ⟨l249, v248⟩ h
 replace h : Z9e l249 = some r := h
 unfold Z9e at h
 refine zz ?_
 refine AW.ret ?_
 rw [← Option.some.inj h]
 exact ⟨[C.val v248], _, Ghost.refl _, (.cons (.tmp rfl) .nil), [0], _, _, rfl, ⟨v248, rfl, rfl⟩⟩
def Z68 (p0 : TEvent) : Option TEvent := (chk (decide ((([] : List Int).length + p0.prev.length) * 8 ≤ 140737488355328))).bind fun u5 => some (TEvent.mk p0.id p0.room p0.author p0.kind p0.key p0.n p0.text (([] : List Int) ++ p0.prev) p0.time)
theorem Zbc (p0 : TEvent) (r : TEvent) (h : Z68 p0 = some r) : Ok Tryz.prog 150 [C.agg [C.int p0.id, C.int p0.room, C.int p0.author, C.int p0.kind, C.int p0.key, C.int p0.n, C.str p0.text, C.im kI64 1 p0.prev, C.int p0.time]] [] (fun c qs => ∃ (v8 : Value), c = C.agg [C.int r.id, C.int r.room, C.int r.author, C.int r.kind, C.int r.key, C.int r.n, C.str r.text, C.val v8, C.int r.time] ∧ qs = [Obj.arr v8 2 kI64 1 r.prev]) := by
 refine Ok.of_body (rs := [.cell 2 38]) Tryz.func150 rfl rfl rfl rfl rfl fun X => ?_
 unfold Z68 at h
 refine zz ?_
 refine Ops.h (ns := []) rfl rfl (op_boxA rfl rfl) ?_
 rintro _ _ ⟨b1, rfl, rfl⟩
 refine Ops.h (ns := []) rfl rfl (op_alloc (cs := [C.int 0, C.int 0, C.int 0, C.int 0, C.int 0, C.int 0, C.str ByteArray.empty, C.val (.slice none 0 0), C.int 0]) ze_38 (cells_zero rfl rfl) rfl) ?_
 rintro _ _ ⟨b2, rfl, rfl⟩
 refine zz ?_
 refine Ops.h (ns := []) rfl rfl (op_buildSlice (k := kI64) (ys := ([] : List Int)) ar_26 .nil rfl rfl rfl) ?_
 rintro _ _ ⟨b3, rfl, rfl⟩
 refine zz ?_
 refine ob' h fun u5 c4 h => ?_
 refine Ops.h (ns := [0]) rfl rfl (op_append_im ar_26 rfl rfl (of_decide_eq_true (chk_some c4)) (app63 (by decide) c4) rfl) ?_
 rintro _ _ ⟨v6, rfl, rfl⟩
 refine Ops.v rfl (op_fieldAddr fo_38_7.h rfl rfl) ?_
 refine Ops.learn (Sim.arr_one (p := 0) rfl) fun n7 => ?_
 refine Ops.hd (ns := [2]) rfl rfl (op_store (gs := [C.int p0.id, C.int p0.room, C.int p0.author, C.int p0.kind, C.int p0.key, C.int p0.n, C.str p0.text, C.val v6, C.int p0.time]) ld_26.h rfl rfl (One.val n7) rfl rfl) ?_
 refine zz ?_
 refine Ops.v rfl (op_loadA (p := 0) (ds := [C.int p0.id, C.int p0.room, C.int p0.author, C.int p0.kind, C.int p0.key, C.int p0.n, C.str p0.text, C.val v6, C.int p0.time]) ld_38.h rfl rfl rfl rfl rfl) ?_
 refine Ops.hd (ns := [2]) rfl rfl (op_storeA (gs := [C.int p0.id, C.int p0.room, C.int p0.author, C.int p0.kind, C.int p0.key, C.int p0.n, C.str p0.text, C.val v6, C.int p0.time]) ld_38.h rfl rfl rfl rfl rfl) ?_
 refine zz ?_
 refine AW.ret ?_
 rw [← Option.some.inj h]
 exact ⟨[C.agg [C.int p0.id, C.int p0.room, C.int p0.author, C.int p0.kind, C.int p0.key, C.int p0.n, C.str p0.text, C.val v6, C.int p0.time]], _, Ghost.refl _, (.cons (.cell (p := 0) rfl rfl ld_38.h rfl) .nil), [2], _, _, rfl, ⟨v6, rfl, rfl⟩⟩
theorem Zbc' (p0 : TEvent) (r : TEvent) (h : Z68 p0 = some r) : Ok Tryz.prog 150 [C.agg [C.int p0.id, C.int p0.room, C.int p0.author, C.int p0.kind, C.int p0.key, C.int p0.n, C.str p0.text, C.im kI64 1 p0.prev, C.int p0.time]] [] (fun c qs => c = C.agg [C.int r.id, C.int r.room, C.int r.author, C.int r.kind, C.int r.key, C.int r.n, C.str r.text, C.im kI64 1 r.prev, C.int r.time] ∧ qs = []) :=
  Ok.freeze (Zbc p0 r h) (by rintro c qs ⟨v8, rfl, rfl⟩; exact Frz.agg (FrzL.cons (os := []) (Frz.same _) (FrzL.cons (os := []) (Frz.same _) (FrzL.cons (os := []) (Frz.same _) (FrzL.cons (os := []) (Frz.same _) (FrzL.cons (os := []) (Frz.same _) (FrzL.cons (os := []) (Frz.same _) (FrzL.cons (os := []) (Frz.same _) (FrzL.cons (os := [_]) (Frz.arr) (FrzL.cons (os := []) (Frz.same _) (FrzL.nil)))))))))))

def Z8v (p0 : TGraph') (p1 : Int) : Option TEvent := (Z4 p0.events p1).bind fun r3 => cond (decide (r3 < 0)) (some (TEvent.mk 0 0 0 0 0 0 ByteArray.empty [] 0)) ((getI p0.events r3).bind fun e6 => (Z68 e6).bind fun r8 => some r8)
theorem Zec (p0 : TGraph') (p1 : Int) (r : TEvent) (h : Z8v p0 p1 = some r) : Ok Tryz.prog 96 [C.agg [C.int p0.room, C.im kEvent 9 p0.events, C.im kEvent 9 p0.parked], C.int p1] [] (fun c qs => c = C.agg [C.int r.id, C.int r.room, C.int r.author, C.int r.kind, C.int r.key, C.int r.n, C.str r.text, C.im kI64 1 r.prev, C.int r.time] ∧ qs = []) := by
 refine Ok.of_body (rs := [.cell 4 38]) Tryz.func96 rfl rfl rfl rfl rfl fun X => ?_
 unfold Z8v at h
 refine zz ?_
 refine Ops.h (ns := []) rfl rfl (op_boxA rfl rfl) ?_
 rintro _ _ ⟨b1, rfl, rfl⟩
 refine Ops.h (ns := []) rfl rfl (op_alloc (cs := [C.int 0, C.int 0, C.int 0, C.int 0, C.int 0, C.int 0, C.str ByteArray.empty, C.val (.slice none 0 0), C.int 0]) ze_38 (cells_zero rfl rfl) rfl) ?_
 rintro _ _ ⟨b2, rfl, rfl⟩
 refine zz ?_
 refine ob' h fun r3 g4 h => ?_
 refine Ops.hd (ns := []) rfl rfl (op_callE (Z6 _ _ _ g4) rfl rfl) ?_
 refine zz ?_
 refine cnd h (fun hb5 h => ?_) fun hb5 h => ?_
 ·
  refine AW.ct hb5 rfl ?_
  refine zz ?_
  refine Ops.v rfl (op_build (ds := [C.int 0, C.int 0, C.int 0, C.int 0, C.int 0, C.int 0, C.str ByteArray.empty, C.val (.slice none 0 0), C.int 0]) pl_38 ze_38 (cells_zero rfl rfl) .nil rfl) ?_
  refine Ops.hd (ns := [0]) rfl rfl (op_storeA (gs := [C.int 0, C.int 0, C.int 0, C.int 0, C.int 0, C.int 0, C.str ByteArray.empty, C.val (.slice none 0 0), C.int 0]) ld_38.h rfl rfl rfl rfl rfl) ?_
  refine zz ?_
  refine AW.ret ?_
  rw [← Option.some.inj h]
  exact ⟨[C.agg [C.int 0, C.int 0, C.int 0, C.int 0, C.int 0, C.int 0, C.str ByteArray.empty, C.im kI64 1 [], C.int 0]], _, Ghost.boxFrz (ns := [0]) rfl (FrzL.cons (os := []) (Frz.same _) (FrzL.cons (os := []) (Frz.same _) (FrzL.cons (os := []) (Frz.same _) (FrzL.cons (os := []) (Frz.same _) (FrzL.cons (os := []) (Frz.same _) (FrzL.cons (os := []) (Frz.same _) (FrzL.cons (os := []) (Frz.same _) (FrzL.cons (os := []) (Frz.imp (Imp.nil kI64 1)) (FrzL.cons (os := []) (Frz.same _) FrzL.nil))))))))), (.cons (.cell (p := 0) rfl rfl ld_38.h rfl) .nil), [], _, _, rfl, ⟨rfl, rfl⟩⟩
 refine AW.cf hb5 rfl ?_
 refine zz ?_
 refine ob' h fun e6 g7 h => ?_
 refine Ops.v rfl (op_indexAddr_im sl_28.h rfl rfl g7 rfl) ?_
 refine Ops.v rfl (op_load_ipA ld_38.h rfl rfl rfl rfl) ?_
 refine ob' h fun r8 g9 h => ?_
 refine Ops.hd (ns := []) rfl rfl (op_callE (Zbc' _ _ g9) rfl rfl) ?_
 refine Ops.hd (ns := [0]) rfl rfl (op_storeA (gs := [C.int r8.id, C.int r8.room, C.int r8.author, C.int r8.kind, C.int r8.key, C.int r8.n, C.str r8.text, C.im kI64 1 r8.prev, C.int r8.time]) ld_38.h rfl rfl rfl rfl rfl) ?_
 refine zz ?_
 refine AW.ret ?_
 rw [← Option.some.inj h]
 exact ⟨[C.agg [C.int r8.id, C.int r8.room, C.int r8.author, C.int r8.kind, C.int r8.key, C.int r8.n, C.str r8.text, C.im kI64 1 r8.prev, C.int r8.time]], _, Ghost.refl _, (.cons (.cell (p := 0) rfl rfl ld_38.h rfl) .nil), [], _, _, rfl, ⟨rfl, rfl⟩⟩

def Zax : Option Bool := some false
def Z4a (p0 : TGraph') (p1 : Int) (l35 : List Bool) (l37 : List Int) : Option ((List Bool × List Int) ⊕ (Bool ⊕ Unit)) := cond (decide ((l37.length : Int) > 0)) ((getI l37 0).bind fun e39 => (chk (decide ((0 : Int) ≤ 1 ∧ 1 ≤ (l37.length : Int)))).bind fun u42 => (Z4 p0.events e39).bind fun r44 => cond (e39 == p1) (some (.inr (.inl true))) ((getI l35 r44).bind fun e47 => cond e47 (some (.inl (l35, (List.drop (Int.toNat 1) l37)))) ((getI p0.events r44).bind fun e50 => (chk (decide (((List.drop (Int.toNat 1) l37).length + e50.prev.length) * 8 ≤ 140737488355328))).bind fun u53 => some (.inl ((List.set l35 (Int.toNat r44) true), ((List.drop (Int.toNat 1) l37) ++ e50.prev)))))) (some (.inr (.inr ())))
def Z6a (p0 : TGraph') (p1 : Int) (p2 : Int) (x7 : Bool) : Option Bool := cond x7 (some false) ((chk (decide (0 ≤ (p0.events.length : Int) ∧ (p0.events.length : Int) * 1 ≤ 140737488355328))).bind fun u10 => (Z8v p0 p2).bind fun r13 => (chk (decide ((([] : List Int).length + r13.prev.length) * 8 ≤ 140737488355328))).bind fun u16 => (iter (fun z55 => Z4a p0 p1 z55.1 z55.2) big ((List.replicate (Int.toNat (p0.events.length : Int)) false), (([] : List Int) ++ r13.prev))).bind (fun z57 => match z57 with | .inl y56 => some y56 | .inr () => Zax))
def Z2c (p0 : TGraph') (p1 : Int) (p2 : Int) : Option Bool := (Z4 p0.events p1).bind fun r2 => cond (decide (r2 < 0)) (Z6a p0 p1 p2 true) ((Z4 p0.events p2).bind fun r5 => Z6a p0 p1 p2 (decide (r5 < 0)))
set_option maxHeartbeats 1000000 in
theorem Zeb (p0 : TGraph') (p1 : Int) (p2 : Int) (r : Bool) (h : Z2c p0 p1 p2 = some r) : Ok Tryz.prog 108 [C.agg [C.int p0.room, C.im kEvent 9 p0.events, C.im kEvent 9 p0.parked], C.int p1, C.int p2] [] (fun c qs => c = C.bool r ∧ qs = []) := by
 refine Ok.of_body (rs := [.tmp 6]) Tryz.func108 rfl rfl rfl rfl rfl fun X => ?_
 unfold Z2c at h
 refine zz ?_
 refine Ops.h (ns := []) rfl rfl (op_boxA rfl rfl) ?_
 rintro _ _ ⟨b1, rfl, rfl⟩
 refine Ops.v rfl (op_assign rfl rfl) ?_
 refine Ops.nil ?_
 refine AW.seq ?_
 refine AW.seq ?_
 refine AW.cut (τ := Bool) (fun x7 => ⟨[(1, C.int p1), (2, C.int p2), (3, C.val (.pointer (some ⟨b1, 0, none⟩))), (22, C.bool x7)], [Obj.box b1 30 [C.int p0.room, C.im kEvent 9 p0.events, C.im kEvent 9 p0.parked]]⟩) (fun x7 => Z6a p0 p1 p2 x7 = some r) ?_ ?_
 ·
  refine zz ?_
  refine ob' h fun r2 g3 h => ?_
  refine Ops.hd (ns := []) rfl rfl (op_callE (Z6 _ _ _ g3) rfl rfl) ?_
  refine zz ?_
  refine cnd h (fun hb4 h => ?_) fun hb4 h => ?_
  ·
   refine zz ?_
   exact ⟨true, h, Ghost.both (ns := [0]) rfl rfl⟩
  refine zz ?_
  refine ob' h fun r5 g6 h => ?_
  refine Ops.ghd (ns := []) rfl rfl rfl rfl hb4 rfl (op_callE (Z6 _ _ _ g6) rfl rfl) ?_
  refine zz ?_
  exact ⟨decide (r5 < 0), h, Ghost.both (ns := [0]) rfl rfl⟩
 intro x7 h
 replace h : Z6a p0 p1 p2 x7 = some r := h
 unfold Z6a at h
 refine cnd h (fun hb8 h => ?_) fun hb8 h => ?_
 ·
  refine AW.ct hb8 rfl ?_
  refine zz ?_
  refine AW.ret ?_
  rw [← Option.some.inj h]
  exact ⟨[C.bool false], _, Ghost.refl _, (.cons (.tmp rfl) .nil), [], _, _, rfl, ⟨rfl, rfl⟩⟩
 refine AW.cf hb8 rfl ?_
 refine zz ?_
 refine ob' h fun u10 c9 h => ?_
 refine Ops.h (ns := []) rfl rfl (op_makeSlice (k := kBool) (z := false) ar_105 ze_4 (cells_zero rfl rfl) rfl rfl (make_ok c9).1 (make_ok c9).2 (make_ok63 (by decide) c9) rfl) ?_
 rintro _ _ ⟨b11, rfl, rfl⟩
 refine zz ?_
 refine Ops.h (ns := []) rfl rfl (op_buildSlice (k := kI64) (ys := ([] : List Int)) ar_26 .nil rfl rfl rfl) ?_
 rintro _ _ ⟨b12, rfl, rfl⟩
 refine Ops.v rfl (op_loadA (p := 2) (ds := [C.int p0.room, C.im kEvent 9 p0.events, C.im kEvent 9 p0.parked]) ld_30.h rfl rfl rfl rfl rfl) ?_
 refine zz ?_
 refine ob' h fun r13 g14 h => ?_
 refine Ops.hd (ns := []) rfl rfl (op_callE (Zec _ _ _ g14) rfl rfl) ?_
 refine Ops.v rfl (op_field fi_38_7 rfl rfl rfl) ?_
 refine ob' h fun u16 c15 h => ?_
 refine Ops.h (ns := [0]) rfl rfl (op_append_im ar_26 rfl rfl (of_decide_eq_true (chk_some c15)) (app63 (by decide) c15) rfl) ?_
 rintro _ _ ⟨v17, rfl, rfl⟩
 refine Ops.v rfl (op_assign rfl rfl) ?_
 refine Ops.nil ?_
 refine AW.seq ?_
 refine AW.cut (τ := Unit) (fun (_ : Unit) => ⟨[], []⟩) (fun (_ : Unit) => Zax = some r) ?_ ?_
 ·
  refine zz ?_
  refine ob' h fun o58 g59 q60 => ?_
  refine AW.loop (τ := List Bool × List Int × Value) (x := ((List.replicate (Int.toNat (p0.events.length : Int)) false), (([] : List Int) ++ r13.prev), v17)) (fun (l35, l37, v36) => ⟨[(1, C.int p1), (3, C.val (.pointer (some ⟨b1, 0, none⟩))), (7, C.val (.slice (some ⟨b11, 0, none⟩) (Int.toNat (p0.events.length : Int)) (Int.toNat (p0.events.length : Int)))), (8, C.val v36)], [Obj.box b1 30 [C.int p0.room, C.im kEvent 9 p0.events, C.im kEvent 9 p0.parked], Obj.arr (.slice (some ⟨b11, 0, none⟩) (Int.toNat (p0.events.length : Int)) (Int.toNat (p0.events.length : Int))) 4 kBool 1 l35, Obj.que v36 2 kI64 1 l37]⟩) (fun k (l35, l37, v36) => iter (fun z55 => Z4a p0 p1 z55.1 z55.2) k (l35, l37) = some o58) g59 ((Ghost.que (p := 0) rfl).trans (Ghost.both (ns := [2, 1, 0]) rfl rfl)) ?_
  rintro k ⟨l35, l37, v36⟩ i62
  refine iter_succ' (show iter (fun z55 => Z4a p0 p1 z55.1 z55.2) k (l35, l37) = some o58 from i62) fun k61 y63 hlt_k61 h h64 => ?_
  replace h : Z4a p0 p1 l35 l37 = some y63 := h
  unfold Z4a at h
  refine zz ?_
  refine Ops.v rfl (op_len_que (p := 2) sl_26.h rfl rfl rfl) ?_
  refine zz ?_
  refine cnd h (fun hb38 h => ?_) fun hb38 h => ?_
  ·
   refine AW.ct hb38 rfl ?_
   refine zz ?_
   refine ob' h fun e39 g40 h => ?_
   refine Ops.v rfl (op_indexAddr_que (p := 2) sl_26.h rfl rfl rfl g40 rfl) ?_
   refine Ops.v rfl (op_load_que (p := 2) ld_2.h rfl rfl (getI_lt g40).2.2 rfl rfl) ?_
   refine zz ?_
   refine ob' h fun u42 c41 h => ?_
   refine Ops.h (ns := [2]) rfl rfl (op_slice_que (l := (Int.toNat 1)) sl_26.h rfl rfl (of_decide_eq_true (chk_some c41)) rfl rfl) ?_
   rintro _ _ ⟨v43, rfl, rfl⟩
   refine zz ?_
   refine ob' h fun r44 g45 h => ?_
   refine Ops.hd (ns := []) rfl rfl (op_callE (Z6 _ _ _ g45) rfl rfl) ?_
   refine zz ?_
   refine cnd h (fun hb46 h => ?_) fun hb46 h => ?_
   ·
    refine AW.ct hb46 rfl ?_
    refine zz ?_
    refine AW.ret ?_
    obtain rfl := Option.some.inj h
    obtain rfl := Option.some.inj h64
    replace h := q60
    rw [← Option.some.inj h]
    exact ⟨[C.bool true], _, Ghost.refl _, (.cons (.tmp rfl) .nil), [], _, _, rfl, ⟨rfl, rfl⟩⟩
   refine AW.cf hb46 rfl ?_
   refine zz ?_
   refine ob' h fun e47 g48 h => ?_
   refine Ops.v rfl (op_indexAddr_arr (p := 2) sl_105.h rfl rfl rfl g48 rfl) ?_
   refine Ops.v rfl (op_load_arr (p := 2) ld_4.h rfl rfl (getI_lt g48).2.2 rfl rfl) ?_
   refine zz ?_
   refine cnd h (fun hb49 h => ?_) fun hb49 h => ?_
   ·
    refine AW.cond rfl (fun hn => absurd ((not_t hb49).symm.trans hn) (by decide)) (fun _ => ?_)
    refine zz ?_
    obtain rfl := Option.some.inj h
    exact ⟨k61, (l35, (List.drop (Int.toNat 1) l37), v43), hlt_k61, h64, Ghost.both (ns := [1, 1, 0]) rfl rfl⟩
   refine AW.cond rfl (fun _ => ?_) (fun hn => absurd ((not_f hb49).symm.trans hn) (by decide))
   refine zz ?_
   refine Ops.v rfl (op_indexAddr_arr (p := 2) sl_105.h rfl rfl rfl g48 rfl) ?_
   refine Ops.hd (ns := [2]) rfl rfl (op_store_arr (e' := true) ld_4.h rfl rfl (One.val rfl) (getI_lt g48).2.2 rfl rfl) ?_
   refine zz ?_
   refine ob' h fun e50 g51 h => ?_
   refine Ops.v rfl (op_indexAddr_im sl_28.h rfl rfl g51 rfl) ?_
   refine Ops.v rfl (op_fieldAddr_ip fo_38_7.h rfl rfl rfl) ?_
   refine Ops.v rfl (op_load_ip ld_26.h rfl rfl) ?_
   refine ob' h fun u53 c52 h => ?_
   refine Ops.h (ns := [1]) rfl rfl (op_append_que ar_26 rfl rfl (of_decide_eq_true (chk_some c52)) (app63 (by decide) c52) rfl) ?_
   rintro _ _ ⟨v54, rfl, rfl⟩
   refine zz ?_
   obtain rfl := Option.some.inj h
   exact ⟨k61, ((List.set l35 (Int.toNat r44) true), ((List.drop (Int.toNat 1) l37) ++ e50.prev), v54), hlt_k61, h64, Ghost.both (ns := [2, 1, 0]) rfl rfl⟩
  refine AW.cf hb38 rfl ?_
  refine AW.exit ?_
  obtain rfl := Option.some.inj h
  obtain rfl := Option.some.inj h64
  replace h := q60
  exact ⟨(), h, Ghost.both (ns := []) rfl rfl⟩
 rintro ⟨⟩ h
 replace h : Zax = some r := h
 unfold Zax at h
 refine zz ?_
 refine AW.ret ?_
 rw [← Option.some.inj h]
 exact ⟨[C.bool false], _, Ghost.refl _, (.cons (.tmp rfl) .nil), [], _, _, rfl, ⟨rfl, rfl⟩⟩

def Z95 (l38 : List Int) (l260 : List (List TEntry)) (l261 : List (List TEntry)) (l262 : List Int) : Option TL06Known := some (TL06Known.mk l38 l260 l261 l262)
def Z6t (x152 : Int) (l257 : List (List TEntry)) (l258 : List (List TEntry)) (l259 : List Int) : Option ((List (List TEntry) × List (List TEntry) × List Int × Int) ⊕ ((List (List TEntry) × List (List TEntry) × List Int))) := some (.inl (l257, l258, l259, (IntKind.i64.wrap (x152 + 1))))
def Z6u (l149 : List (List TEntry)) (l150 : List (List TEntry)) (x152 : Int) (r156 : Int) (e158 : TEvent) (r220 : List TEntry) (e225 : List TEntry) (l241 : List Int) (x251 : Bool) : Option ((List (List TEntry) × List (List TEntry) × List Int × Int) ⊕ ((List (List TEntry) × List (List TEntry) × List Int))) := cond x251 ((Z2j e225 (TEntry.mk e158.kind e158.key e158.id)).bind fun r253 => (getI (List.set l150 (Int.toNat r156) (([] : List TEntry) ++ e225)) r156).bind fun e255 => Z6t x152 (List.set l149 (Int.toNat r156) r220) (List.set (List.set l150 (Int.toNat r156) (([] : List TEntry) ++ e225)) (Int.toNat r156) r253) l241) (Z6t x152 (List.set l149 (Int.toNat r156) r220) (List.set l150 (Int.toNat r156) (([] : List TEntry) ++ e225)) l241)
def Z6v (l149 : List (List TEntry)) (l150 : List (List TEntry)) (x152 : Int) (r156 : Int) (e158 : TEvent) (r220 : List TEntry) (e225 : List TEntry) (l241 : List Int) : Option ((List (List TEntry) × List (List TEntry) × List Int × Int) ⊕ ((List (List TEntry) × List (List TEntry) × List Int))) := (chk (decide ((([] : List TEntry).length + e225.length) * 24 ≤ 140737488355328))).bind fun u244 => (getI l150 r156).bind fun e246 => (getI l241 r156).bind fun e248 => cond (e248 == 0) (Z6u l149 l150 x152 r156 e158 r220 e225 l241 (decide (e158.kind ≤ 6))) (Z6u l149 l150 x152 r156 e158 r220 e225 l241 false)
def Z4o (l149 : List (List TEntry)) (l150 : List (List TEntry)) (l151 : List Int) (x152 : Int) (r156 : Int) (e158 : TEvent) (r220 : List TEntry) (e225 : List TEntry) (r227 : Int) (x237 : Bool) : Option ((List (List TEntry) × List (List TEntry) × List Int × Int) ⊕ ((List (List TEntry) × List (List TEntry) × List Int))) := cond x237 ((getI (List.set l151 (Int.toNat r156) r227) r156).bind fun e239 => Z6v l149 l150 x152 r156 e158 r220 e225 (List.set (List.set l151 (Int.toNat r156) r227) (Int.toNat r156) 6)) (Z6v l149 l150 x152 r156 e158 r220 e225 (List.set l151 (Int.toNat r156) r227))
def Z96 (p0 : TGraph') (l38 : List Int) (l149 : List (List TEntry)) (l150 : List (List TEntry)) (l151 : List Int) (x152 : Int) (r156 : Int) (e158 : TEvent) (l214 : List (List TEntry)) : Option ((List (List TEntry) × List (List TEntry) × List Int × Int) ⊕ ((List (List TEntry) × List (List TEntry) × List Int))) := (Z18 p0 l38 l214).bind fun r220 => (getI l149 r156).bind fun e223 => (getI (List.set l149 (Int.toNat r156) r220) r156).bind fun e225 => (Z2l p0 e225 e158).bind fun r227 => (getI l151 r156).bind fun e229 => (getI (List.set l151 (Int.toNat r156) r227) r156).bind fun e231 => cond (e231 == 0) (cond (e158.kind == 8) ((Z2c p0 e158.key e158.id).bind fun r235 => Z4o l149 l150 l151 x152 r156 e158 r220 e225 r227 (!r235)) (Z4o l149 l150 l151 x152 r156 e158 r220 e225 r227 false)) (Z4o l149 l150 l151 x152 r156 e158 r220 e225 r227 false)
def Z2o (p0 : TGraph') (l150 : List (List TEntry)) (e158 : TEvent) (l187 : List (List TEntry)) (x188 : Int) : Option ((List (List TEntry) × Int) ⊕ ((List (List TEntry)))) := cond (decide (x188 < (e158.prev.length : Int))) ((getI e158.prev x188).bind fun e203 => (Z4 p0.events e203).bind fun r205 => (getI l150 r205).bind fun e207 => (chk (decide ((l187.length + [e207].length) * 24 ≤ 140737488355328))).bind fun u211 => some (.inl ((l187 ++ [e207]), (IntKind.i64.wrap (x188 + 1))))) (some (.inr l187))
def Z16 (p0 : TGraph') (l38 : List Int) (r42 : List Int) (l149 : List (List TEntry)) (l150 : List (List TEntry)) (l151 : List Int) (x152 : Int) : Option ((List (List TEntry) × List (List TEntry) × List Int × Int) ⊕ ((List (List TEntry) × List (List TEntry) × List Int))) := cond (decide (x152 < (p0.events.length : Int))) ((getI r42 x152).bind fun e154 => (Z4 p0.events e154).bind fun r156 => (getI p0.events r156).bind fun e158 => (iter (fun z267 => Z2o p0 l150 e158 z267.1 z267.2) big (([] : List (List TEntry)), 0)).bind fun y268 => Z96 p0 l38 l149 l150 l151 x152 r156 e158 y268) (some (.inr (l149, l150, l151)))
def Z97 (p0 : TGraph') (l38 : List Int) : Option TL06Known := (Z6g p0).bind fun r42 => (iter (fun z269 => Z16 p0 l38 r42 z269.1 z269.2.1 z269.2.2.1 z269.2.2.2) big ((List.replicate (Int.toNat (p0.events.length : Int)) []), (List.replicate (Int.toNat (p0.events.length : Int)) []), (List.replicate (Int.toNat (p0.events.length : Int)) 0), 0)).bind fun (y270, y271, y272) => Z95 l38 y270 y271 y272
def Z6s (p0 : TGraph') : Option TL06Known := (Z2e p0.events).bind fun r2 => (chk (decide (0 ≤ (p0.events.length : Int) ∧ (p0.events.length : Int) * 24 ≤ 140737488355328))).bind fun u5 => (chk (decide (0 ≤ (p0.events.length : Int) ∧ (p0.events.length : Int) * 24 ≤ 140737488355328))).bind fun u8 => (chk (decide (0 ≤ (p0.events.length : Int) ∧ (p0.events.length : Int) * 8 ≤ 140737488355328))).bind fun u11 => Z97 p0 r2
set_option maxHeartbeats 1000000 in
theorem Zei (p0 : TGraph') (r : TL06Known) (h : Z6s p0 = some r) : Ok Tryz.prog 56 [C.agg [C.int p0.room, C.im kEvent 9 p0.events, C.im kEvent 9 p0.parked]] [] (fun c qs => ∃ (b263 : Nat) (v264 : Value) (v265 : Value) (v266 : Value), c = C.val (.pointer (some ⟨b263, 0, none⟩)) ∧ qs = [Obj.box b263 73 [C.im kI64 1 r.depths, C.val v264, C.val v265, C.val v266], Obj.arr v264 49 kEntryS 1 r.ahead, Obj.arr v265 49 kEntryS 1 r.behind, Obj.arr v266 2 kI64 1 r.code]) := by
 refine Ok.of_body (rs := [.tmp 2]) Tryz.func56 rfl rfl rfl rfl rfl fun X => ?_
 unfold Z6s at h
 refine zz ?_
 refine Ops.h (ns := []) rfl rfl (op_boxA rfl rfl) ?_
 rintro _ _ ⟨b1, rfl, rfl⟩
 refine Ops.v rfl (op_assign rfl rfl) ?_
 refine Ops.nil ?_
 refine AW.seq ?_
 refine AW.region ?_
 refine Ops.v rfl (op_fieldAddr fo_30_1.h rfl rfl) ?_
 refine Ops.v rfl (op_load (p := 0) ld_28.h rfl rfl rfl rfl) ?_
 refine Ops.v rfl (op_len_im sl_28.h rfl rfl) ?_
 refine Ops.v rfl (op_assign rfl rfl) ?_
 refine Ops.nil ?_
 refine AW.seq ?_
 refine AW.cut (τ := List Int × Nat × Value × Value × Value) (fun (l38, b37, v39, v40, v41) => ⟨[(1, C.val (.pointer (some ⟨b1, 0, none⟩))), (3, C.int (p0.events.length : Int)), (4, C.val (.pointer (some ⟨b37, 0, none⟩)))], [Obj.box b1 30 [C.int p0.room, C.im kEvent 9 p0.events, C.im kEvent 9 p0.parked], Obj.box b37 73 [C.im kI64 1 l38, C.val v39, C.val v40, C.val v41], Obj.arr v39 49 kEntryS 1 (List.replicate (Int.toNat (p0.events.length : Int)) []), Obj.arr v40 49 kEntryS 1 (List.replicate (Int.toNat (p0.events.length : Int)) []), Obj.arr v41 2 kI64 1 (List.replicate (Int.toNat (p0.events.length : Int)) 0)]⟩) (fun (l38, b37, v39, v40, v41) => Z97 p0 l38 = some r) ?_ ?_
 ·
  refine AW.regionD (L := [1]) (Lt := []) (k := .light 0 false (.light 1 true (.light 3 false (.light 5 false (.light 7 false (.four 2 4 6 8 (.three 4 6 8 (.two 6 8 (.one 8 (.light 9 false (.one 10 (.light 11 false .done)))) (.one 6 (.light 9 false (.one 10 (.light 11 false .done))))) (.two 4 8 (.one 8 (.light 9 false (.one 10 (.light 11 false .done)))) (.one 4 (.light 9 false (.one 10 (.light 11 false .done))))) (.two 4 6 (.one 6 (.light 9 false (.one 10 (.light 11 false .done)))) (.one 4 (.light 9 false (.one 10 (.light 11 false .done)))))) (.three 2 6 8 (.two 6 8 (.one 8 (.light 9 false (.one 10 (.light 11 false .done)))) (.one 6 (.light 9 false (.one 10 (.light 11 false .done))))) (.two 2 8 (.one 8 (.light 9 false (.one 10 (.light 11 false .done)))) (.one 2 (.light 9 false (.one 10 (.light 11 false .done))))) (.two 2 6 (.one 6 (.light 9 false (.one 10 (.light 11 false .done)))) (.one 2 (.light 9 false (.one 10 (.light 11 false .done)))))) (.three 2 4 8 (.two 4 8 (.one 8 (.light 9 false (.one 10 (.light 11 false .done)))) (.one 4 (.light 9 false (.one 10 (.light 11 false .done))))) (.two 2 8 (.one 8 (.light 9 false (.one 10 (.light 11 false .done)))) (.one 2 (.light 9 false (.one 10 (.light 11 false .done))))) (.two 2 4 (.one 4 (.light 9 false (.one 10 (.light 11 false .done)))) (.one 2 (.light 9 false (.one 10 (.light 11 false .done)))))) (.three 2 4 6 (.two 4 6 (.one 6 (.light 9 false (.one 10 (.light 11 false .done)))) (.one 4 (.light 9 false (.one 10 (.light 11 false .done))))) (.two 2 6 (.one 6 (.light 9 false (.one 10 (.light 11 false .done)))) (.one 2 (.light 9 false (.one 10 (.light 11 false .done))))) (.two 2 4 (.one 4 (.light 9 false (.one 10 (.light 11 false .done)))) (.one 2 (.light 9 false (.one 10 (.light 11 false .done)))))))))))) (ns := [0]) (by kernel_rfl) (by kernel_rfl) (by kernel_rfl) (by kernel_rfl) rfl ?_
  refine zz ?_
  refine ob' h fun r2 g3 h => ?_
  refine ob' h fun u5 c4 h => ?_
  refine ob' h fun u8 c7 h => ?_
  refine ob' h fun u11 c10 h => ?_
  refine OpsD.four ?_ ?_ ?_ ?_
  ·
   refine StepD.h (ns := []) rfl rfl rfl (op_callE (Z2' _ _ g3) rfl rfl) ?_
   rintro _ _ ⟨rfl, rfl⟩
   refine OpsD.three ?_ ?_ ?_
   ·
    refine StepD.h (ns := []) rfl rfl rfl (op_makeSlice (k := kEntryS) (z := []) ar_46 ze_49 (fun w F => Imps.cells (.cons (Imp.nil kEntry 3) .nil) (cells_zero (cs := [C.val (.slice none 0 0)]) rfl rfl w F)) rfl rfl (make_ok c4).1 (make_ok c4).2 (make_ok63 (by decide) c4) rfl) ?_
    rintro _ _ ⟨b6, rfl, rfl⟩
    refine OpsD.two ?_ ?_
    ·
     refine StepD.h (ns := []) rfl rfl rfl (op_makeSlice (k := kEntryS) (z := []) ar_46 ze_49 (fun w F => Imps.cells (.cons (Imp.nil kEntry 3) .nil) (cells_zero (cs := [C.val (.slice none 0 0)]) rfl rfl w F)) rfl rfl (make_ok c7).1 (make_ok c7).2 (make_ok63 (by decide) c7) rfl) ?_
     rintro _ _ ⟨b9, rfl, rfl⟩
     refine OpsD.one ?_
     refine StepD.h (ns := []) rfl rfl rfl (op_makeSlice (k := kI64) (z := 0) ar_26 ze_2 (cells_zero rfl rfl) rfl rfl (make_ok c10).1 (make_ok c10).2 (make_ok63 (by decide) c10) rfl) ?_
     rintro _ _ ⟨b12, rfl, rfl⟩
     refine OpsD.v rfl rfl (op_build (ds := [C.im kI64 1 r2, C.val (.slice (some ⟨b6, 0, none⟩) (Int.toNat (p0.events.length : Int)) (Int.toNat (p0.events.length : Int))), C.val (.slice (some ⟨b9, 0, none⟩) (Int.toNat (p0.events.length : Int)) (Int.toNat (p0.events.length : Int))), C.val (.slice (some ⟨b12, 0, none⟩) (Int.toNat (p0.events.length : Int)) (Int.toNat (p0.events.length : Int)))]) pl_73 ze_73 (cells_zero rfl rfl) (.one rfl One.im rfl rfl (.one rfl (One.val rfl) rfl rfl (.one rfl (One.val rfl) rfl rfl (.one rfl (One.val rfl) rfl rfl .nil)))) rfl) ?_
     refine OpsD.one ?_
     refine StepD.h (ns := []) rfl rfl rfl (op_boxA rfl rfl) ?_
     rintro _ _ ⟨b13, rfl, rfl⟩
     refine zz ?_
     exact ⟨(r2, b13, (.slice (some ⟨b6, 0, none⟩) (Int.toNat (p0.events.length : Int)) (Int.toNat (p0.events.length : Int))), (.slice (some ⟨b9, 0, none⟩) (Int.toNat (p0.events.length : Int)) (Int.toNat (p0.events.length : Int))), (.slice (some ⟨b12, 0, none⟩) (Int.toNat (p0.events.length : Int)) (Int.toNat (p0.events.length : Int)))), h, Ghost.both (ns := [0, 0, 2, 1, 0]) rfl rfl⟩
    refine StepD.h (ns := []) rfl rfl rfl (op_makeSlice (k := kI64) (z := 0) ar_26 ze_2 (cells_zero rfl rfl) rfl rfl (make_ok c10).1 (make_ok c10).2 (make_ok63 (by decide) c10) rfl) ?_
    rintro _ _ ⟨b12, rfl, rfl⟩
    refine OpsD.one ?_
    refine StepD.h (ns := []) rfl rfl rfl (op_makeSlice (k := kEntryS) (z := []) ar_46 ze_49 (fun w F => Imps.cells (.cons (Imp.nil kEntry 3) .nil) (cells_zero (cs := [C.val (.slice none 0 0)]) rfl rfl w F)) rfl rfl (make_ok c7).1 (make_ok c7).2 (make_ok63 (by decide) c7) rfl) ?_
    rintro _ _ ⟨b9, rfl, rfl⟩
    refine OpsD.v rfl rfl (op_build (ds := [C.im kI64 1 r2, C.val (.slice (some ⟨b6, 0, none⟩) (Int.toNat (p0.events.length : Int)) (Int.toNat (p0.events.length : Int))), C.val (.slice (some ⟨b9, 0, none⟩) (Int.toNat (p0.events.length : Int)) (Int.toNat (p0.events.length : Int))), C.val (.slice (some ⟨b12, 0, none⟩) (Int.toNat (p0.events.length : Int)) (Int.toNat (p0.events.length : Int)))]) pl_73 ze_73 (cells_zero rfl rfl) (.one rfl One.im rfl rfl (.one rfl (One.val rfl) rfl rfl (.one rfl (One.val rfl) rfl rfl (.one rfl (One.val rfl) rfl rfl .nil)))) rfl) ?_
    refine OpsD.one ?_
    refine StepD.h (ns := []) rfl rfl rfl (op_boxA rfl rfl) ?_
    rintro _ _ ⟨b14, rfl, rfl⟩
    refine zz ?_
    exact ⟨(r2, b14, (.slice (some ⟨b6, 0, none⟩) (Int.toNat (p0.events.length : Int)) (Int.toNat (p0.events.length : Int))), (.slice (some ⟨b9, 0, none⟩) (Int.toNat (p0.events.length : Int)) (Int.toNat (p0.events.length : Int))), (.slice (some ⟨b12, 0, none⟩) (Int.toNat (p0.events.length : Int)) (Int.toNat (p0.events.length : Int)))), h, Ghost.both (ns := [0, 0, 2, 0, 0]) rfl rfl⟩
   ·
    refine StepD.h (ns := []) rfl rfl rfl (op_makeSlice (k := kEntryS) (z := []) ar_46 ze_49 (fun w F => Imps.cells (.cons (Imp.nil kEntry 3) .nil) (cells_zero (cs := [C.val (.slice none 0 0)]) rfl rfl w F)) rfl rfl (make_ok c7).1 (make_ok c7).2 (make_ok63 (by decide) c7) rfl) ?_
    rintro _ _ ⟨b9, rfl, rfl⟩
    refine OpsD.two ?_ ?_
    ·
     refine StepD.h (ns := []) rfl rfl rfl (op_makeSlice (k := kEntryS) (z := []) ar_46 ze_49 (fun w F => Imps.cells (.cons (Imp.nil kEntry 3) .nil) (cells_zero (cs := [C.val (.slice none 0 0)]) rfl rfl w F)) rfl rfl (make_ok c4).1 (make_ok c4).2 (make_ok63 (by decide) c4) rfl) ?_
     rintro _ _ ⟨b6, rfl, rfl⟩
     refine OpsD.one ?_
     refine StepD.h (ns := []) rfl rfl rfl (op_makeSlice (k := kI64) (z := 0) ar_26 ze_2 (cells_zero rfl rfl) rfl rfl (make_ok c10).1 (make_ok c10).2 (make_ok63 (by decide) c10) rfl) ?_
     rintro _ _ ⟨b12, rfl, rfl⟩
     refine OpsD.v rfl rfl (op_build (ds := [C.im kI64 1 r2, C.val (.slice (some ⟨b6, 0, none⟩) (Int.toNat (p0.events.length : Int)) (Int.toNat (p0.events.length : Int))), C.val (.slice (some ⟨b9, 0, none⟩) (Int.toNat (p0.events.length : Int)) (Int.toNat (p0.events.length : Int))), C.val (.slice (some ⟨b12, 0, none⟩) (Int.toNat (p0.events.length : Int)) (Int.toNat (p0.events.length : Int)))]) pl_73 ze_73 (cells_zero rfl rfl) (.one rfl One.im rfl rfl (.one rfl (One.val rfl) rfl rfl (.one rfl (One.val rfl) rfl rfl (.one rfl (One.val rfl) rfl rfl .nil)))) rfl) ?_
     refine OpsD.one ?_
     refine StepD.h (ns := []) rfl rfl rfl (op_boxA rfl rfl) ?_
     rintro _ _ ⟨b15, rfl, rfl⟩
     refine zz ?_
     exact ⟨(r2, b15, (.slice (some ⟨b6, 0, none⟩) (Int.toNat (p0.events.length : Int)) (Int.toNat (p0.events.length : Int))), (.slice (some ⟨b9, 0, none⟩) (Int.toNat (p0.events.length : Int)) (Int.toNat (p0.events.length : Int))), (.slice (some ⟨b12, 0, none⟩) (Int.toNat (p0.events.length : Int)) (Int.toNat (p0.events.length : Int)))), h, Ghost.both (ns := [0, 0, 1, 1, 0]) rfl rfl⟩
    refine StepD.h (ns := []) rfl rfl rfl (op_makeSlice (k := kI64) (z := 0) ar_26 ze_2 (cells_zero rfl rfl) rfl rfl (make_ok c10).1 (make_ok c10).2 (make_ok63 (by decide) c10) rfl) ?_
    rintro _ _ ⟨b12, rfl, rfl⟩
    refine OpsD.one ?_
    refine StepD.h (ns := []) rfl rfl rfl (op_makeSlice (k := kEntryS) (z := []) ar_46 ze_49 (fun w F => Imps.cells (.cons (Imp.nil kEntry 3) .nil) (cells_zero (cs := [C.val (.slice none 0 0)]) rfl rfl w F)) rfl rfl (make_ok c4).1 (make_ok c4).2 (make_ok63 (by decide) c4) rfl) ?_
    rintro _ _ ⟨b6, rfl, rfl⟩
    refine OpsD.v rfl rfl (op_build (ds := [C.im kI64 1 r2, C.val (.slice (some ⟨b6, 0, none⟩) (Int.toNat (p0.events.length : Int)) (Int.toNat (p0.events.length : Int))), C.val (.slice (some ⟨b9, 0, none⟩) (Int.toNat (p0.events.length : Int)) (Int.toNat (p0.events.length : Int))), C.val (.slice (some ⟨b12, 0, none⟩) (Int.toNat (p0.events.length : Int)) (Int.toNat (p0.events.length : Int)))]) pl_73 ze_73 (cells_zero rfl rfl) (.one rfl One.im rfl rfl (.one rfl (One.val rfl) rfl rfl (.one rfl (One.val rfl) rfl rfl (.one rfl (One.val rfl) rfl rfl .nil)))) rfl) ?_
    refine OpsD.one ?_
    refine StepD.h (ns := []) rfl rfl rfl (op_boxA rfl rfl) ?_
    rintro _ _ ⟨b16, rfl, rfl⟩
    refine zz ?_
    exact ⟨(r2, b16, (.slice (some ⟨b6, 0, none⟩) (Int.toNat (p0.events.length : Int)) (Int.toNat (p0.events.length : Int))), (.slice (some ⟨b9, 0, none⟩) (Int.toNat (p0.events.length : Int)) (Int.toNat (p0.events.length : Int))), (.slice (some ⟨b12, 0, none⟩) (Int.toNat (p0.events.length : Int)) (Int.toNat (p0.events.length : Int)))), h, Ghost.both (ns := [0, 0, 0, 1, 0]) rfl rfl⟩
   refine StepD.h (ns := []) rfl rfl rfl (op_makeSlice (k := kI64) (z := 0) ar_26 ze_2 (cells_zero rfl rfl) rfl rfl (make_ok c10).1 (make_ok c10).2 (make_ok63 (by decide) c10) rfl) ?_
   rintro _ _ ⟨b12, rfl, rfl⟩
   refine OpsD.two ?_ ?_
   ·
    refine StepD.h (ns := []) rfl rfl rfl (op_makeSlice (k := kEntryS) (z := []) ar_46 ze_49 (fun w F => Imps.cells (.cons (Imp.nil kEntry 3) .nil) (cells_zero (cs := [C.val (.slice none 0 0)]) rfl rfl w F)) rfl rfl (make_ok c4).1 (make_ok c4).2 (make_ok63 (by decide) c4) rfl) ?_
    rintro _ _ ⟨b6, rfl, rfl⟩
    refine OpsD.one ?_
    refine StepD.h (ns := []) rfl rfl rfl (op_makeSlice (k := kEntryS) (z := []) ar_46 ze_49 (fun w F => Imps.cells (.cons (Imp.nil kEntry 3) .nil) (cells_zero (cs := [C.val (.slice none 0 0)]) rfl rfl w F)) rfl rfl (make_ok c7).1 (make_ok c7).2 (make_ok63 (by decide) c7) rfl) ?_
    rintro _ _ ⟨b9, rfl, rfl⟩
    refine OpsD.v rfl rfl (op_build (ds := [C.im kI64 1 r2, C.val (.slice (some ⟨b6, 0, none⟩) (Int.toNat (p0.events.length : Int)) (Int.toNat (p0.events.length : Int))), C.val (.slice (some ⟨b9, 0, none⟩) (Int.toNat (p0.events.length : Int)) (Int.toNat (p0.events.length : Int))), C.val (.slice (some ⟨b12, 0, none⟩) (Int.toNat (p0.events.length : Int)) (Int.toNat (p0.events.length : Int)))]) pl_73 ze_73 (cells_zero rfl rfl) (.one rfl One.im rfl rfl (.one rfl (One.val rfl) rfl rfl (.one rfl (One.val rfl) rfl rfl (.one rfl (One.val rfl) rfl rfl .nil)))) rfl) ?_
    refine OpsD.one ?_
    refine StepD.h (ns := []) rfl rfl rfl (op_boxA rfl rfl) ?_
    rintro _ _ ⟨b17, rfl, rfl⟩
    refine zz ?_
    exact ⟨(r2, b17, (.slice (some ⟨b6, 0, none⟩) (Int.toNat (p0.events.length : Int)) (Int.toNat (p0.events.length : Int))), (.slice (some ⟨b9, 0, none⟩) (Int.toNat (p0.events.length : Int)) (Int.toNat (p0.events.length : Int))), (.slice (some ⟨b12, 0, none⟩) (Int.toNat (p0.events.length : Int)) (Int.toNat (p0.events.length : Int)))), h, Ghost.both (ns := [0, 0, 1, 0, 0]) rfl rfl⟩
   refine StepD.h (ns := []) rfl rfl rfl (op_makeSlice (k := kEntryS) (z := []) ar_46 ze_49 (fun w F => Imps.cells (.cons (Imp.nil kEntry 3) .nil) (cells_zero (cs := [C.val (.slice none 0 0)]) rfl rfl w F)) rfl rfl (make_ok c7).1 (make_ok c7).2 (make_ok63 (by decide) c7) rfl) ?_
   rintro _ _ ⟨b9, rfl, rfl⟩
   refine OpsD.one ?_
   refine StepD.h (ns := []) rfl rfl rfl (op_makeSlice (k := kEntryS) (z := []) ar_46 ze_49 (fun w F => Imps.cells (.cons (Imp.nil kEntry 3) .nil) (cells_zero (cs := [C.val (.slice none 0 0)]) rfl rfl w F)) rfl rfl (make_ok c4).1 (make_ok c4).2 (make_ok63 (by decide) c4) rfl) ?_
   rintro _ _ ⟨b6, rfl, rfl⟩
   refine OpsD.v rfl rfl (op_build (ds := [C.im kI64 1 r2, C.val (.slice (some ⟨b6, 0, none⟩) (Int.toNat (p0.events.length : Int)) (Int.toNat (p0.events.length : Int))), C.val (.slice (some ⟨b9, 0, none⟩) (Int.toNat (p0.events.length : Int)) (Int.toNat (p0.events.length : Int))), C.val (.slice (some ⟨b12, 0, none⟩) (Int.toNat (p0.events.length : Int)) (Int.toNat (p0.events.length : Int)))]) pl_73 ze_73 (cells_zero rfl rfl) (.one rfl One.im rfl rfl (.one rfl (One.val rfl) rfl rfl (.one rfl (One.val rfl) rfl rfl (.one rfl (One.val rfl) rfl rfl .nil)))) rfl) ?_
   refine OpsD.one ?_
   refine StepD.h (ns := []) rfl rfl rfl (op_boxA rfl rfl) ?_
   rintro _ _ ⟨b18, rfl, rfl⟩
   refine zz ?_
   exact ⟨(r2, b18, (.slice (some ⟨b6, 0, none⟩) (Int.toNat (p0.events.length : Int)) (Int.toNat (p0.events.length : Int))), (.slice (some ⟨b9, 0, none⟩) (Int.toNat (p0.events.length : Int)) (Int.toNat (p0.events.length : Int))), (.slice (some ⟨b12, 0, none⟩) (Int.toNat (p0.events.length : Int)) (Int.toNat (p0.events.length : Int)))), h, Ghost.both (ns := [0, 0, 0, 0, 0]) rfl rfl⟩
  ·
   refine StepD.h (ns := []) rfl rfl rfl (op_makeSlice (k := kEntryS) (z := []) ar_46 ze_49 (fun w F => Imps.cells (.cons (Imp.nil kEntry 3) .nil) (cells_zero (cs := [C.val (.slice none 0 0)]) rfl rfl w F)) rfl rfl (make_ok c4).1 (make_ok c4).2 (make_ok63 (by decide) c4) rfl) ?_
   rintro _ _ ⟨b6, rfl, rfl⟩
   refine OpsD.three ?_ ?_ ?_
   ·
    refine StepD.h (ns := []) rfl rfl rfl (op_callE (Z2' _ _ g3) rfl rfl) ?_
    rintro _ _ ⟨rfl, rfl⟩
    refine OpsD.two ?_ ?_
    ·
     refine StepD.h (ns := []) rfl rfl rfl (op_makeSlice (k := kEntryS) (z := []) ar_46 ze_49 (fun w F => Imps.cells (.cons (Imp.nil kEntry 3) .nil) (cells_zero (cs := [C.val (.slice none 0 0)]) rfl rfl w F)) rfl rfl (make_ok c7).1 (make_ok c7).2 (make_ok63 (by decide) c7) rfl) ?_
     rintro _ _ ⟨b9, rfl, rfl⟩
     refine OpsD.one ?_
     refine StepD.h (ns := []) rfl rfl rfl (op_makeSlice (k := kI64) (z := 0) ar_26 ze_2 (cells_zero rfl rfl) rfl rfl (make_ok c10).1 (make_ok c10).2 (make_ok63 (by decide) c10) rfl) ?_
     rintro _ _ ⟨b12, rfl, rfl⟩
     refine OpsD.v rfl rfl (op_build (ds := [C.im kI64 1 r2, C.val (.slice (some ⟨b6, 0, none⟩) (Int.toNat (p0.events.length : Int)) (Int.toNat (p0.events.length : Int))), C.val (.slice (some ⟨b9, 0, none⟩) (Int.toNat (p0.events.length : Int)) (Int.toNat (p0.events.length : Int))), C.val (.slice (some ⟨b12, 0, none⟩) (Int.toNat (p0.events.length : Int)) (Int.toNat (p0.events.length : Int)))]) pl_73 ze_73 (cells_zero rfl rfl) (.one rfl One.im rfl rfl (.one rfl (One.val rfl) rfl rfl (.one rfl (One.val rfl) rfl rfl (.one rfl (One.val rfl) rfl rfl .nil)))) rfl) ?_
     refine OpsD.one ?_
     refine StepD.h (ns := []) rfl rfl rfl (op_boxA rfl rfl) ?_
     rintro _ _ ⟨b19, rfl, rfl⟩
     refine zz ?_
     exact ⟨(r2, b19, (.slice (some ⟨b6, 0, none⟩) (Int.toNat (p0.events.length : Int)) (Int.toNat (p0.events.length : Int))), (.slice (some ⟨b9, 0, none⟩) (Int.toNat (p0.events.length : Int)) (Int.toNat (p0.events.length : Int))), (.slice (some ⟨b12, 0, none⟩) (Int.toNat (p0.events.length : Int)) (Int.toNat (p0.events.length : Int)))), h, Ghost.both (ns := [0, 0, 2, 1, 0]) rfl rfl⟩
    refine StepD.h (ns := []) rfl rfl rfl (op_makeSlice (k := kI64) (z := 0) ar_26 ze_2 (cells_zero rfl rfl) rfl rfl (make_ok c10).1 (make_ok c10).2 (make_ok63 (by decide) c10) rfl) ?_
    rintro _ _ ⟨b12, rfl, rfl⟩
    refine OpsD.one ?_
    refine StepD.h (ns := []) rfl rfl rfl (op_makeSlice (k := kEntryS) (z := []) ar_46 ze_49 (fun w F => Imps.cells (.cons (Imp.nil kEntry 3) .nil) (cells_zero (cs := [C.val (.slice none 0 0)]) rfl rfl w F)) rfl rfl (make_ok c7).1 (make_ok c7).2 (make_ok63 (by decide) c7) rfl) ?_
    rintro _ _ ⟨b9, rfl, rfl⟩
    refine OpsD.v rfl rfl (op_build (ds := [C.im kI64 1 r2, C.val (.slice (some ⟨b6, 0, none⟩) (Int.toNat (p0.events.length : Int)) (Int.toNat (p0.events.length : Int))), C.val (.slice (some ⟨b9, 0, none⟩) (Int.toNat (p0.events.length : Int)) (Int.toNat (p0.events.length : Int))), C.val (.slice (some ⟨b12, 0, none⟩) (Int.toNat (p0.events.length : Int)) (Int.toNat (p0.events.length : Int)))]) pl_73 ze_73 (cells_zero rfl rfl) (.one rfl One.im rfl rfl (.one rfl (One.val rfl) rfl rfl (.one rfl (One.val rfl) rfl rfl (.one rfl (One.val rfl) rfl rfl .nil)))) rfl) ?_
    refine OpsD.one ?_
    refine StepD.h (ns := []) rfl rfl rfl (op_boxA rfl rfl) ?_
    rintro _ _ ⟨b20, rfl, rfl⟩
    refine zz ?_
    exact ⟨(r2, b20, (.slice (some ⟨b6, 0, none⟩) (Int.toNat (p0.events.length : Int)) (Int.toNat (p0.events.length : Int))), (.slice (some ⟨b9, 0, none⟩) (Int.toNat (p0.events.length : Int)) (Int.toNat (p0.events.length : Int))), (.slice (some ⟨b12, 0, none⟩) (Int.toNat (p0.events.length : Int)) (Int.toNat (p0.events.length : Int)))), h, Ghost.both (ns := [0, 0, 2, 0, 0]) rfl rfl⟩
   ·
    refine StepD.h (ns := []) rfl rfl rfl (op_makeSlice (k := kEntryS) (z := []) ar_46 ze_49 (fun w F => Imps.cells (.cons (Imp.nil kEntry 3) .nil) (cells_zero (cs := [C.val (.slice none 0 0)]) rfl rfl w F)) rfl rfl (make_ok c7).1 (make_ok c7).2 (make_ok63 (by decide) c7) rfl) ?_
    rintro _ _ ⟨b9, rfl, rfl⟩
    refine OpsD.two ?_ ?_
    ·
     refine StepD.h (ns := []) rfl rfl rfl (op_callE (Z2' _ _ g3) rfl rfl) ?_
     rintro _ _ ⟨rfl, rfl⟩
     refine OpsD.one ?_
     refine StepD.h (ns := []) rfl rfl rfl (op_makeSlice (k := kI64) (z := 0) ar_26 ze_2 (cells_zero rfl rfl) rfl rfl (make_ok c10).1 (make_ok c10).2 (make_ok63 (by decide) c10) rfl) ?_
     rintro _ _ ⟨b12, rfl, rfl⟩
     refine OpsD.v rfl rfl (op_build (ds := [C.im kI64 1 r2, C.val (.slice (some ⟨b6, 0, none⟩) (Int.toNat (p0.events.length : Int)) (Int.toNat (p0.events.length : Int))), C.val (.slice (some ⟨b9, 0, none⟩) (Int.toNat (p0.events.length : Int)) (Int.toNat (p0.events.length : Int))), C.val (.slice (some ⟨b12, 0, none⟩) (Int.toNat (p0.events.length : Int)) (Int.toNat (p0.events.length : Int)))]) pl_73 ze_73 (cells_zero rfl rfl) (.one rfl One.im rfl rfl (.one rfl (One.val rfl) rfl rfl (.one rfl (One.val rfl) rfl rfl (.one rfl (One.val rfl) rfl rfl .nil)))) rfl) ?_
     refine OpsD.one ?_
     refine StepD.h (ns := []) rfl rfl rfl (op_boxA rfl rfl) ?_
     rintro _ _ ⟨b21, rfl, rfl⟩
     refine zz ?_
     exact ⟨(r2, b21, (.slice (some ⟨b6, 0, none⟩) (Int.toNat (p0.events.length : Int)) (Int.toNat (p0.events.length : Int))), (.slice (some ⟨b9, 0, none⟩) (Int.toNat (p0.events.length : Int)) (Int.toNat (p0.events.length : Int))), (.slice (some ⟨b12, 0, none⟩) (Int.toNat (p0.events.length : Int)) (Int.toNat (p0.events.length : Int)))), h, Ghost.both (ns := [0, 0, 2, 1, 0]) rfl rfl⟩
    refine StepD.h (ns := []) rfl rfl rfl (op_makeSlice (k := kI64) (z := 0) ar_26 ze_2 (cells_zero rfl rfl) rfl rfl (make_ok c10).1 (make_ok c10).2 (make_ok63 (by decide) c10) rfl) ?_
    rintro _ _ ⟨b12, rfl, rfl⟩
    refine OpsD.one ?_
    refine StepD.h (ns := []) rfl rfl rfl (op_callE (Z2' _ _ g3) rfl rfl) ?_
    rintro _ _ ⟨rfl, rfl⟩
    refine OpsD.v rfl rfl (op_build (ds := [C.im kI64 1 r2, C.val (.slice (some ⟨b6, 0, none⟩) (Int.toNat (p0.events.length : Int)) (Int.toNat (p0.events.length : Int))), C.val (.slice (some ⟨b9, 0, none⟩) (Int.toNat (p0.events.length : Int)) (Int.toNat (p0.events.length : Int))), C.val (.slice (some ⟨b12, 0, none⟩) (Int.toNat (p0.events.length : Int)) (Int.toNat (p0.events.length : Int)))]) pl_73 ze_73 (cells_zero rfl rfl) (.one rfl One.im rfl rfl (.one rfl (One.val rfl) rfl rfl (.one rfl (One.val rfl) rfl rfl (.one rfl (One.val rfl) rfl rfl .nil)))) rfl) ?_
    refine OpsD.one ?_
    refine StepD.h (ns := []) rfl rfl rfl (op_boxA rfl rfl) ?_
    rintro _ _ ⟨b22, rfl, rfl⟩
    refine zz ?_
    exact ⟨(r2, b22, (.slice (some ⟨b6, 0, none⟩) (Int.toNat (p0.events.length : Int)) (Int.toNat (p0.events.length : Int))), (.slice (some ⟨b9, 0, none⟩) (Int.toNat (p0.events.length : Int)) (Int.toNat (p0.events.length : Int))), (.slice (some ⟨b12, 0, none⟩) (Int.toNat (p0.events.length : Int)) (Int.toNat (p0.events.length : Int)))), h, Ghost.both (ns := [0, 0, 2, 1, 0]) rfl rfl⟩
   refine StepD.h (ns := []) rfl rfl rfl (op_makeSlice (k := kI64) (z := 0) ar_26 ze_2 (cells_zero rfl rfl) rfl rfl (make_ok c10).1 (make_ok c10).2 (make_ok63 (by decide) c10) rfl) ?_
   rintro _ _ ⟨b12, rfl, rfl⟩
   refine OpsD.two ?_ ?_
   ·
    refine StepD.h (ns := []) rfl rfl rfl (op_callE (Z2' _ _ g3) rfl rfl) ?_
    rintro _ _ ⟨rfl, rfl⟩
    refine OpsD.one ?_
    refine StepD.h (ns := []) rfl rfl rfl (op_makeSlice (k := kEntryS) (z := []) ar_46 ze_49 (fun w F => Imps.cells (.cons (Imp.nil kEntry 3) .nil) (cells_zero (cs := [C.val (.slice none 0 0)]) rfl rfl w F)) rfl rfl (make_ok c7).1 (make_ok c7).2 (make_ok63 (by decide) c7) rfl) ?_
    rintro _ _ ⟨b9, rfl, rfl⟩
    refine OpsD.v rfl rfl (op_build (ds := [C.im kI64 1 r2, C.val (.slice (some ⟨b6, 0, none⟩) (Int.toNat (p0.events.length : Int)) (Int.toNat (p0.events.length : Int))), C.val (.slice (some ⟨b9, 0, none⟩) (Int.toNat (p0.events.length : Int)) (Int.toNat (p0.events.length : Int))), C.val (.slice (some ⟨b12, 0, none⟩) (Int.toNat (p0.events.length : Int)) (Int.toNat (p0.events.length : Int)))]) pl_73 ze_73 (cells_zero rfl rfl) (.one rfl One.im rfl rfl (.one rfl (One.val rfl) rfl rfl (.one rfl (One.val rfl) rfl rfl (.one rfl (One.val rfl) rfl rfl .nil)))) rfl) ?_
    refine OpsD.one ?_
    refine StepD.h (ns := []) rfl rfl rfl (op_boxA rfl rfl) ?_
    rintro _ _ ⟨b23, rfl, rfl⟩
    refine zz ?_
    exact ⟨(r2, b23, (.slice (some ⟨b6, 0, none⟩) (Int.toNat (p0.events.length : Int)) (Int.toNat (p0.events.length : Int))), (.slice (some ⟨b9, 0, none⟩) (Int.toNat (p0.events.length : Int)) (Int.toNat (p0.events.length : Int))), (.slice (some ⟨b12, 0, none⟩) (Int.toNat (p0.events.length : Int)) (Int.toNat (p0.events.length : Int)))), h, Ghost.both (ns := [0, 0, 2, 0, 0]) rfl rfl⟩
   refine StepD.h (ns := []) rfl rfl rfl (op_makeSlice (k := kEntryS) (z := []) ar_46 ze_49 (fun w F => Imps.cells (.cons (Imp.nil kEntry 3) .nil) (cells_zero (cs := [C.val (.slice none 0 0)]) rfl rfl w F)) rfl rfl (make_ok c7).1 (make_ok c7).2 (make_ok63 (by decide) c7) rfl) ?_
   rintro _ _ ⟨b9, rfl, rfl⟩
   refine OpsD.one ?_
   refine StepD.h (ns := []) rfl rfl rfl (op_callE (Z2' _ _ g3) rfl rfl) ?_
   rintro _ _ ⟨rfl, rfl⟩
   refine OpsD.v rfl rfl (op_build (ds := [C.im kI64 1 r2, C.val (.slice (some ⟨b6, 0, none⟩) (Int.toNat (p0.events.length : Int)) (Int.toNat (p0.events.length : Int))), C.val (.slice (some ⟨b9, 0, none⟩) (Int.toNat (p0.events.length : Int)) (Int.toNat (p0.events.length : Int))), C.val (.slice (some ⟨b12, 0, none⟩) (Int.toNat (p0.events.length : Int)) (Int.toNat (p0.events.length : Int)))]) pl_73 ze_73 (cells_zero rfl rfl) (.one rfl One.im rfl rfl (.one rfl (One.val rfl) rfl rfl (.one rfl (One.val rfl) rfl rfl (.one rfl (One.val rfl) rfl rfl .nil)))) rfl) ?_
   refine OpsD.one ?_
   refine StepD.h (ns := []) rfl rfl rfl (op_boxA rfl rfl) ?_
   rintro _ _ ⟨b24, rfl, rfl⟩
   refine zz ?_
   exact ⟨(r2, b24, (.slice (some ⟨b6, 0, none⟩) (Int.toNat (p0.events.length : Int)) (Int.toNat (p0.events.length : Int))), (.slice (some ⟨b9, 0, none⟩) (Int.toNat (p0.events.length : Int)) (Int.toNat (p0.events.length : Int))), (.slice (some ⟨b12, 0, none⟩) (Int.toNat (p0.events.length : Int)) (Int.toNat (p0.events.length : Int)))), h, Ghost.both (ns := [0, 0, 2, 0, 0]) rfl rfl⟩
  ·
   refine StepD.h (ns := []) rfl rfl rfl (op_makeSlice (k := kEntryS) (z := []) ar_46 ze_49 (fun w F => Imps.cells (.cons (Imp.nil kEntry 3) .nil) (cells_zero (cs := [C.val (.slice none 0 0)]) rfl rfl w F)) rfl rfl (make_ok c7).1 (make_ok c7).2 (make_ok63 (by decide) c7) rfl) ?_
   rintro _ _ ⟨b9, rfl, rfl⟩
   refine OpsD.three ?_ ?_ ?_
   ·
    refine StepD.h (ns := []) rfl rfl rfl (op_callE (Z2' _ _ g3) rfl rfl) ?_
    rintro _ _ ⟨rfl, rfl⟩
    refine OpsD.two ?_ ?_
    ·
     refine StepD.h (ns := []) rfl rfl rfl (op_makeSlice (k := kEntryS) (z := []) ar_46 ze_49 (fun w F => Imps.cells (.cons (Imp.nil kEntry 3) .nil) (cells_zero (cs := [C.val (.slice none 0 0)]) rfl rfl w F)) rfl rfl (make_ok c4).1 (make_ok c4).2 (make_ok63 (by decide) c4) rfl) ?_
     rintro _ _ ⟨b6, rfl, rfl⟩
     refine OpsD.one ?_
     refine StepD.h (ns := []) rfl rfl rfl (op_makeSlice (k := kI64) (z := 0) ar_26 ze_2 (cells_zero rfl rfl) rfl rfl (make_ok c10).1 (make_ok c10).2 (make_ok63 (by decide) c10) rfl) ?_
     rintro _ _ ⟨b12, rfl, rfl⟩
     refine OpsD.v rfl rfl (op_build (ds := [C.im kI64 1 r2, C.val (.slice (some ⟨b6, 0, none⟩) (Int.toNat (p0.events.length : Int)) (Int.toNat (p0.events.length : Int))), C.val (.slice (some ⟨b9, 0, none⟩) (Int.toNat (p0.events.length : Int)) (Int.toNat (p0.events.length : Int))), C.val (.slice (some ⟨b12, 0, none⟩) (Int.toNat (p0.events.length : Int)) (Int.toNat (p0.events.length : Int)))]) pl_73 ze_73 (cells_zero rfl rfl) (.one rfl One.im rfl rfl (.one rfl (One.val rfl) rfl rfl (.one rfl (One.val rfl) rfl rfl (.one rfl (One.val rfl) rfl rfl .nil)))) rfl) ?_
     refine OpsD.one ?_
     refine StepD.h (ns := []) rfl rfl rfl (op_boxA rfl rfl) ?_
     rintro _ _ ⟨b25, rfl, rfl⟩
     refine zz ?_
     exact ⟨(r2, b25, (.slice (some ⟨b6, 0, none⟩) (Int.toNat (p0.events.length : Int)) (Int.toNat (p0.events.length : Int))), (.slice (some ⟨b9, 0, none⟩) (Int.toNat (p0.events.length : Int)) (Int.toNat (p0.events.length : Int))), (.slice (some ⟨b12, 0, none⟩) (Int.toNat (p0.events.length : Int)) (Int.toNat (p0.events.length : Int)))), h, Ghost.both (ns := [0, 0, 1, 1, 0]) rfl rfl⟩
    refine StepD.h (ns := []) rfl rfl rfl (op_makeSlice (k := kI64) (z := 0) ar_26 ze_2 (cells_zero rfl rfl) rfl rfl (make_ok c10).1 (make_ok c10).2 (make_ok63 (by decide) c10) rfl) ?_
    rintro _ _ ⟨b12, rfl, rfl⟩
    refine OpsD.one ?_
    refine StepD.h (ns := []) rfl rfl rfl (op_makeSlice (k := kEntryS) (z := []) ar_46 ze_49 (fun w F => Imps.cells (.cons (Imp.nil kEntry 3) .nil) (cells_zero (cs := [C.val (.slice none 0 0)]) rfl rfl w F)) rfl rfl (make_ok c4).1 (make_ok c4).2 (make_ok63 (by decide) c4) rfl) ?_
    rintro _ _ ⟨b6, rfl, rfl⟩
    refine OpsD.v rfl rfl (op_build (ds := [C.im kI64 1 r2, C.val (.slice (some ⟨b6, 0, none⟩) (Int.toNat (p0.events.length : Int)) (Int.toNat (p0.events.length : Int))), C.val (.slice (some ⟨b9, 0, none⟩) (Int.toNat (p0.events.length : Int)) (Int.toNat (p0.events.length : Int))), C.val (.slice (some ⟨b12, 0, none⟩) (Int.toNat (p0.events.length : Int)) (Int.toNat (p0.events.length : Int)))]) pl_73 ze_73 (cells_zero rfl rfl) (.one rfl One.im rfl rfl (.one rfl (One.val rfl) rfl rfl (.one rfl (One.val rfl) rfl rfl (.one rfl (One.val rfl) rfl rfl .nil)))) rfl) ?_
    refine OpsD.one ?_
    refine StepD.h (ns := []) rfl rfl rfl (op_boxA rfl rfl) ?_
    rintro _ _ ⟨b26, rfl, rfl⟩
    refine zz ?_
    exact ⟨(r2, b26, (.slice (some ⟨b6, 0, none⟩) (Int.toNat (p0.events.length : Int)) (Int.toNat (p0.events.length : Int))), (.slice (some ⟨b9, 0, none⟩) (Int.toNat (p0.events.length : Int)) (Int.toNat (p0.events.length : Int))), (.slice (some ⟨b12, 0, none⟩) (Int.toNat (p0.events.length : Int)) (Int.toNat (p0.events.length : Int)))), h, Ghost.both (ns := [0, 0, 0, 1, 0]) rfl rfl⟩
   ·
    refine StepD.h (ns := []) rfl rfl rfl (op_makeSlice (k := kEntryS) (z := []) ar_46 ze_49 (fun w F => Imps.cells (.cons (Imp.nil kEntry 3) .nil) (cells_zero (cs := [C.val (.slice none 0 0)]) rfl rfl w F)) rfl rfl (make_ok c4).1 (make_ok c4).2 (make_ok63 (by decide) c4) rfl) ?_
    rintro _ _ ⟨b6, rfl, rfl⟩
    refine OpsD.two ?_ ?_
    ·
     refine StepD.h (ns := []) rfl rfl rfl (op_callE (Z2' _ _ g3) rfl rfl) ?_
     rintro _ _ ⟨rfl, rfl⟩
     refine OpsD.one ?_
     refine StepD.h (ns := []) rfl rfl rfl (op_makeSlice (k := kI64) (z := 0) ar_26 ze_2 (cells_zero rfl rfl) rfl rfl (make_ok c10).1 (make_ok c10).2 (make_ok63 (by decide) c10) rfl) ?_
     rintro _ _ ⟨b12, rfl, rfl⟩
     refine OpsD.v rfl rfl (op_build (ds := [C.im kI64 1 r2, C.val (.slice (some ⟨b6, 0, none⟩) (Int.toNat (p0.events.length : Int)) (Int.toNat (p0.events.length : Int))), C.val (.slice (some ⟨b9, 0, none⟩) (Int.toNat (p0.events.length : Int)) (Int.toNat (p0.events.length : Int))), C.val (.slice (some ⟨b12, 0, none⟩) (Int.toNat (p0.events.length : Int)) (Int.toNat (p0.events.length : Int)))]) pl_73 ze_73 (cells_zero rfl rfl) (.one rfl One.im rfl rfl (.one rfl (One.val rfl) rfl rfl (.one rfl (One.val rfl) rfl rfl (.one rfl (One.val rfl) rfl rfl .nil)))) rfl) ?_
     refine OpsD.one ?_
     refine StepD.h (ns := []) rfl rfl rfl (op_boxA rfl rfl) ?_
     rintro _ _ ⟨b27, rfl, rfl⟩
     refine zz ?_
     exact ⟨(r2, b27, (.slice (some ⟨b6, 0, none⟩) (Int.toNat (p0.events.length : Int)) (Int.toNat (p0.events.length : Int))), (.slice (some ⟨b9, 0, none⟩) (Int.toNat (p0.events.length : Int)) (Int.toNat (p0.events.length : Int))), (.slice (some ⟨b12, 0, none⟩) (Int.toNat (p0.events.length : Int)) (Int.toNat (p0.events.length : Int)))), h, Ghost.both (ns := [0, 0, 1, 1, 0]) rfl rfl⟩
    refine StepD.h (ns := []) rfl rfl rfl (op_makeSlice (k := kI64) (z := 0) ar_26 ze_2 (cells_zero rfl rfl) rfl rfl (make_ok c10).1 (make_ok c10).2 (make_ok63 (by decide) c10) rfl) ?_
    rintro _ _ ⟨b12, rfl, rfl⟩
    refine OpsD.one ?_
    refine StepD.h (ns := []) rfl rfl rfl (op_callE (Z2' _ _ g3) rfl rfl) ?_
    rintro _ _ ⟨rfl, rfl⟩
    refine OpsD.v rfl rfl (op_build (ds := [C.im kI64 1 r2, C.val (.slice (some ⟨b6, 0, none⟩) (Int.toNat (p0.events.length : Int)) (Int.toNat (p0.events.length : Int))), C.val (.slice (some ⟨b9, 0, none⟩) (Int.toNat (p0.events.length : Int)) (Int.toNat (p0.events.length : Int))), C.val (.slice (some ⟨b12, 0, none⟩) (Int.toNat (p0.events.length : Int)) (Int.toNat (p0.events.length : Int)))]) pl_73 ze_73 (cells_zero rfl rfl) (.one rfl One.im rfl rfl (.one rfl (One.val rfl) rfl rfl (.one rfl (One.val rfl) rfl rfl (.one rfl (One.val rfl) rfl rfl .nil)))) rfl) ?_
    refine OpsD.one ?_
    refine StepD.h (ns := []) rfl rfl rfl (op_boxA rfl rfl) ?_
    rintro _ _ ⟨b28, rfl, rfl⟩
    refine zz ?_
    exact ⟨(r2, b28, (.slice (some ⟨b6, 0, none⟩) (Int.toNat (p0.events.length : Int)) (Int.toNat (p0.events.length : Int))), (.slice (some ⟨b9, 0, none⟩) (Int.toNat (p0.events.length : Int)) (Int.toNat (p0.events.length : Int))), (.slice (some ⟨b12, 0, none⟩) (Int.toNat (p0.events.length : Int)) (Int.toNat (p0.events.length : Int)))), h, Ghost.both (ns := [0, 0, 1, 1, 0]) rfl rfl⟩
   refine StepD.h (ns := []) rfl rfl rfl (op_makeSlice (k := kI64) (z := 0) ar_26 ze_2 (cells_zero rfl rfl) rfl rfl (make_ok c10).1 (make_ok c10).2 (make_ok63 (by decide) c10) rfl) ?_
   rintro _ _ ⟨b12, rfl, rfl⟩
   refine OpsD.two ?_ ?_
   ·
    refine StepD.h (ns := []) rfl rfl rfl (op_callE (Z2' _ _ g3) rfl rfl) ?_
    rintro _ _ ⟨rfl, rfl⟩
    refine OpsD.one ?_
    refine StepD.h (ns := []) rfl rfl rfl (op_makeSlice (k := kEntryS) (z := []) ar_46 ze_49 (fun w F => Imps.cells (.cons (Imp.nil kEntry 3) .nil) (cells_zero (cs := [C.val (.slice none 0 0)]) rfl rfl w F)) rfl rfl (make_ok c4).1 (make_ok c4).2 (make_ok63 (by decide) c4) rfl) ?_
    rintro _ _ ⟨b6, rfl, rfl⟩
    refine OpsD.v rfl rfl (op_build (ds := [C.im kI64 1 r2, C.val (.slice (some ⟨b6, 0, none⟩) (Int.toNat (p0.events.length : Int)) (Int.toNat (p0.events.length : Int))), C.val (.slice (some ⟨b9, 0, none⟩) (Int.toNat (p0.events.length : Int)) (Int.toNat (p0.events.length : Int))), C.val (.slice (some ⟨b12, 0, none⟩) (Int.toNat (p0.events.length : Int)) (Int.toNat (p0.events.length : Int)))]) pl_73 ze_73 (cells_zero rfl rfl) (.one rfl One.im rfl rfl (.one rfl (One.val rfl) rfl rfl (.one rfl (One.val rfl) rfl rfl (.one rfl (One.val rfl) rfl rfl .nil)))) rfl) ?_
    refine OpsD.one ?_
    refine StepD.h (ns := []) rfl rfl rfl (op_boxA rfl rfl) ?_
    rintro _ _ ⟨b29, rfl, rfl⟩
    refine zz ?_
    exact ⟨(r2, b29, (.slice (some ⟨b6, 0, none⟩) (Int.toNat (p0.events.length : Int)) (Int.toNat (p0.events.length : Int))), (.slice (some ⟨b9, 0, none⟩) (Int.toNat (p0.events.length : Int)) (Int.toNat (p0.events.length : Int))), (.slice (some ⟨b12, 0, none⟩) (Int.toNat (p0.events.length : Int)) (Int.toNat (p0.events.length : Int)))), h, Ghost.both (ns := [0, 0, 0, 1, 0]) rfl rfl⟩
   refine StepD.h (ns := []) rfl rfl rfl (op_makeSlice (k := kEntryS) (z := []) ar_46 ze_49 (fun w F => Imps.cells (.cons (Imp.nil kEntry 3) .nil) (cells_zero (cs := [C.val (.slice none 0 0)]) rfl rfl w F)) rfl rfl (make_ok c4).1 (make_ok c4).2 (make_ok63 (by decide) c4) rfl) ?_
   rintro _ _ ⟨b6, rfl, rfl⟩
   refine OpsD.one ?_
   refine StepD.h (ns := []) rfl rfl rfl (op_callE (Z2' _ _ g3) rfl rfl) ?_
   rintro _ _ ⟨rfl, rfl⟩
   refine OpsD.v rfl rfl (op_build (ds := [C.im kI64 1 r2, C.val (.slice (some ⟨b6, 0, none⟩) (Int.toNat (p0.events.length : Int)) (Int.toNat (p0.events.length : Int))), C.val (.slice (some ⟨b9, 0, none⟩) (Int.toNat (p0.events.length : Int)) (Int.toNat (p0.events.length : Int))), C.val (.slice (some ⟨b12, 0, none⟩) (Int.toNat (p0.events.length : Int)) (Int.toNat (p0.events.length : Int)))]) pl_73 ze_73 (cells_zero rfl rfl) (.one rfl One.im rfl rfl (.one rfl (One.val rfl) rfl rfl (.one rfl (One.val rfl) rfl rfl (.one rfl (One.val rfl) rfl rfl .nil)))) rfl) ?_
   refine OpsD.one ?_
   refine StepD.h (ns := []) rfl rfl rfl (op_boxA rfl rfl) ?_
   rintro _ _ ⟨b30, rfl, rfl⟩
   refine zz ?_
   exact ⟨(r2, b30, (.slice (some ⟨b6, 0, none⟩) (Int.toNat (p0.events.length : Int)) (Int.toNat (p0.events.length : Int))), (.slice (some ⟨b9, 0, none⟩) (Int.toNat (p0.events.length : Int)) (Int.toNat (p0.events.length : Int))), (.slice (some ⟨b12, 0, none⟩) (Int.toNat (p0.events.length : Int)) (Int.toNat (p0.events.length : Int)))), h, Ghost.both (ns := [0, 0, 0, 1, 0]) rfl rfl⟩
  refine StepD.h (ns := []) rfl rfl rfl (op_makeSlice (k := kI64) (z := 0) ar_26 ze_2 (cells_zero rfl rfl) rfl rfl (make_ok c10).1 (make_ok c10).2 (make_ok63 (by decide) c10) rfl) ?_
  rintro _ _ ⟨b12, rfl, rfl⟩
  refine OpsD.three ?_ ?_ ?_
  ·
   refine StepD.h (ns := []) rfl rfl rfl (op_callE (Z2' _ _ g3) rfl rfl) ?_
   rintro _ _ ⟨rfl, rfl⟩
   refine OpsD.two ?_ ?_
   ·
    refine StepD.h (ns := []) rfl rfl rfl (op_makeSlice (k := kEntryS) (z := []) ar_46 ze_49 (fun w F => Imps.cells (.cons (Imp.nil kEntry 3) .nil) (cells_zero (cs := [C.val (.slice none 0 0)]) rfl rfl w F)) rfl rfl (make_ok c4).1 (make_ok c4).2 (make_ok63 (by decide) c4) rfl) ?_
    rintro _ _ ⟨b6, rfl, rfl⟩
    refine OpsD.one ?_
    refine StepD.h (ns := []) rfl rfl rfl (op_makeSlice (k := kEntryS) (z := []) ar_46 ze_49 (fun w F => Imps.cells (.cons (Imp.nil kEntry 3) .nil) (cells_zero (cs := [C.val (.slice none 0 0)]) rfl rfl w F)) rfl rfl (make_ok c7).1 (make_ok c7).2 (make_ok63 (by decide) c7) rfl) ?_
    rintro _ _ ⟨b9, rfl, rfl⟩
    refine OpsD.v rfl rfl (op_build (ds := [C.im kI64 1 r2, C.val (.slice (some ⟨b6, 0, none⟩) (Int.toNat (p0.events.length : Int)) (Int.toNat (p0.events.length : Int))), C.val (.slice (some ⟨b9, 0, none⟩) (Int.toNat (p0.events.length : Int)) (Int.toNat (p0.events.length : Int))), C.val (.slice (some ⟨b12, 0, none⟩) (Int.toNat (p0.events.length : Int)) (Int.toNat (p0.events.length : Int)))]) pl_73 ze_73 (cells_zero rfl rfl) (.one rfl One.im rfl rfl (.one rfl (One.val rfl) rfl rfl (.one rfl (One.val rfl) rfl rfl (.one rfl (One.val rfl) rfl rfl .nil)))) rfl) ?_
    refine OpsD.one ?_
    refine StepD.h (ns := []) rfl rfl rfl (op_boxA rfl rfl) ?_
    rintro _ _ ⟨b31, rfl, rfl⟩
    refine zz ?_
    exact ⟨(r2, b31, (.slice (some ⟨b6, 0, none⟩) (Int.toNat (p0.events.length : Int)) (Int.toNat (p0.events.length : Int))), (.slice (some ⟨b9, 0, none⟩) (Int.toNat (p0.events.length : Int)) (Int.toNat (p0.events.length : Int))), (.slice (some ⟨b12, 0, none⟩) (Int.toNat (p0.events.length : Int)) (Int.toNat (p0.events.length : Int)))), h, Ghost.both (ns := [0, 0, 1, 0, 0]) rfl rfl⟩
   refine StepD.h (ns := []) rfl rfl rfl (op_makeSlice (k := kEntryS) (z := []) ar_46 ze_49 (fun w F => Imps.cells (.cons (Imp.nil kEntry 3) .nil) (cells_zero (cs := [C.val (.slice none 0 0)]) rfl rfl w F)) rfl rfl (make_ok c7).1 (make_ok c7).2 (make_ok63 (by decide) c7) rfl) ?_
   rintro _ _ ⟨b9, rfl, rfl⟩
   refine OpsD.one ?_
   refine StepD.h (ns := []) rfl rfl rfl (op_makeSlice (k := kEntryS) (z := []) ar_46 ze_49 (fun w F => Imps.cells (.cons (Imp.nil kEntry 3) .nil) (cells_zero (cs := [C.val (.slice none 0 0)]) rfl rfl w F)) rfl rfl (make_ok c4).1 (make_ok c4).2 (make_ok63 (by decide) c4) rfl) ?_
   rintro _ _ ⟨b6, rfl, rfl⟩
   refine OpsD.v rfl rfl (op_build (ds := [C.im kI64 1 r2, C.val (.slice (some ⟨b6, 0, none⟩) (Int.toNat (p0.events.length : Int)) (Int.toNat (p0.events.length : Int))), C.val (.slice (some ⟨b9, 0, none⟩) (Int.toNat (p0.events.length : Int)) (Int.toNat (p0.events.length : Int))), C.val (.slice (some ⟨b12, 0, none⟩) (Int.toNat (p0.events.length : Int)) (Int.toNat (p0.events.length : Int)))]) pl_73 ze_73 (cells_zero rfl rfl) (.one rfl One.im rfl rfl (.one rfl (One.val rfl) rfl rfl (.one rfl (One.val rfl) rfl rfl (.one rfl (One.val rfl) rfl rfl .nil)))) rfl) ?_
   refine OpsD.one ?_
   refine StepD.h (ns := []) rfl rfl rfl (op_boxA rfl rfl) ?_
   rintro _ _ ⟨b32, rfl, rfl⟩
   refine zz ?_
   exact ⟨(r2, b32, (.slice (some ⟨b6, 0, none⟩) (Int.toNat (p0.events.length : Int)) (Int.toNat (p0.events.length : Int))), (.slice (some ⟨b9, 0, none⟩) (Int.toNat (p0.events.length : Int)) (Int.toNat (p0.events.length : Int))), (.slice (some ⟨b12, 0, none⟩) (Int.toNat (p0.events.length : Int)) (Int.toNat (p0.events.length : Int)))), h, Ghost.both (ns := [0, 0, 0, 0, 0]) rfl rfl⟩
  ·
   refine StepD.h (ns := []) rfl rfl rfl (op_makeSlice (k := kEntryS) (z := []) ar_46 ze_49 (fun w F => Imps.cells (.cons (Imp.nil kEntry 3) .nil) (cells_zero (cs := [C.val (.slice none 0 0)]) rfl rfl w F)) rfl rfl (make_ok c4).1 (make_ok c4).2 (make_ok63 (by decide) c4) rfl) ?_
   rintro _ _ ⟨b6, rfl, rfl⟩
   refine OpsD.two ?_ ?_
   ·
    refine StepD.h (ns := []) rfl rfl rfl (op_callE (Z2' _ _ g3) rfl rfl) ?_
    rintro _ _ ⟨rfl, rfl⟩
    refine OpsD.one ?_
    refine StepD.h (ns := []) rfl rfl rfl (op_makeSlice (k := kEntryS) (z := []) ar_46 ze_49 (fun w F => Imps.cells (.cons (Imp.nil kEntry 3) .nil) (cells_zero (cs := [C.val (.slice none 0 0)]) rfl rfl w F)) rfl rfl (make_ok c7).1 (make_ok c7).2 (make_ok63 (by decide) c7) rfl) ?_
    rintro _ _ ⟨b9, rfl, rfl⟩
    refine OpsD.v rfl rfl (op_build (ds := [C.im kI64 1 r2, C.val (.slice (some ⟨b6, 0, none⟩) (Int.toNat (p0.events.length : Int)) (Int.toNat (p0.events.length : Int))), C.val (.slice (some ⟨b9, 0, none⟩) (Int.toNat (p0.events.length : Int)) (Int.toNat (p0.events.length : Int))), C.val (.slice (some ⟨b12, 0, none⟩) (Int.toNat (p0.events.length : Int)) (Int.toNat (p0.events.length : Int)))]) pl_73 ze_73 (cells_zero rfl rfl) (.one rfl One.im rfl rfl (.one rfl (One.val rfl) rfl rfl (.one rfl (One.val rfl) rfl rfl (.one rfl (One.val rfl) rfl rfl .nil)))) rfl) ?_
    refine OpsD.one ?_
    refine StepD.h (ns := []) rfl rfl rfl (op_boxA rfl rfl) ?_
    rintro _ _ ⟨b33, rfl, rfl⟩
    refine zz ?_
    exact ⟨(r2, b33, (.slice (some ⟨b6, 0, none⟩) (Int.toNat (p0.events.length : Int)) (Int.toNat (p0.events.length : Int))), (.slice (some ⟨b9, 0, none⟩) (Int.toNat (p0.events.length : Int)) (Int.toNat (p0.events.length : Int))), (.slice (some ⟨b12, 0, none⟩) (Int.toNat (p0.events.length : Int)) (Int.toNat (p0.events.length : Int)))), h, Ghost.both (ns := [0, 0, 1, 0, 0]) rfl rfl⟩
   refine StepD.h (ns := []) rfl rfl rfl (op_makeSlice (k := kEntryS) (z := []) ar_46 ze_49 (fun w F => Imps.cells (.cons (Imp.nil kEntry 3) .nil) (cells_zero (cs := [C.val (.slice none 0 0)]) rfl rfl w F)) rfl rfl (make_ok c7).1 (make_ok c7).2 (make_ok63 (by decide) c7) rfl) ?_
   rintro _ _ ⟨b9, rfl, rfl⟩
   refine OpsD.one ?_
   refine StepD.h (ns := []) rfl rfl rfl (op_callE (Z2' _ _ g3) rfl rfl) ?_
   rintro _ _ ⟨rfl, rfl⟩
   refine OpsD.v rfl rfl (op_build (ds := [C.im kI64 1 r2, C.val (.slice (some ⟨b6, 0, none⟩) (Int.toNat (p0.events.length : Int)) (Int.toNat (p0.events.length : Int))), C.val (.slice (some ⟨b9, 0, none⟩) (Int.toNat (p0.events.length : Int)) (Int.toNat (p0.events.length : Int))), C.val (.slice (some ⟨b12, 0, none⟩) (Int.toNat (p0.events.length : Int)) (Int.toNat (p0.events.length : Int)))]) pl_73 ze_73 (cells_zero rfl rfl) (.one rfl One.im rfl rfl (.one rfl (One.val rfl) rfl rfl (.one rfl (One.val rfl) rfl rfl (.one rfl (One.val rfl) rfl rfl .nil)))) rfl) ?_
   refine OpsD.one ?_
   refine StepD.h (ns := []) rfl rfl rfl (op_boxA rfl rfl) ?_
   rintro _ _ ⟨b34, rfl, rfl⟩
   refine zz ?_
   exact ⟨(r2, b34, (.slice (some ⟨b6, 0, none⟩) (Int.toNat (p0.events.length : Int)) (Int.toNat (p0.events.length : Int))), (.slice (some ⟨b9, 0, none⟩) (Int.toNat (p0.events.length : Int)) (Int.toNat (p0.events.length : Int))), (.slice (some ⟨b12, 0, none⟩) (Int.toNat (p0.events.length : Int)) (Int.toNat (p0.events.length : Int)))), h, Ghost.both (ns := [0, 0, 1, 0, 0]) rfl rfl⟩
  refine StepD.h (ns := []) rfl rfl rfl (op_makeSlice (k := kEntryS) (z := []) ar_46 ze_49 (fun w F => Imps.cells (.cons (Imp.nil kEntry 3) .nil) (cells_zero (cs := [C.val (.slice none 0 0)]) rfl rfl w F)) rfl rfl (make_ok c7).1 (make_ok c7).2 (make_ok63 (by decide) c7) rfl) ?_
  rintro _ _ ⟨b9, rfl, rfl⟩
  refine OpsD.two ?_ ?_
  ·
   refine StepD.h (ns := []) rfl rfl rfl (op_callE (Z2' _ _ g3) rfl rfl) ?_
   rintro _ _ ⟨rfl, rfl⟩
   refine OpsD.one ?_
   refine StepD.h (ns := []) rfl rfl rfl (op_makeSlice (k := kEntryS) (z := []) ar_46 ze_49 (fun w F => Imps.cells (.cons (Imp.nil kEntry 3) .nil) (cells_zero (cs := [C.val (.slice none 0 0)]) rfl rfl w F)) rfl rfl (make_ok c4).1 (make_ok c4).2 (make_ok63 (by decide) c4) rfl) ?_
   rintro _ _ ⟨b6, rfl, rfl⟩
   refine OpsD.v rfl rfl (op_build (ds := [C.im kI64 1 r2, C.val (.slice (some ⟨b6, 0, none⟩) (Int.toNat (p0.events.length : Int)) (Int.toNat (p0.events.length : Int))), C.val (.slice (some ⟨b9, 0, none⟩) (Int.toNat (p0.events.length : Int)) (Int.toNat (p0.events.length : Int))), C.val (.slice (some ⟨b12, 0, none⟩) (Int.toNat (p0.events.length : Int)) (Int.toNat (p0.events.length : Int)))]) pl_73 ze_73 (cells_zero rfl rfl) (.one rfl One.im rfl rfl (.one rfl (One.val rfl) rfl rfl (.one rfl (One.val rfl) rfl rfl (.one rfl (One.val rfl) rfl rfl .nil)))) rfl) ?_
   refine OpsD.one ?_
   refine StepD.h (ns := []) rfl rfl rfl (op_boxA rfl rfl) ?_
   rintro _ _ ⟨b35, rfl, rfl⟩
   refine zz ?_
   exact ⟨(r2, b35, (.slice (some ⟨b6, 0, none⟩) (Int.toNat (p0.events.length : Int)) (Int.toNat (p0.events.length : Int))), (.slice (some ⟨b9, 0, none⟩) (Int.toNat (p0.events.length : Int)) (Int.toNat (p0.events.length : Int))), (.slice (some ⟨b12, 0, none⟩) (Int.toNat (p0.events.length : Int)) (Int.toNat (p0.events.length : Int)))), h, Ghost.both (ns := [0, 0, 0, 0, 0]) rfl rfl⟩
  refine StepD.h (ns := []) rfl rfl rfl (op_makeSlice (k := kEntryS) (z := []) ar_46 ze_49 (fun w F => Imps.cells (.cons (Imp.nil kEntry 3) .nil) (cells_zero (cs := [C.val (.slice none 0 0)]) rfl rfl w F)) rfl rfl (make_ok c4).1 (make_ok c4).2 (make_ok63 (by decide) c4) rfl) ?_
  rintro _ _ ⟨b6, rfl, rfl⟩
  refine OpsD.one ?_
  refine StepD.h (ns := []) rfl rfl rfl (op_callE (Z2' _ _ g3) rfl rfl) ?_
  rintro _ _ ⟨rfl, rfl⟩
  refine OpsD.v rfl rfl (op_build (ds := [C.im kI64 1 r2, C.val (.slice (some ⟨b6, 0, none⟩) (Int.toNat (p0.events.length : Int)) (Int.toNat (p0.events.length : Int))), C.val (.slice (some ⟨b9, 0, none⟩) (Int.toNat (p0.events.length : Int)) (Int.toNat (p0.events.length : Int))), C.val (.slice (some ⟨b12, 0, none⟩) (Int.toNat (p0.events.length : Int)) (Int.toNat (p0.events.length : Int)))]) pl_73 ze_73 (cells_zero rfl rfl) (.one rfl One.im rfl rfl (.one rfl (One.val rfl) rfl rfl (.one rfl (One.val rfl) rfl rfl (.one rfl (One.val rfl) rfl rfl .nil)))) rfl) ?_
  refine OpsD.one ?_
  refine StepD.h (ns := []) rfl rfl rfl (op_boxA rfl rfl) ?_
  rintro _ _ ⟨b36, rfl, rfl⟩
  refine zz ?_
  exact ⟨(r2, b36, (.slice (some ⟨b6, 0, none⟩) (Int.toNat (p0.events.length : Int)) (Int.toNat (p0.events.length : Int))), (.slice (some ⟨b9, 0, none⟩) (Int.toNat (p0.events.length : Int)) (Int.toNat (p0.events.length : Int))), (.slice (some ⟨b12, 0, none⟩) (Int.toNat (p0.events.length : Int)) (Int.toNat (p0.events.length : Int)))), h, Ghost.both (ns := [0, 0, 0, 0, 0]) rfl rfl⟩
 rintro ⟨l38, b37, v39, v40, v41⟩ h
 replace h : Z97 p0 l38 = some r := h
 unfold Z97 at h
 refine zz ?_
 refine Ops.v rfl (op_loadA (p := 0) (ds := [C.int p0.room, C.im kEvent 9 p0.events, C.im kEvent 9 p0.parked]) ld_30.h rfl rfl rfl rfl rfl) ?_
 refine ob' h fun r42 g43 h => ?_
 refine Ops.hd (ns := []) rfl rfl (op_callE (Zbe' _ _ g43) rfl rfl) ?_
 refine Ops.v rfl (op_assign rfl rfl) ?_
 refine Ops.nil ?_
 refine AW.seq ?_
 refine AW.cut (τ := List (List TEntry) × List (List TEntry) × List Int) (fun (l260, l261, l262) => ⟨[(4, C.val (.pointer (some ⟨b37, 0, none⟩)))], [Obj.box b37 73 [C.im kI64 1 l38, C.val v39, C.val v40, C.val v41], Obj.arr v39 49 kEntryS 1 l260, Obj.arr v40 49 kEntryS 1 l261, Obj.arr v41 2 kI64 1 l262]⟩) (fun (l260, l261, l262) => Z95 l38 l260 l261 l262 = some r) ?_ ?_
 ·
  refine zz ?_
  refine ob' h fun o273 g274 q275 => ?_
  refine AW.loop (τ := List (List TEntry) × List (List TEntry) × List Int × Int) (x := ((List.replicate (Int.toNat (p0.events.length : Int)) []), (List.replicate (Int.toNat (p0.events.length : Int)) []), (List.replicate (Int.toNat (p0.events.length : Int)) 0), 0)) (fun (l149, l150, l151, x152) => ⟨[(1, C.val (.pointer (some ⟨b1, 0, none⟩))), (3, C.int (p0.events.length : Int)), (4, C.val (.pointer (some ⟨b37, 0, none⟩))), (5, C.im kI64 1 r42), (6, C.int x152)], [Obj.box b1 30 [C.int p0.room, C.im kEvent 9 p0.events, C.im kEvent 9 p0.parked], Obj.box b37 73 [C.im kI64 1 l38, C.val v39, C.val v40, C.val v41], Obj.arr v39 49 kEntryS 1 l149, Obj.arr v40 49 kEntryS 1 l150, Obj.arr v41 2 kI64 1 l151]⟩) (fun k (l149, l150, l151, x152) => iter (fun z269 => Z16 p0 l38 r42 z269.1 z269.2.1 z269.2.2.1 z269.2.2.2) k (l149, l150, l151, x152) = some o273) g274 (Ghost.both (ns := [0, 0, 0, 0, 0]) rfl rfl) ?_
  rintro k ⟨l149, l150, l151, x152⟩ i277
  refine iter_succ' (show iter (fun z269 => Z16 p0 l38 r42 z269.1 z269.2.1 z269.2.2.1 z269.2.2.2) k (l149, l150, l151, x152) = some o273 from i277) fun k276 y278 hlt_k276 h h279 => ?_
  replace h : Z16 p0 l38 r42 l149 l150 l151 x152 = some y278 := h
  unfold Z16 at h
  refine zz ?_
  refine cnd h (fun hb153 h => ?_) fun hb153 h => ?_
  ·
   refine AW.ct hb153 rfl ?_
   refine AW.skip ?_
   refine AW.seq ?_
   refine AW.cut (τ := List (List TEntry) × List (List TEntry) × List Int) (fun (l257, l258, l259) => ⟨[(1, C.val (.pointer (some ⟨b1, 0, none⟩))), (3, C.int (p0.events.length : Int)), (4, C.val (.pointer (some ⟨b37, 0, none⟩))), (5, C.im kI64 1 r42), (6, C.int x152)], [Obj.box b1 30 [C.int p0.room, C.im kEvent 9 p0.events, C.im kEvent 9 p0.parked], Obj.box b37 73 [C.im kI64 1 l38, C.val v39, C.val v40, C.val v41], Obj.arr v39 49 kEntryS 1 l257, Obj.arr v40 49 kEntryS 1 l258, Obj.arr v41 2 kI64 1 l259]⟩) (fun (l257, l258, l259) => Z6t x152 l257 l258 l259 = some y278) ?_ ?_
   ·
    refine zz ?_
    refine AW.regionD (L := [1, 5]) (Lt := []) (k := .light 0 false (.light 1 true (.light 2 false (.light 3 false (.light 4 false (.light 5 true (.one 6 (.light 7 false .done)))))))) (ns := [0, 0, 0, 0, 0]) (by kernel_rfl) (by kernel_rfl) (by kernel_rfl) (by kernel_rfl) rfl ?_
    refine zz ?_
    refine ob' h fun e154 g155 h => ?_
    refine OpsD.v rfl rfl (op_indexAddr_im sl_26.h rfl rfl g155 rfl) ?_
    refine OpsD.v rfl rfl (op_load_ip ld_2.h rfl rfl) ?_
    refine zz ?_
    refine ob' h fun r156 g157 h => ?_
    refine StepD.h (ns := []) rfl rfl rfl (op_callE (Z6 _ _ _ g157) rfl rfl) ?_
    rintro _ _ ⟨rfl, rfl⟩
    refine zz ?_
    refine ob' h fun e158 g159 h => ?_
    refine Ops.v rfl (op_indexAddr_im sl_28.h rfl rfl g159 rfl) ?_
    refine Ops.v rfl (op_load_ipA ld_38.h rfl rfl rfl rfl) ?_
    refine Ops.h (ns := []) rfl rfl (op_alloc (cs := [C.int 0, C.int 0, C.int 0, C.int 0, C.int 0, C.int 0, C.str ByteArray.empty, C.val (.slice none 0 0), C.int 0]) ze_38 (cells_zero rfl rfl) rfl) ?_
    rintro _ _ ⟨b160, rfl, rfl⟩
    refine Ops.hd (ns := [0]) rfl rfl (op_storeA (gs := [C.int e158.id, C.int e158.room, C.int e158.author, C.int e158.kind, C.int e158.key, C.int e158.n, C.str e158.text, C.im kI64 1 e158.prev, C.int e158.time]) ld_38.h rfl rfl rfl rfl rfl) ?_
    refine zz ?_
    refine Ops.h (ns := []) rfl rfl (op_buildSlice (k := kEntryS) (ys := ([] : List (List TEntry))) ar_46 .nil rfl rfl rfl) ?_
    rintro _ _ ⟨b161, rfl, rfl⟩
    refine Ops.v rfl (op_assign rfl rfl) ?_
    refine Ops.nil ?_
    refine AW.seq ?_
    refine AW.cut (τ := List (List TEntry) × Value) (fun (l214, v213) => ⟨[(1, C.val (.pointer (some ⟨b1, 0, none⟩))), (3, C.int (p0.events.length : Int)), (4, C.val (.pointer (some ⟨b37, 0, none⟩))), (5, C.im kI64 1 r42), (6, C.int x152), (7, C.int r156), (8, C.val (.pointer (some ⟨b160, 0, none⟩))), (9, C.val v213)], [Obj.box b1 30 [C.int p0.room, C.im kEvent 9 p0.events, C.im kEvent 9 p0.parked], Obj.box b37 73 [C.im kI64 1 l38, C.val v39, C.val v40, C.val v41], Obj.arr v39 49 kEntryS 1 l149, Obj.arr v40 49 kEntryS 1 l150, Obj.arr v41 2 kI64 1 l151, Obj.box b160 38 [C.int e158.id, C.int e158.room, C.int e158.author, C.int e158.kind, C.int e158.key, C.int e158.n, C.str e158.text, C.im kI64 1 e158.prev, C.int e158.time], Obj.arr v213 49 kEntryS 1 l214]⟩) (fun (l214, v213) => Z96 p0 l38 l149 l150 l151 x152 r156 e158 l214 = some y278) ?_ ?_
    ·
     refine zz ?_
     refine ob' h fun o280 g281 q282 => ?_
     refine AW.loop (τ := List (List TEntry) × Int × Value) (x := (([] : List (List TEntry)), 0, (.slice (some ⟨b161, 0, none⟩) 0 0))) (fun (l187, x188, v186) => ⟨[(1, C.val (.pointer (some ⟨b1, 0, none⟩))), (3, C.int (p0.events.length : Int)), (4, C.val (.pointer (some ⟨b37, 0, none⟩))), (5, C.im kI64 1 r42), (6, C.int x152), (7, C.int r156), (8, C.val (.pointer (some ⟨b160, 0, none⟩))), (9, C.val v186), (10, C.int x188)], [Obj.box b1 30 [C.int p0.room, C.im kEvent 9 p0.events, C.im kEvent 9 p0.parked], Obj.box b37 73 [C.im kI64 1 l38, C.val v39, C.val v40, C.val v41], Obj.arr v39 49 kEntryS 1 l149, Obj.arr v40 49 kEntryS 1 l150, Obj.arr v41 2 kI64 1 l151, Obj.box b160 38 [C.int e158.id, C.int e158.room, C.int e158.author, C.int e158.kind, C.int e158.key, C.int e158.n, C.str e158.text, C.im kI64 1 e158.prev, C.int e158.time], Obj.arr v186 49 kEntryS 1 l187]⟩) (fun k (l187, x188, v186) => iter (fun z267 => Z2o p0 l150 e158 z267.1 z267.2) k (l187, x188) = some o280) g281 (Ghost.both (ns := [2, 2, 2, 2, 2, 1, 0]) rfl rfl) ?_
     rintro k ⟨l187, x188, v186⟩ i284
     refine iter_succ' (show iter (fun z267 => Z2o p0 l150 e158 z267.1 z267.2) k (l187, x188) = some o280 from i284) fun k283 y285 hlt_k283 h h286 => ?_
     replace h : Z2o p0 l150 e158 l187 x188 = some y285 := h
     unfold Z2o at h
     refine zz ?_
     refine Ops.v rfl (op_load (p := 5) ld_26.h rfl rfl rfl rfl) ?_
     refine zz ?_
     refine cnd h (fun hb189 h => ?_) fun hb189 h => ?_
     ·
      refine AW.ct hb189 rfl ?_
      refine zz ?_
      refine AW.regionD (L := [4, 6, 8, 11, 14]) (Lt := []) (k := .light 0 false (.light 1 false (.light 2 false (.light 3 false (.light 4 true (.light 5 false (.light 6 true (.light 7 false (.light 8 true (.light 9 false (.light 10 false (.light 11 true (.one 12 (.light 13 false (.light 14 true (.one 15 (.one 16 (.light 17 false .done)))))))))))))))))) (ns := [0, 0, 0, 0, 0, 0]) (by kernel_rfl) (by kernel_rfl) (by kernel_rfl) (by kernel_rfl) rfl ?_
      refine zz ?_
      refine OpsD.v rfl rfl (op_nilCheck rfl rfl) ?_
      refine zz ?_
      refine OpsD.v rfl rfl (op_load (p := 5) ld_26.h rfl rfl rfl rfl) ?_
      refine zz ?_
      refine ob' h fun e203 g204 h => ?_
      refine OpsD.v rfl rfl (op_indexAddr_im sl_26.h rfl rfl g204 rfl) ?_
      refine OpsD.v rfl rfl (op_load_ip ld_2.h rfl rfl) ?_
      refine zz ?_
      refine ob' h fun r205 g206 h => ?_
      refine StepD.h (ns := []) rfl rfl rfl (op_callE (Z6 _ _ _ g206) rfl rfl) ?_
      rintro _ _ ⟨rfl, rfl⟩
      refine ob' h fun e207 g208 h => ?_
      refine OpsD.v rfl rfl (op_indexAddr_arr (p := 3) sl_46.h rfl rfl rfl g208 rfl) ?_
      refine OpsD.v rfl rfl (op_load_arr (p := 3) ld_49.h rfl rfl (getI_lt g208).2.2 rfl rfl) ?_
      refine OpsD.one ?_
      refine StepD.h (ns := []) rfl rfl rfl (op_buildSlice (k := kEntryS) (ys := [e207]) ar_46 (.one rfl One.im rfl rfl .nil) rfl rfl rfl) ?_
      rintro _ _ ⟨b209, rfl, rfl⟩
      refine zz ?_
      refine ob' h fun u211 c210 h => ?_
      refine StepD.h (ns := [1, 0]) rfl rfl rfl (op_append ar_46 rfl rfl (of_decide_eq_true (chk_some c210)) (app63 (by decide) c210) rfl) ?_
      rintro _ _ ⟨v212, rfl, rfl⟩
      refine zz ?_
      obtain rfl := Option.some.inj h
      exact ⟨k283, ((l187 ++ [e207]), (IntKind.i64.wrap (x188 + 1)), v212), hlt_k283, h286, Ghost.both (ns := [0, 0, 0, 0, 0, 0, 0]) rfl rfl⟩
     refine AW.cf hb189 rfl ?_
     refine AW.exit ?_
     obtain rfl := Option.some.inj h
     obtain rfl := Option.some.inj h286
     replace h := q282
     exact ⟨(l187, v186), h, Ghost.both (ns := [0, 0, 0, 0, 0, 0, 0]) rfl rfl⟩
    rintro ⟨l214, v213⟩ h
    replace h : Z96 p0 l38 l149 l150 l151 x152 r156 e158 l214 = some y278 := h
    unfold Z96 at h
    refine zz ?_
    refine AW.regionD (L := [3, 5, 9]) (Lt := [13]) (k := .light 0 false (.light 1 false (.light 2 false (.light 3 true (.light 4 false (.light 5 true (.light 6 false (.light 7 false (.light 8 false (.light 9 true (.light 10 false (.one 11 (.light 12 false (.late 13 (.done))))))))))))))) (ns := [0, 0, 0, 0, 0, 0]) (by kernel_rfl) (by kernel_rfl) (by kernel_rfl) (by kernel_rfl) rfl ?_
    refine zz ?_
    refine OpsD.v rfl rfl (op_nilCheck rfl rfl) ?_
    refine zz ?_
    refine OpsD.v rfl rfl (op_loadA (p := 0) (ds := [C.int p0.room, C.im kEvent 9 p0.events, C.im kEvent 9 p0.parked]) ld_30.h rfl rfl rfl rfl rfl) ?_
    refine zz ?_
    refine OpsD.v rfl rfl (op_nilCheck rfl rfl) ?_
    refine zz ?_
    refine ob' h fun r220 g221 h => ?_
    refine StepD.h (ns := [0]) rfl rfl rfl (op_callE (Ok.freezeL (Ok.lend (Zcc p0 l38 l214 _ g221) (FrzT.cons (os := []) (Frz.same _) (FrzT.cons (os := []) (Frz.same _) (FrzT.cons (os := [_]) Frz.arr (FrzT.nil)))) (by rintro _ _ ⟨_, rfl, rfl⟩; exact ⟨(PlainC.val _), plainO_cons (PlainO.arr plain_kEntry) (plainO_nil)⟩)) (by rintro c qs ⟨v222, rfl, rfl⟩; exact Frz.arr)) rfl rfl) ?_
    rintro _ _ ⟨rfl, rfl⟩
    refine ob' h fun e223 g224 h => ?_
    refine OpsD.v rfl rfl (op_indexAddr_arr (p := 2) sl_46.h rfl rfl rfl g224 rfl) ?_
    refine OpsD.late (ns := [2]) rfl rfl rfl (op_store_arr (e' := r220) ld_49.h rfl rfl One.im (getI_lt g224).2.2 rfl rfl) ?_
    rintro _ _ ⟨rfl, rfl⟩
    refine zz ?_
    refine AW.regionD (L := [3, 5, 9, 12, 13]) (Lt := [16]) (k := .light 0 false (.light 1 false (.light 2 false (.light 3 true (.light 4 false (.light 5 true (.light 6 false (.light 7 false (.light 8 false (.light 9 true (.light 10 false (.light 11 false (.light 12 true (.light 13 true (.one 14 (.light 15 false (.late 16 (.done)))))))))))))))))) (ns := [0, 0, 0, 0, 0, 0, 0]) (by kernel_rfl) (by kernel_rfl) (by kernel_rfl) (by kernel_rfl) rfl ?_
    refine zz ?_
    refine OpsD.v rfl rfl (op_nilCheck rfl rfl) ?_
    refine zz ?_
    refine OpsD.v rfl rfl (op_loadA (p := 1) (ds := [C.int p0.room, C.im kEvent 9 p0.events, C.im kEvent 9 p0.parked]) ld_30.h rfl rfl rfl rfl rfl) ?_
    refine zz ?_
    refine OpsD.v rfl rfl (op_nilCheck rfl rfl) ?_
    refine zz ?_
    refine ob' h fun e225 g226 h => ?_
    refine OpsD.v rfl rfl (op_indexAddr_arr (p := 0) sl_46.h rfl rfl rfl g226 rfl) ?_
    refine OpsD.v rfl rfl (op_load_arr (p := 0) ld_49.h rfl rfl (getI_lt g226).2.2 rfl rfl) ?_
    refine OpsD.v rfl rfl (op_loadA (p := 5) (ds := [C.int e158.id, C.int e158.room, C.int e158.author, C.int e158.kind, C.int e158.key, C.int e158.n, C.str e158.text, C.im kI64 1 e158.prev, C.int e158.time]) ld_38.h rfl rfl rfl rfl rfl) ?_
    refine zz ?_
    refine ob' h fun r227 g228 h => ?_
    refine StepD.h (ns := []) rfl rfl rfl (op_callE (Zca _ _ _ _ g228) rfl rfl) ?_
    rintro _ _ ⟨rfl, rfl⟩
    refine ob' h fun e229 g230 h => ?_
    refine OpsD.v rfl rfl (op_indexAddr_arr (p := 4) sl_26.h rfl rfl rfl g230 rfl) ?_
    refine OpsD.late (ns := [4]) rfl rfl rfl (op_store_arr (e' := r227) ld_2.h rfl rfl (One.val rfl) (getI_lt g230).2.2 rfl rfl) ?_
    rintro _ _ ⟨rfl, rfl⟩
    refine OpsD.done ?_
    refine AW.seq ?_
    refine AW.cut (τ := List Int) (fun l241 => ⟨[(1, C.val (.pointer (some ⟨b1, 0, none⟩))), (3, C.int (p0.events.length : Int)), (4, C.val (.pointer (some ⟨b37, 0, none⟩))), (5, C.im kI64 1 r42), (6, C.int x152), (7, C.int r156), (8, C.val (.pointer (some ⟨b160, 0, none⟩)))], [Obj.box b1 30 [C.int p0.room, C.im kEvent 9 p0.events, C.im kEvent 9 p0.parked], Obj.box b37 73 [C.im kI64 1 l38, C.val v39, C.val v40, C.val v41], Obj.arr v39 49 kEntryS 1 (List.set l149 (Int.toNat r156) r220), Obj.arr v40 49 kEntryS 1 l150, Obj.arr v41 2 kI64 1 l241, Obj.box b160 38 [C.int e158.id, C.int e158.room, C.int e158.author, C.int e158.kind, C.int e158.key, C.int e158.n, C.str e158.text, C.im kI64 1 e158.prev, C.int e158.time]]⟩) (fun l241 => Z6v l149 l150 x152 r156 e158 r220 e225 l241 = some y278) ?_ ?_
    ·
     refine AW.seq ?_
     refine AW.cut (τ := Bool) (fun x237 => ⟨[(1, C.val (.pointer (some ⟨b1, 0, none⟩))), (3, C.int (p0.events.length : Int)), (4, C.val (.pointer (some ⟨b37, 0, none⟩))), (5, C.im kI64 1 r42), (6, C.int x152), (7, C.int r156), (8, C.val (.pointer (some ⟨b160, 0, none⟩))), (119, C.bool x237)], [Obj.box b1 30 [C.int p0.room, C.im kEvent 9 p0.events, C.im kEvent 9 p0.parked], Obj.box b37 73 [C.im kI64 1 l38, C.val v39, C.val v40, C.val v41], Obj.arr v39 49 kEntryS 1 (List.set l149 (Int.toNat r156) r220), Obj.arr v40 49 kEntryS 1 l150, Obj.arr v41 2 kI64 1 (List.set l151 (Int.toNat r156) r227), Obj.box b160 38 [C.int e158.id, C.int e158.room, C.int e158.author, C.int e158.kind, C.int e158.key, C.int e158.n, C.str e158.text, C.im kI64 1 e158.prev, C.int e158.time]]⟩) (fun x237 => Z4o l149 l150 l151 x152 r156 e158 r220 e225 r227 x237 = some y278) ?_ ?_
     ·
      refine zz ?_
      refine Ops.v rfl (op_nilCheck rfl rfl) ?_
      refine zz ?_
      refine Ops.v rfl (op_load (p := 3) ld_26.h rfl rfl rfl rfl) ?_
      refine zz ?_
      refine ob' h fun e231 g232 h => ?_
      refine Ops.v rfl (op_indexAddr_arr (p := 0) sl_26.h rfl rfl rfl g232 rfl) ?_
      refine Ops.v rfl (op_load_arr (p := 0) ld_2.h rfl rfl (getI_lt g232).2.2 rfl rfl) ?_
      refine zz ?_
      refine cnd h (fun hb233 h => ?_) fun hb233 h => ?_
      ·
       refine zz ?_
       refine Ops.gv rfl rfl rfl rfl hb233 (op_load (p := 5) ld_2.h rfl rfl rfl rfl) ?_
       refine zz ?_
       refine cnd h (fun hb234 h => ?_) fun hb234 h => ?_
       ·
        refine Ops.gv rfl rfl rfl rfl hb234 (op_loadA (p := 2) (ds := [C.int p0.room, C.im kEvent 9 p0.events, C.im kEvent 9 p0.parked]) ld_30.h rfl rfl rfl rfl rfl) ?_
        refine zz ?_
        refine Ops.gv rfl rfl rfl rfl hb234 (op_load (p := 5) ld_2.h rfl rfl rfl rfl) ?_
        refine zz ?_
        refine Ops.gv rfl rfl rfl rfl hb234 (op_load (p := 5) ld_2.h rfl rfl rfl rfl) ?_
        refine ob' h fun r235 g236 h => ?_
        refine Ops.ghd (ns := []) rfl rfl rfl rfl hb234 rfl (op_callE (Zeb _ _ _ _ g236) rfl rfl) ?_
        refine zz ?_
        exact ⟨(!r235), h, Ghost.both (ns := [2, 2, 1, 1, 0, 0]) rfl rfl⟩
       refine zz ?_
       exact ⟨false, h, Ghost.both (ns := [2, 2, 1, 1, 0, 0]) rfl rfl⟩
      refine zz ?_
      exact ⟨false, h, Ghost.both (ns := [2, 2, 1, 1, 0, 0]) rfl rfl⟩
     intro x237 h
     replace h : Z4o l149 l150 l151 x152 r156 e158 r220 e225 r227 x237 = some y278 := h
     unfold Z4o at h
     refine cnd h (fun hb238 h => ?_) fun hb238 h => ?_
     ·
      refine AW.ct hb238 rfl ?_
      refine zz ?_
      refine Ops.v rfl (op_nilCheck rfl rfl) ?_
      refine zz ?_
      refine ob' h fun e239 g240 h => ?_
      refine Ops.v rfl (op_indexAddr_arr (p := 4) sl_26.h rfl rfl rfl g240 rfl) ?_
      refine Ops.hd (ns := [4]) rfl rfl (op_store_arr (e' := 6) ld_2.h rfl rfl (One.val rfl) (getI_lt g240).2.2 rfl rfl) ?_
      refine zz ?_
      exact ⟨(List.set (List.set l151 (Int.toNat r156) r227) (Int.toNat r156) 6), h, Ghost.both (ns := [1, 1, 1, 1, 0, 0]) rfl rfl⟩
     refine AW.cf hb238 rfl ?_
     refine zz ?_
     exact ⟨(List.set l151 (Int.toNat r156) r227), h, Ghost.both (ns := [0, 0, 0, 0, 0, 0]) rfl rfl⟩
    intro l241 h
    replace h : Z6v l149 l150 x152 r156 e158 r220 e225 l241 = some y278 := h
    unfold Z6v at h
    refine zz ?_
    refine AW.regionD (L := [3, 9, 12]) (Lt := [15]) (k := .light 0 false (.light 1 false (.light 2 false (.light 3 true (.light 4 false (.light 6 false (.light 7 false (.light 8 false (.light 9 true (.light 10 false (.light 11 false (.light 12 true (.one 5 (.one 13 (.light 14 false (.late 15 (.done))))))))))))))))) (ns := [0, 0, 0, 0, 0, 0]) (by kernel_rfl) (by kernel_rfl) (by kernel_rfl) (by kernel_rfl) rfl ?_
    refine zz ?_
    refine OpsD.v rfl rfl (op_nilCheck rfl rfl) ?_
    refine zz ?_
    refine OpsD.v rfl rfl (op_nilCheck rfl rfl) ?_
    refine zz ?_
    refine OpsD.v rfl rfl (op_indexAddr_arr (p := 2) sl_46.h rfl rfl rfl g226 rfl) ?_
    refine OpsD.v rfl rfl (op_load_arr (p := 2) ld_49.h rfl rfl (getI_lt g226).2.2 rfl rfl) ?_
    refine OpsD.one ?_
    refine StepD.h (ns := []) rfl rfl rfl (op_buildSlice (k := kEntry) (ys := ([] : List TEntry)) ar_49 .nil rfl rfl rfl) ?_
    rintro _ _ ⟨b242, rfl, rfl⟩
    refine zz ?_
    refine ob' h fun u244 c243 h => ?_
    refine StepD.h (ns := [0]) rfl rfl rfl (op_append_im ar_49 rfl rfl (of_decide_eq_true (chk_some c243)) (app63 (by decide) c243) rfl) ?_
    rintro _ _ ⟨v245, rfl, rfl⟩
    refine ob' h fun e246 g247 h => ?_
    refine OpsD.v rfl rfl (op_indexAddr_arr (p := 3) sl_46.h rfl rfl rfl g247 rfl) ?_
    refine OpsD.late (ns := [6, 3]) rfl rfl rfl (HOp.frz (t := 139) rfl Frz.arr (op_store_arr (e' := (([] : List TEntry) ++ e225)) ld_49.h rfl rfl One.im (getI_lt g247).2.2 rfl rfl)) ?_
    rintro _ _ ⟨rfl, rfl⟩
    refine OpsD.done ?_
    refine AW.seq ?_
    refine AW.cut (τ := Bool) (fun x251 => ⟨[(1, C.val (.pointer (some ⟨b1, 0, none⟩))), (3, C.int (p0.events.length : Int)), (4, C.val (.pointer (some ⟨b37, 0, none⟩))), (5, C.im kI64 1 r42), (6, C.int x152), (7, C.int r156), (8, C.val (.pointer (some ⟨b160, 0, none⟩))), (153, C.bool x251)], [Obj.box b1 30 [C.int p0.room, C.im kEvent 9 p0.events, C.im kEvent 9 p0.parked], Obj.box b37 73 [C.im kI64 1 l38, C.val v39, C.val v40, C.val v41], Obj.arr v39 49 kEntryS 1 (List.set l149 (Int.toNat r156) r220), Obj.arr v40 49 kEntryS 1 (List.set l150 (Int.toNat r156) (([] : List TEntry) ++ e225)), Obj.arr v41 2 kI64 1 l241, Obj.box b160 38 [C.int e158.id, C.int e158.room, C.int e158.author, C.int e158.kind, C.int e158.key, C.int e158.n, C.str e158.text, C.im kI64 1 e158.prev, C.int e158.time]]⟩) (fun x251 => Z6u l149 l150 x152 r156 e158 r220 e225 l241 x251 = some y278) ?_ ?_
    ·
     refine zz ?_
     refine Ops.v rfl (op_nilCheck rfl rfl) ?_
     refine zz ?_
     refine ob' h fun e248 g249 h => ?_
     refine Ops.v rfl (op_indexAddr_arr (p := 4) sl_26.h rfl rfl rfl g249 rfl) ?_
     refine Ops.v rfl (op_load_arr (p := 4) ld_2.h rfl rfl (getI_lt g249).2.2 rfl rfl) ?_
     refine zz ?_
     refine cnd h (fun hb250 h => ?_) fun hb250 h => ?_
     ·
      refine zz ?_
      refine Ops.gv rfl rfl rfl rfl hb250 (op_load (p := 5) ld_2.h rfl rfl rfl rfl) ?_
      refine zz ?_
      exact ⟨decide (e158.kind ≤ 6), h, Ghost.both (ns := [1, 1, 1, 0, 0, 0]) rfl rfl⟩
     refine zz ?_
     exact ⟨false, h, Ghost.both (ns := [1, 1, 1, 0, 0, 0]) rfl rfl⟩
    intro x251 h
    replace h : Z6u l149 l150 x152 r156 e158 r220 e225 l241 x251 = some y278 := h
    unfold Z6u at h
    refine cnd h (fun hb252 h => ?_) fun hb252 h => ?_
    ·
     refine AW.ct hb252 rfl ?_
     refine AW.regionD (L := [3, 8, 11, 13, 15, 17]) (Lt := [21]) (k := .light 0 false (.light 1 false (.light 2 false (.light 3 true (.light 4 false (.light 5 false (.light 6 false (.light 7 false (.light 8 true (.light 9 false (.light 10 false (.light 11 true (.light 12 false (.light 13 true (.light 14 false (.light 15 true (.light 16 false (.light 17 true (.light 18 false (.one 19 (.light 20 false (.late 21 (.done))))))))))))))))))))))) (ns := [0, 0, 0, 0, 0, 0]) (by kernel_rfl) (by kernel_rfl) (by kernel_rfl) (by kernel_rfl) rfl ?_
     refine zz ?_
     refine OpsD.v rfl rfl (op_nilCheck rfl rfl) ?_
     refine zz ?_
     refine OpsD.v rfl rfl (op_nilCheck rfl rfl) ?_
     refine zz ?_
     refine OpsD.v rfl rfl (op_indexAddr_arr (p := 2) sl_46.h rfl rfl rfl g226 rfl) ?_
     refine OpsD.v rfl rfl (op_load_arr (p := 2) ld_49.h rfl rfl (getI_lt g226).2.2 rfl rfl) ?_
     refine zz ?_
     refine OpsD.v rfl rfl (op_load (p := 5) ld_2.h rfl rfl rfl rfl) ?_
     refine zz ?_
     refine OpsD.v rfl rfl (op_load (p := 5) ld_2.h rfl rfl rfl rfl) ?_
     refine zz ?_
     refine OpsD.v rfl rfl (op_load (p := 5) ld_2.h rfl rfl rfl rfl) ?_
     refine OpsD.v rfl rfl (op_build (ds := [C.int e158.kind, C.int e158.key, C.int e158.id]) pl_99 ze_99 (cells_zero rfl rfl) (.one rfl (One.val rfl) rfl rfl (.one rfl (One.val rfl) rfl rfl (.one rfl (One.val rfl) rfl rfl .nil))) rfl) ?_
     refine zz ?_
     refine ob' h fun r253 g254 h => ?_
     refine StepD.h (ns := []) rfl rfl rfl (op_callE (Z87' _ _ _ g254) rfl rfl) ?_
     rintro _ _ ⟨rfl, rfl⟩
     refine ob' h fun e255 g256 h => ?_
     refine OpsD.v rfl rfl (op_indexAddr_arr (p := 3) sl_46.h rfl rfl rfl g256 rfl) ?_
     refine OpsD.late (ns := [3]) rfl rfl rfl (op_store_arr (e' := r253) ld_49.h rfl rfl One.im (getI_lt g256).2.2 rfl rfl) ?_
     rintro _ _ ⟨rfl, rfl⟩
     refine zz ?_
     exact ⟨((List.set l149 (Int.toNat r156) r220), (List.set (List.set l150 (Int.toNat r156) (([] : List TEntry) ++ e225)) (Int.toNat r156) r253), l241), h, Ghost.both (ns := [1, 1, 1, 0, 0]) rfl rfl⟩
    refine AW.cf hb252 rfl ?_
    refine zz ?_
    exact ⟨((List.set l149 (Int.toNat r156) r220), (List.set l150 (Int.toNat r156) (([] : List TEntry) ++ e225)), l241), h, Ghost.both (ns := [0, 0, 0, 0, 0]) rfl rfl⟩
   rintro ⟨l257, l258, l259⟩ h
   replace h : Z6t x152 l257 l258 l259 = some y278 := h
   unfold Z6t at h
   refine zz ?_
   obtain rfl := Option.some.inj h
   exact ⟨k276, (l257, l258, l259, (IntKind.i64.wrap (x152 + 1))), hlt_k276, h279, Ghost.both (ns := [0, 0, 0, 0, 0]) rfl rfl⟩
  refine AW.cf hb153 rfl ?_
  refine AW.exit ?_
  obtain rfl := Option.some.inj h
  obtain rfl := Option.some.inj h279
  replace h := q275
  exact ⟨(l149, l150, l151), h, Ghost.both (ns := [1, 1, 1, 1]) rfl rfl⟩
 rintro ⟨l260, l261, l262⟩ h
 replace h : Z95 l38 l260 l261 l262 = some r := h
 unfold Z95 at h
 refine zz ?_
 refine AW.ret ?_
 rw [← Option.some.inj h]
 exact ⟨[C.val (.pointer (some ⟨b37, 0, none⟩))], _, Ghost.refl _, (.cons (.tmp rfl) .nil), [0, 0, 0, 0], _, _, rfl, ⟨b37, v39, v40, v41, rfl, rfl⟩⟩

def Z99 (l164 : List Int) : Option (List Int) := some l164
def Z6y (x79 : Int) (l162 : List Int) : Option ((List Int × Int) ⊕ ((List Int))) := some (.inl (l162, (IntKind.i64.wrap (x79 + 1))))
def Z9a (p0 : TGraph') (l78 : List Int) (x79 : Int) (x153 : Bool) : Option ((List Int × Int) ⊕ ((List Int))) := cond x153 ((getI p0.events x79).bind fun e155 => (chk (decide ((l78.length + [e155.id].length) * 8 ≤ 140737488355328))).bind fun u159 => Z6y x79 (l78 ++ [e155.id])) (Z6y x79 l78)
def Z9b (x118 : Int) (x152 : Bool) : Option ((Bool × Int) ⊕ (Bool)) := some (.inl (x152, (IntKind.i64.wrap (x118 + 1))))
def Z6z (x136 : Int) (x151 : Bool) : Option ((Bool × Int) ⊕ (Bool)) := some (.inl (x151, (IntKind.i64.wrap (x136 + 1))))
def Z2p (p0 : TGraph') (x79 : Int) (x118 : Int) (x135 : Bool) (x136 : Int) (x142 : Bool) : Option ((Bool × Int) ⊕ (Bool)) := cond x142 (cond x135 ((getI p0.events x118).bind fun e145 => (getI e145.prev x136).bind fun e147 => (getI p0.events x79).bind fun e149 => Z6z x136 (e147 != e149.id)) (Z6z x136 false)) (some (.inr x135))
def Zj (p0 : TGraph') (p1 : List Bool) (x79 : Int) (x118 : Int) (x135 : Bool) (x136 : Int) : Option ((Bool × Int) ⊕ (Bool)) := (getI p1 x118).bind fun e137 => cond e137 ((getI p0.events x118).bind fun e140 => Z2p p0 x79 x118 x135 x136 (decide (x136 < (e140.prev.length : Int)))) (Z2p p0 x79 x118 x135 x136 false)
def Z17 (p0 : TGraph') (p1 : List Bool) (x79 : Int) (x117 : Bool) (x118 : Int) : Option ((Bool × Int) ⊕ (Bool)) := cond (decide (x118 < (p0.events.length : Int))) ((iter (fun z166 => Zj p0 p1 x79 x118 z166.1 z166.2) big (x117, 0)).bind fun y167 => Z9b x118 y167) (some (.inr x117))
def Z2q (p0 : TGraph') (p1 : List Bool) (l78 : List Int) (x79 : Int) : Option ((List Int × Int) ⊕ ((List Int))) := cond (decide (x79 < (p0.events.length : Int))) ((getI p1 x79).bind fun e81 => (iter (fun z168 => Z17 p0 p1 x79 z168.1 z168.2) big (e81, 0)).bind fun y169 => Z9a p0 l78 x79 y169) (some (.inr l78))
def Z6x (p0 : TGraph') (p1 : List Bool) : Option (List Int) := (iter (fun z170 => Z2q p0 p1 z170.1 z170.2) big (([] : List Int), 0)).bind fun y171 => Z99 y171
set_option maxHeartbeats 1000000 in
theorem Zbh (p0 : TGraph') (p1 : List Bool) (r : List Int) (h : Z6x p0 p1 = some r) : Ok Tryz.prog 95 [C.agg [C.int p0.room, C.im kEvent 9 p0.events, C.im kEvent 9 p0.parked], C.im kBool 1 p1] [] (fun c qs => ∃ (v165 : Value), c = C.val v165 ∧ qs = [Obj.arr v165 2 kI64 1 r]) := by
 refine Ok.of_body (rs := [.tmp 4]) Tryz.func95 rfl rfl rfl rfl rfl fun X => ?_
 unfold Z6x at h
 refine zz ?_
 refine Ops.h (ns := []) rfl rfl (op_boxA rfl rfl) ?_
 rintro _ _ ⟨b1, rfl, rfl⟩
 refine zz ?_
 refine Ops.h (ns := []) rfl rfl (op_buildSlice (k := kI64) (ys := ([] : List Int)) ar_26 .nil rfl rfl rfl) ?_
 rintro _ _ ⟨b2, rfl, rfl⟩
 refine Ops.v rfl (op_assign rfl rfl) ?_
 refine Ops.nil ?_
 refine AW.seq ?_
 refine AW.cut (τ := List Int × Value) (fun (l164, v163) => ⟨[(5, C.val v163)], [Obj.arr v163 2 kI64 1 l164]⟩) (fun (l164, v163) => Z99 l164 = some r) ?_ ?_
 ·
  refine zz ?_
  refine ob' h fun o172 g173 q174 => ?_
  refine AW.loop (τ := List Int × Int × Value) (x := (([] : List Int), 0, (.slice (some ⟨b2, 0, none⟩) 0 0))) (fun (l78, x79, v77) => ⟨[(1, C.im kBool 1 p1), (2, C.val (.pointer (some ⟨b1, 0, none⟩))), (5, C.val v77), (6, C.int x79)], [Obj.box b1 30 [C.int p0.room, C.im kEvent 9 p0.events, C.im kEvent 9 p0.parked], Obj.arr v77 2 kI64 1 l78]⟩) (fun k (l78, x79, v77) => iter (fun z170 => Z2q p0 p1 z170.1 z170.2) k (l78, x79) = some o172) g173 (Ghost.both (ns := [1, 0]) rfl rfl) ?_
  rintro k ⟨l78, x79, v77⟩ i176
  refine iter_succ' (show iter (fun z170 => Z2q p0 p1 z170.1 z170.2) k (l78, x79) = some o172 from i176) fun k175 y177 hlt_k175 h h178 => ?_
  replace h : Z2q p0 p1 l78 x79 = some y177 := h
  unfold Z2q at h
  refine zz ?_
  refine cnd h (fun hb80 h => ?_) fun hb80 h => ?_
  ·
   refine AW.ct hb80 rfl ?_
   refine AW.skip ?_
   refine AW.seq ?_
   refine AW.cut (τ := List Int × Value) (fun (l162, v161) => ⟨[(1, C.im kBool 1 p1), (2, C.val (.pointer (some ⟨b1, 0, none⟩))), (5, C.val v161), (6, C.int x79)], [Obj.box b1 30 [C.int p0.room, C.im kEvent 9 p0.events, C.im kEvent 9 p0.parked], Obj.arr v161 2 kI64 1 l162]⟩) (fun (l162, v161) => Z6y x79 l162 = some y177) ?_ ?_
   ·
    refine zz ?_
    refine ob' h fun e81 g82 h => ?_
    refine Ops.v rfl (op_indexAddr_im sl_105.h rfl rfl g82 rfl) ?_
    refine Ops.v rfl (op_load_ip ld_4.h rfl rfl) ?_
    refine Ops.v rfl (op_assign rfl rfl) ?_
    refine Ops.nil ?_
    refine AW.seq ?_
    refine AW.cut (τ := Bool) (fun x153 => ⟨[(1, C.im kBool 1 p1), (2, C.val (.pointer (some ⟨b1, 0, none⟩))), (5, C.val v77), (6, C.int x79), (7, C.bool x153)], [Obj.box b1 30 [C.int p0.room, C.im kEvent 9 p0.events, C.im kEvent 9 p0.parked], Obj.arr v77 2 kI64 1 l78]⟩) (fun x153 => Z9a p0 l78 x79 x153 = some y177) ?_ ?_
    ·
     refine zz ?_
     refine ob' h fun o179 g180 q181 => ?_
     refine AW.loop (τ := Bool × Int) (x := (e81, 0)) (fun (x117, x118) => ⟨[(1, C.im kBool 1 p1), (2, C.val (.pointer (some ⟨b1, 0, none⟩))), (5, C.val v77), (6, C.int x79), (7, C.bool x117), (8, C.int x118)], [Obj.box b1 30 [C.int p0.room, C.im kEvent 9 p0.events, C.im kEvent 9 p0.parked], Obj.arr v77 2 kI64 1 l78]⟩) (fun k (x117, x118) => iter (fun z168 => Z17 p0 p1 x79 z168.1 z168.2) k (x117, x118) = some o179) g180 (Ghost.both (ns := [0, 0]) rfl rfl) ?_
     rintro k ⟨x117, x118⟩ i183
     refine iter_succ' (show iter (fun z168 => Z17 p0 p1 x79 z168.1 z168.2) k (x117, x118) = some o179 from i183) fun k182 y184 hlt_k182 h h185 => ?_
     replace h : Z17 p0 p1 x79 x117 x118 = some y184 := h
     unfold Z17 at h
     refine zz ?_
     refine cnd h (fun hb119 h => ?_) fun hb119 h => ?_
     ·
      refine AW.ct hb119 rfl ?_
      refine AW.skip ?_
      refine AW.seq ?_
      refine AW.cut (τ := Bool) (fun x152 => ⟨[(1, C.im kBool 1 p1), (2, C.val (.pointer (some ⟨b1, 0, none⟩))), (5, C.val v77), (6, C.int x79), (7, C.bool x152), (8, C.int x118)], [Obj.box b1 30 [C.int p0.room, C.im kEvent 9 p0.events, C.im kEvent 9 p0.parked], Obj.arr v77 2 kI64 1 l78]⟩) (fun x152 => Z9b x118 x152 = some y184) ?_ ?_
      ·
       refine zz ?_
       refine ob' h fun o186 g187 q188 => ?_
       refine AW.loop (τ := Bool × Int) (x := (x117, 0)) (fun (x135, x136) => ⟨[(1, C.im kBool 1 p1), (2, C.val (.pointer (some ⟨b1, 0, none⟩))), (5, C.val v77), (6, C.int x79), (7, C.bool x135), (8, C.int x118), (9, C.int x136)], [Obj.box b1 30 [C.int p0.room, C.im kEvent 9 p0.events, C.im kEvent 9 p0.parked], Obj.arr v77 2 kI64 1 l78]⟩) (fun k (x135, x136) => iter (fun z166 => Zj p0 p1 x79 x118 z166.1 z166.2) k (x135, x136) = some o186) g187 (Ghost.both (ns := [0, 0]) rfl rfl) ?_
       rintro k ⟨x135, x136⟩ i190
       refine iter_succ' (show iter (fun z166 => Zj p0 p1 x79 x118 z166.1 z166.2) k (x135, x136) = some o186 from i190) fun k189 y191 hlt_k189 h h192 => ?_
       replace h : Zj p0 p1 x79 x118 x135 x136 = some y191 := h
       unfold Zj at h
       refine AW.seq ?_
       refine AW.seq ?_
       refine AW.cut (τ := Bool) (fun x142 => ⟨[(1, C.im kBool 1 p1), (2, C.val (.pointer (some ⟨b1, 0, none⟩))), (5, C.val v77), (6, C.int x79), (7, C.bool x135), (8, C.int x118), (9, C.int x136), (43, C.bool x142)], [Obj.box b1 30 [C.int p0.room, C.im kEvent 9 p0.events, C.im kEvent 9 p0.parked], Obj.arr v77 2 kI64 1 l78]⟩) (fun x142 => Z2p p0 x79 x118 x135 x136 x142 = some y191) ?_ ?_
       ·
        refine zz ?_
        refine ob' h fun e137 g138 h => ?_
        refine Ops.v rfl (op_indexAddr_im sl_105.h rfl rfl g138 rfl) ?_
        refine Ops.v rfl (op_load_ip ld_4.h rfl rfl) ?_
        refine zz ?_
        refine cnd h (fun hb139 h => ?_) fun hb139 h => ?_
        ·
         refine zz ?_
         refine ob' h fun e140 g141 h => ?_
         refine Ops.gv rfl rfl rfl rfl hb139 (op_indexAddr_im sl_28.h rfl rfl g141 rfl) ?_
         refine Ops.gv rfl rfl rfl rfl hb139 (op_fieldAddr_ip fo_38_7.h rfl rfl rfl) ?_
         refine Ops.gv rfl rfl rfl rfl hb139 (op_load_ip ld_26.h rfl rfl) ?_
         refine zz ?_
         exact ⟨decide (x136 < (e140.prev.length : Int)), h, Ghost.both (ns := [0, 0]) rfl rfl⟩
        refine zz ?_
        exact ⟨false, h, Ghost.both (ns := [0, 0]) rfl rfl⟩
       intro x142 h
       replace h : Z2p p0 x79 x118 x135 x136 x142 = some y191 := h
       unfold Z2p at h
       refine cnd h (fun hb143 h => ?_) fun hb143 h => ?_
       ·
        refine AW.ct hb143 rfl ?_
        refine AW.skip ?_
        refine AW.seq ?_
        refine AW.cut (τ := Bool) (fun x151 => ⟨[(1, C.im kBool 1 p1), (2, C.val (.pointer (some ⟨b1, 0, none⟩))), (5, C.val v77), (6, C.int x79), (7, C.bool x151), (8, C.int x118), (9, C.int x136)], [Obj.box b1 30 [C.int p0.room, C.im kEvent 9 p0.events, C.im kEvent 9 p0.parked], Obj.arr v77 2 kI64 1 l78]⟩) (fun x151 => Z6z x136 x151 = some y191) ?_ ?_
        ·
         refine zz ?_
         refine AW.regionD (L := [3, 7, 10, 12, 16]) (Lt := []) (k := .light 0 false (.light 1 false (.light 2 false (.light 3 true (.light 4 false (.light 5 false (.light 6 false (.light 7 true (.light 8 false (.light 9 false (.light 10 true (.light 11 false (.light 12 true (.light 13 false (.light 14 false (.light 15 false (.light 16 true (.light 17 false (.light 18 false (.light 19 false .done)))))))))))))))))))) (ns := [0, 0]) (by kernel_rfl) (by kernel_rfl) (by kernel_rfl) (by kernel_rfl) rfl ?_
         refine zz ?_
         refine cnd h (fun hb144 h => ?_) fun hb144 h => ?_
         ·
          refine zz ?_
          refine ob' h fun e145 g146 h => ?_
          refine OpsD.gv rfl rfl rfl rfl rfl hb144 (op_indexAddr_im sl_28.h rfl rfl g146 rfl) ?_
          refine OpsD.gv rfl rfl rfl rfl rfl hb144 (op_fieldAddr_ip fo_38_7.h rfl rfl rfl) ?_
          refine OpsD.gv rfl rfl rfl rfl rfl hb144 (op_load_ip ld_26.h rfl rfl) ?_
          refine zz ?_
          refine ob' h fun e147 g148 h => ?_
          refine OpsD.gv rfl rfl rfl rfl rfl hb144 (op_indexAddr_im sl_26.h rfl rfl g148 rfl) ?_
          refine OpsD.gv rfl rfl rfl rfl rfl hb144 (op_load_ip ld_2.h rfl rfl) ?_
          refine zz ?_
          refine ob' h fun e149 g150 h => ?_
          refine OpsD.gv rfl rfl rfl rfl rfl hb144 (op_indexAddr_im sl_28.h rfl rfl g150 rfl) ?_
          refine OpsD.gv rfl rfl rfl rfl rfl hb144 (op_fieldAddr_ip fo_38_0.h rfl rfl rfl) ?_
          refine OpsD.gv rfl rfl rfl rfl rfl hb144 (op_load_ip ld_2.h rfl rfl) ?_
          refine zz ?_
          exact ⟨(e147 != e149.id), h, Ghost.both (ns := [0, 0]) rfl rfl⟩
         refine zz ?_
         exact ⟨false, h, Ghost.both (ns := [0, 0]) rfl rfl⟩
        intro x151 h
        replace h : Z6z x136 x151 = some y191 := h
        unfold Z6z at h
        refine zz ?_
        obtain rfl := Option.some.inj h
        exact ⟨k189, (x151, (IntKind.i64.wrap (x136 + 1))), hlt_k189, h192, Ghost.both (ns := [0, 0]) rfl rfl⟩
       refine AW.cf hb143 rfl ?_
       refine AW.exit ?_
       obtain rfl := Option.some.inj h
       obtain rfl := Option.some.inj h192
       replace h := q188
       exact ⟨x135, h, Ghost.both (ns := [0, 0]) rfl rfl⟩
      intro x152 h
      replace h : Z9b x118 x152 = some y184 := h
      unfold Z9b at h
      refine zz ?_
      obtain rfl := Option.some.inj h
      exact ⟨k182, (x152, (IntKind.i64.wrap (x118 + 1))), hlt_k182, h185, Ghost.both (ns := [0, 0]) rfl rfl⟩
     refine AW.cf hb119 rfl ?_
     refine AW.exit ?_
     obtain rfl := Option.some.inj h
     obtain rfl := Option.some.inj h185
     replace h := q181
     exact ⟨x117, h, Ghost.both (ns := [0, 0]) rfl rfl⟩
    intro x153 h
    replace h : Z9a p0 l78 x79 x153 = some y177 := h
    unfold Z9a at h
    refine zz ?_
    refine cnd h (fun hb154 h => ?_) fun hb154 h => ?_
    ·
     refine AW.ct hb154 rfl ?_
     refine zz ?_
     refine ob' h fun e155 g156 h => ?_
     refine Ops.v rfl (op_indexAddr_im sl_28.h rfl rfl g156 rfl) ?_
     refine Ops.v rfl (op_fieldAddr_ip fo_38_0.h rfl rfl rfl) ?_
     refine Ops.v rfl (op_load_ip ld_2.h rfl rfl) ?_
     refine Ops.h (ns := []) rfl rfl (op_buildSlice (k := kI64) (ys := [e155.id]) ar_26 (.one rfl (One.val rfl) rfl rfl .nil) rfl rfl rfl) ?_
     rintro _ _ ⟨b157, rfl, rfl⟩
     refine ob' h fun u159 c158 h => ?_
     refine Ops.h (ns := [2, 0]) rfl rfl (op_append ar_26 rfl rfl (of_decide_eq_true (chk_some c158)) (app63 (by decide) c158) rfl) ?_
     rintro _ _ ⟨v160, rfl, rfl⟩
     refine zz ?_
     exact ⟨((l78 ++ [e155.id]), v160), h, Ghost.both (ns := [1, 0]) rfl rfl⟩
    refine AW.cf hb154 rfl ?_
    refine zz ?_
    exact ⟨(l78, v77), h, Ghost.both (ns := [0, 0]) rfl rfl⟩
   rintro ⟨l162, v161⟩ h
   replace h : Z6y x79 l162 = some y177 := h
   unfold Z6y at h
   refine zz ?_
   obtain rfl := Option.some.inj h
   exact ⟨k175, (l162, (IntKind.i64.wrap (x79 + 1)), v161), hlt_k175, h178, Ghost.both (ns := [0, 0]) rfl rfl⟩
  refine AW.cf hb80 rfl ?_
  refine AW.exit ?_
  obtain rfl := Option.some.inj h
  obtain rfl := Option.some.inj h178
  replace h := q174
  exact ⟨(l78, v77), h, Ghost.both (ns := [1]) rfl rfl⟩
 rintro ⟨l164, v163⟩ h
 replace h : Z99 l164 = some r := h
 unfold Z99 at h
 refine zz ?_
 refine AW.ret ?_
 rw [← Option.some.inj h]
 exact ⟨[C.val v163], _, Ghost.refl _, (.cons (.tmp rfl) .nil), [0], _, _, rfl, ⟨v163, rfl, rfl⟩⟩
theorem Zbh' (p0 : TGraph') (p1 : List Bool) (r : List Int) (h : Z6x p0 p1 = some r) : Ok Tryz.prog 95 [C.agg [C.int p0.room, C.im kEvent 9 p0.events, C.im kEvent 9 p0.parked], C.im kBool 1 p1] [] (fun c qs => c = C.im kI64 1 r ∧ qs = []) :=
  Ok.freeze (Zbh p0 p1 r h) (by rintro c qs ⟨v165, rfl, rfl⟩; exact Frz.arr)

def Z9k (l16 : List Bool) : Option (List Bool) := some l16
def Z74 (p0 : TL06Known) (l9 : List Bool) (x10 : Int) : Option ((List Bool × Int) ⊕ ((List Bool))) := cond (decide (x10 < (l9.length : Int))) ((getI p0.code x10).bind fun e12 => (getI l9 x10).bind fun e14 => some (.inl ((List.set l9 (Int.toNat x10) (e12 == 0)), (IntKind.i64.wrap (x10 + 1))))) (some (.inr l9))
def Zb6 (p0 : TL06Known) : Option (List Bool) := (chk (decide (0 ≤ (p0.code.length : Int) ∧ (p0.code.length : Int) * 1 ≤ 140737488355328))).bind fun u2 => (iter (fun z18 => Z74 p0 z18.1 z18.2) big ((List.replicate (Int.toNat (p0.code.length : Int)) false), 0)).bind fun y19 => Z9k y19
theorem Zel {b00 : Nat} {w01 : Value} {w02 : Value} {w03 : Value} (p0 : TL06Known) (r : List Bool) (h : Zb6 p0 = some r) : Ok Tryz.prog 93 [C.val (.pointer (some ⟨b00, 0, none⟩))] [Obj.box b00 73 [C.im kI64 1 p0.depths, C.val w01, C.val w02, C.val w03], Obj.arr w01 49 kEntryS 1 p0.ahead, Obj.arr w02 49 kEntryS 1 p0.behind, Obj.arr w03 2 kI64 1 p0.code] (fun c qs => ∃ (v17 : Value), c = C.val v17 ∧ qs = [Obj.arr v17 4 kBool 1 r, Obj.box b00 73 [C.im kI64 1 p0.depths, C.val w01, C.val w02, C.val w03], Obj.arr w01 49 kEntryS 1 p0.ahead, Obj.arr w02 49 kEntryS 1 p0.behind, Obj.arr w03 2 kI64 1 p0.code]) := by
 refine Ok.of_body (rs := [.tmp 2]) Tryz.func93 rfl rfl rfl rfl rfl fun X => ?_
 unfold Zb6 at h
 refine zz ?_
 refine Ops.v rfl (op_nilCheck rfl rfl) ?_
 refine zz ?_
 refine Ops.v rfl (op_len_arr (p := 3) sl_26.h rfl rfl rfl) ?_
 refine ob' h fun u2 c1 h => ?_
 refine Ops.h (ns := []) rfl rfl (op_makeSlice (k := kBool) (z := false) ar_105 ze_4 (cells_zero rfl rfl) rfl rfl (make_ok c1).1 (make_ok c1).2 (make_ok63 (by decide) c1) rfl) ?_
 rintro _ _ ⟨b3, rfl, rfl⟩
 refine Ops.v rfl (op_assign rfl rfl) ?_
 refine Ops.nil ?_
 refine AW.seq ?_
 refine AW.cut (τ := List Bool) (fun l16 => ⟨[(3, C.val (.slice (some ⟨b3, 0, none⟩) (Int.toNat (p0.code.length : Int)) (Int.toNat (p0.code.length : Int))))], [Obj.arr (.slice (some ⟨b3, 0, none⟩) (Int.toNat (p0.code.length : Int)) (Int.toNat (p0.code.length : Int))) 4 kBool 1 l16, Obj.box b00 73 [C.im kI64 1 p0.depths, C.val w01, C.val w02, C.val w03], Obj.arr w01 49 kEntryS 1 p0.ahead, Obj.arr w02 49 kEntryS 1 p0.behind, Obj.arr w03 2 kI64 1 p0.code]⟩) (fun l16 => Z9k l16 = some r) ?_ ?_
 ·
  refine zz ?_
  refine ob' h fun o20 g21 q22 => ?_
  refine AW.loop (τ := List Bool × Int) (x := ((List.replicate (Int.toNat (p0.code.length : Int)) false), 0)) (fun (l9, x10) => ⟨[(0, C.val (.pointer (some ⟨b00, 0, none⟩))), (3, C.val (.slice (some ⟨b3, 0, none⟩) (Int.toNat (p0.code.length : Int)) (Int.toNat (p0.code.length : Int)))), (4, C.int x10)], [Obj.box b00 73 [C.im kI64 1 p0.depths, C.val w01, C.val w02, C.val w03], Obj.arr w01 49 kEntryS 1 p0.ahead, Obj.arr w02 49 kEntryS 1 p0.behind, Obj.arr w03 2 kI64 1 p0.code, Obj.arr (.slice (some ⟨b3, 0, none⟩) (Int.toNat (p0.code.length : Int)) (Int.toNat (p0.code.length : Int))) 4 kBool 1 l9]⟩) (fun k (l9, x10) => iter (fun z18 => Z74 p0 z18.1 z18.2) k (l9, x10) = some o20) g21 (Ghost.both (ns := [1, 1, 1, 1, 0]) rfl rfl) ?_
  rintro k ⟨l9, x10⟩ i24
  refine iter_succ' (show iter (fun z18 => Z74 p0 z18.1 z18.2) k (l9, x10) = some o20 from i24) fun k23 y25 hlt_k23 h h26 => ?_
  replace h : Z74 p0 l9 x10 = some y25 := h
  unfold Z74 at h
  refine zz ?_
  refine Ops.v rfl (op_len_arr (p := 4) sl_105.h rfl rfl rfl) ?_
  refine zz ?_
  refine cnd h (fun hb11 h => ?_) fun hb11 h => ?_
  ·
   refine AW.ct hb11 rfl ?_
   refine zz ?_
   refine Ops.v rfl (op_nilCheck rfl rfl) ?_
   refine zz ?_
   refine ob' h fun e12 g13 h => ?_
   refine Ops.v rfl (op_indexAddr_arr (p := 3) sl_26.h rfl rfl rfl g13 rfl) ?_
   refine Ops.v rfl (op_load_arr (p := 3) ld_2.h rfl rfl (getI_lt g13).2.2 rfl rfl) ?_
   refine zz ?_
   refine ob' h fun e14 g15 h => ?_
   refine Ops.v rfl (op_indexAddr_arr (p := 4) sl_105.h rfl rfl rfl g15 rfl) ?_
   refine Ops.hd (ns := [4]) rfl rfl (op_store_arr (e' := (e12 == 0)) ld_4.h rfl rfl (One.val rfl) (getI_lt g15).2.2 rfl rfl) ?_
   refine zz ?_
   obtain rfl := Option.some.inj h
   exact ⟨k23, ((List.set l9 (Int.toNat x10) (e12 == 0)), (IntKind.i64.wrap (x10 + 1))), hlt_k23, h26, Ghost.both (ns := [1, 1, 1, 1, 0]) rfl rfl⟩
  refine AW.cf hb11 rfl ?_
  refine AW.exit ?_
  obtain rfl := Option.some.inj h
  obtain rfl := Option.some.inj h26
  replace h := q22
  exact ⟨l9, h, Ghost.both (ns := [4, 0, 0, 0, 0]) rfl rfl⟩
 intro l16 h
 replace h : Z9k l16 = some r := h
 unfold Z9k at h
 refine zz ?_
 refine AW.ret ?_
 rw [← Option.some.inj h]
 exact ⟨[C.val (.slice (some ⟨b3, 0, none⟩) (Int.toNat (p0.code.length : Int)) (Int.toNat (p0.code.length : Int)))], _, Ghost.refl _, (.cons (.tmp rfl) .nil), [0, 0, 0, 0, 0], _, _, rfl, ⟨(.slice (some ⟨b3, 0, none⟩) (Int.toNat (p0.code.length : Int)) (Int.toNat (p0.code.length : Int))), rfl, rfl⟩⟩

def Z98 (p0 : TGraph') (p1 : TL06Known) (l57 : List (List TEntry)) : Option (List TEntry) := (Z18 p0 p1.depths l57).bind fun r63 => some r63
def Z6w (p0 : TGraph') (p1 : TL06Known) (r2 : List Int) (l30 : List (List TEntry)) (x31 : Int) : Option ((List (List TEntry) × Int) ⊕ ((List (List TEntry)))) := cond (decide (x31 < (r2.length : Int))) ((getI r2 x31).bind fun e46 => (Z4 p0.events e46).bind fun r48 => (getI p1.behind r48).bind fun e50 => (chk (decide ((l30.length + [e50].length) * 24 ≤ 140737488355328))).bind fun u54 => some (.inl ((l30 ++ [e50]), (IntKind.i64.wrap (x31 + 1))))) (some (.inr l30))
def Zb5 (p0 : TGraph') (p1 : TL06Known) (p2 : List Bool) : Option (List TEntry) := (Z6x p0 p2).bind fun r2 => (iter (fun z66 => Z6w p0 p1 r2 z66.1 z66.2) big (([] : List (List TEntry)), 0)).bind fun y67 => Z98 p0 p1 y67
theorem Zej {b00 : Nat} {w01 : Value} {w02 : Value} {w03 : Value} (p0 : TGraph') (p1 : TL06Known) (p2 : List Bool) (r : List TEntry) (h : Zb5 p0 p1 p2 = some r) : Ok Tryz.prog 92 [C.agg [C.int p0.room, C.im kEvent 9 p0.events, C.im kEvent 9 p0.parked], C.val (.pointer (some ⟨b00, 0, none⟩)), C.im kBool 1 p2] [Obj.box b00 73 [C.im kI64 1 p1.depths, C.val w01, C.val w02, C.val w03], Obj.arr w01 49 kEntryS 1 p1.ahead, Obj.arr w02 49 kEntryS 1 p1.behind, Obj.arr w03 2 kI64 1 p1.code] (fun c qs => c = C.im kEntry 3 r ∧ qs = [Obj.box b00 73 [C.im kI64 1 p1.depths, C.val w01, C.val w02, C.val w03], Obj.arr w01 49 kEntryS 1 p1.ahead, Obj.arr w02 49 kEntryS 1 p1.behind, Obj.arr w03 2 kI64 1 p1.code]) := by
 refine Ok.of_body (rs := [.tmp 6]) Tryz.func92 rfl rfl rfl rfl rfl fun X => ?_
 unfold Zb5 at h
 refine zz ?_
 refine Ops.h (ns := []) rfl rfl (op_boxA rfl rfl) ?_
 rintro _ _ ⟨b1, rfl, rfl⟩
 refine zz ?_
 refine Ops.v rfl (op_loadA (p := 0) (ds := [C.int p0.room, C.im kEvent 9 p0.events, C.im kEvent 9 p0.parked]) ld_30.h rfl rfl rfl rfl rfl) ?_
 refine zz ?_
 refine ob' h fun r2 g3 h => ?_
 refine Ops.hd (ns := []) rfl rfl (op_callE (Zbh' _ _ _ g3) rfl rfl) ?_
 refine zz ?_
 refine Ops.h (ns := []) rfl rfl (op_buildSlice (k := kEntryS) (ys := ([] : List (List TEntry))) ar_46 .nil rfl rfl rfl) ?_
 rintro _ _ ⟨b4, rfl, rfl⟩
 refine Ops.v rfl (op_assign rfl rfl) ?_
 refine Ops.nil ?_
 refine AW.seq ?_
 refine AW.cut (τ := List (List TEntry) × Value) (fun (l57, v56) => ⟨[(1, C.val (.pointer (some ⟨b00, 0, none⟩))), (3, C.val (.pointer (some ⟨b1, 0, none⟩))), (8, C.val v56)], [Obj.box b00 73 [C.im kI64 1 p1.depths, C.val w01, C.val w02, C.val w03], Obj.arr w01 49 kEntryS 1 p1.ahead, Obj.arr w02 49 kEntryS 1 p1.behind, Obj.arr w03 2 kI64 1 p1.code, Obj.box b1 30 [C.int p0.room, C.im kEvent 9 p0.events, C.im kEvent 9 p0.parked], Obj.arr v56 49 kEntryS 1 l57]⟩) (fun (l57, v56) => Z98 p0 p1 l57 = some r) ?_ ?_
 ·
  refine zz ?_
  refine ob' h fun o68 g69 q70 => ?_
  refine AW.loop (τ := List (List TEntry) × Int × Value) (x := (([] : List (List TEntry)), 0, (.slice (some ⟨b4, 0, none⟩) 0 0))) (fun (l30, x31, v29) => ⟨[(1, C.val (.pointer (some ⟨b00, 0, none⟩))), (3, C.val (.pointer (some ⟨b1, 0, none⟩))), (7, C.im kI64 1 r2), (8, C.val v29), (9, C.int x31)], [Obj.box b00 73 [C.im kI64 1 p1.depths, C.val w01, C.val w02, C.val w03], Obj.arr w01 49 kEntryS 1 p1.ahead, Obj.arr w02 49 kEntryS 1 p1.behind, Obj.arr w03 2 kI64 1 p1.code, Obj.box b1 30 [C.int p0.room, C.im kEvent 9 p0.events, C.im kEvent 9 p0.parked], Obj.arr v29 49 kEntryS 1 l30]⟩) (fun k (l30, x31, v29) => iter (fun z66 => Z6w p0 p1 r2 z66.1 z66.2) k (l30, x31) = some o68) g69 (Ghost.both (ns := [2, 2, 2, 2, 1, 0]) rfl rfl) ?_
  rintro k ⟨l30, x31, v29⟩ i72
  refine iter_succ' (show iter (fun z66 => Z6w p0 p1 r2 z66.1 z66.2) k (l30, x31) = some o68 from i72) fun k71 y73 hlt_k71 h h74 => ?_
  replace h : Z6w p0 p1 r2 l30 x31 = some y73 := h
  unfold Z6w at h
  refine zz ?_
  refine cnd h (fun hb32 h => ?_) fun hb32 h => ?_
  ·
   refine AW.ct hb32 rfl ?_
   refine zz ?_
   refine AW.regionD (L := [4, 6, 10, 13]) (Lt := []) (k := .light 0 false (.light 1 false (.light 2 false (.light 3 false (.light 4 true (.light 5 false (.light 6 true (.light 7 false (.light 8 false (.light 9 false (.light 10 true (.one 11 (.light 12 false (.light 13 true (.one 14 (.one 15 (.light 16 false .done))))))))))))))))) (ns := [0, 0, 0, 0, 0]) (by kernel_rfl) (by kernel_rfl) (by kernel_rfl) (by kernel_rfl) rfl ?_
   refine zz ?_
   refine OpsD.v rfl rfl (op_nilCheck rfl rfl) ?_
   refine zz ?_
   refine OpsD.v rfl rfl (op_load (p := 4) ld_28.h rfl rfl rfl rfl) ?_
   refine zz ?_
   refine ob' h fun e46 g47 h => ?_
   refine OpsD.v rfl rfl (op_indexAddr_im sl_26.h rfl rfl g47 rfl) ?_
   refine OpsD.v rfl rfl (op_load_ip ld_2.h rfl rfl) ?_
   refine zz ?_
   refine ob' h fun r48 g49 h => ?_
   refine StepD.h (ns := []) rfl rfl rfl (op_callE (Z6 _ _ _ g49) rfl rfl) ?_
   rintro _ _ ⟨rfl, rfl⟩
   refine ob' h fun e50 g51 h => ?_
   refine OpsD.v rfl rfl (op_indexAddr_arr (p := 2) sl_46.h rfl rfl rfl g51 rfl) ?_
   refine OpsD.v rfl rfl (op_load_arr (p := 2) ld_49.h rfl rfl (getI_lt g51).2.2 rfl rfl) ?_
   refine OpsD.one ?_
   refine StepD.h (ns := []) rfl rfl rfl (op_buildSlice (k := kEntryS) (ys := [e50]) ar_46 (.one rfl One.im rfl rfl .nil) rfl rfl rfl) ?_
   rintro _ _ ⟨b52, rfl, rfl⟩
   refine zz ?_
   refine ob' h fun u54 c53 h => ?_
   refine StepD.h (ns := [1, 0]) rfl rfl rfl (op_append ar_46 rfl rfl (of_decide_eq_true (chk_some c53)) (app63 (by decide) c53) rfl) ?_
   rintro _ _ ⟨v55, rfl, rfl⟩
   refine zz ?_
   obtain rfl := Option.some.inj h
   exact ⟨k71, ((l30 ++ [e50]), (IntKind.i64.wrap (x31 + 1)), v55), hlt_k71, h74, Ghost.both (ns := [0, 0, 0, 0, 0, 0]) rfl rfl⟩
  refine AW.cf hb32 rfl ?_
  refine AW.exit ?_
  obtain rfl := Option.some.inj h
  obtain rfl := Option.some.inj h74
  replace h := q70
  exact ⟨(l30, v29), h, Ghost.both (ns := [0, 0, 0, 0, 0, 0]) rfl rfl⟩
 rintro ⟨l57, v56⟩ h
 replace h : Z98 p0 p1 l57 = some r := h
 unfold Z98 at h
 refine zz ?_
 refine AW.regionD (L := [0, 4]) (Lt := []) (k := .light 0 true (.light 1 false (.light 2 false (.light 3 false (.light 4 true (.light 5 false (.one 6 (.light 7 false .done)))))))) (ns := [0, 0, 0, 0, 0]) (by kernel_rfl) (by kernel_rfl) (by kernel_rfl) (by kernel_rfl) rfl ?_
 refine OpsD.v rfl rfl (op_loadA (p := 4) (ds := [C.int p0.room, C.im kEvent 9 p0.events, C.im kEvent 9 p0.parked]) ld_30.h rfl rfl rfl rfl rfl) ?_
 refine zz ?_
 refine OpsD.v rfl rfl (op_nilCheck rfl rfl) ?_
 refine zz ?_
 refine ob' h fun r63 g64 h => ?_
 refine StepD.h (ns := [0]) rfl rfl rfl (op_callE (Ok.freezeL (Ok.lend (Zcc p0 p1.depths l57 _ g64) (FrzT.cons (os := []) (Frz.same _) (FrzT.cons (os := []) (Frz.same _) (FrzT.cons (os := [_]) Frz.arr (FrzT.nil)))) (by rintro _ _ ⟨_, rfl, rfl⟩; exact ⟨(PlainC.val _), plainO_cons (PlainO.arr plain_kEntry) (plainO_nil)⟩)) (by rintro c qs ⟨v65, rfl, rfl⟩; exact Frz.arr)) rfl rfl) ?_
 rintro _ _ ⟨rfl, rfl⟩
 refine zz ?_
 refine AW.ret ?_
 rw [← Option.some.inj h]
 exact ⟨[C.im kEntry 3 r63], _, Ghost.refl _, (.cons (.tmp rfl) .nil), [0, 0, 0, 0], _, _, rfl, ⟨rfl, rfl⟩⟩

end Go.Proofs.YtnndihmamfomcaaGreat
