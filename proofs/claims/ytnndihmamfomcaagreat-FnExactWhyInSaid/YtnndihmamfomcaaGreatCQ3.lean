/- Printed by gen.py: plain functions for Go functions, and that the walks keep to them. -/
import Derived.Test.YtnndihmamfomcaaGreatCQ2
set_option autoImplicit false
set_option linter.unusedVariables false
set_option linter.unusedSimpArgs false
set_option maxRecDepth 100000
namespace Go.Proofs.YtnndihmamfomcaaGreat
open Go Go.Abs
attribute [local irreducible] AW Ops OpsD StepD
def Z8n (p0 : TGraph') : Option (List TEntry) := (Z43 p0).bind fun r2 => cond r2 ((Z6s p0).bind fun r6 => (Zb6 r6).bind fun r36 => (Zb5 p0 r6 r36).bind fun r39 => some r39) (some ([] : List TEntry))
theorem Ze5 (p0 : TGraph') (r : List TEntry) (h : Z8n p0 = some r) : Ok Tryz.prog 40 [C.agg [C.int p0.room, C.im kEvent 9 p0.events, C.im kEvent 9 p0.parked]] [] (fun c qs => c = C.im kEntry 3 r ∧ qs = []) := by
 refine Ok.of_body (rs := [.tmp 2]) Tryz.func40 rfl rfl rfl rfl rfl fun X => ?_
 unfold Z8n at h
 refine zz ?_
 refine Ops.h (ns := []) rfl rfl (op_boxA rfl rfl) ?_
 rintro _ _ ⟨b1, rfl, rfl⟩
 refine zz ?_
 refine Ops.v rfl (op_loadA (p := 0) (ds := [C.int p0.room, C.im kEvent 9 p0.events, C.im kEvent 9 p0.parked]) ld_30.h rfl rfl rfl rfl rfl) ?_
 refine ob' h fun r2 g3 h => ?_
 refine Ops.hd (ns := []) rfl rfl (op_callE (Zc7 _ _ g3) rfl rfl) ?_
 refine zz ?_
 refine cnd h (fun hb4 h => ?_) fun hb4 h => ?_
 ·
  refine AW.cond rfl (fun hn => absurd ((not_t hb4).symm.trans hn) (by decide)) (fun _ => ?_)
  refine zz ?_
  refine Ops.v rfl (op_loadA (p := 0) (ds := [C.int p0.room, C.im kEvent 9 p0.events, C.im kEvent 9 p0.parked]) ld_30.h rfl rfl rfl rfl rfl) ?_
  refine ob' h fun r6 g7 h => ?_
  refine Ops.h (ns := []) rfl rfl (op_call (Zei _ _ g7) rfl rfl) ?_
  rintro _ _ ⟨_, ⟨b8, v9, v10, v11, rfl, rfl⟩, rfl⟩
  refine zz ?_
  refine AW.regionD (L := [0]) (Lt := []) (k := .light 0 true (.light 1 false (.light 2 false (.one 3 (.one 4 (.light 5 false .done)))))) (ns := [4]) (by kernel_rfl) (by kernel_rfl) (by kernel_rfl) (by kernel_rfl) rfl ?_
  refine OpsD.v rfl rfl (op_loadA (p := 0) (ds := [C.int p0.room, C.im kEvent 9 p0.events, C.im kEvent 9 p0.parked]) ld_30.h rfl rfl rfl rfl rfl) ?_
  refine zz ?_
  refine ob' h fun r36 g37 h => ?_
  refine StepD.h (ns := [0, 0, 0, 0]) rfl rfl rfl (op_call (Zel r6 _ g37) rfl rfl) ?_
  rintro _ _ ⟨_, ⟨v38, rfl, rfl⟩, rfl⟩
  refine zz ?_
  refine ob' h fun r39 g40 h => ?_
  refine StepD.h (ns := [0, 0, 0, 0, 0]) rfl rfl rfl (HOp.frz (t := 13) rfl Frz.arr (op_callE (Zej p0 r6 r36 _ g40) rfl rfl)) ?_
  rintro _ _ ⟨rfl, rfl⟩
  refine zz ?_
  refine AW.ret ?_
  rw [← Option.some.inj h]
  exact ⟨[C.im kEntry 3 r39], _, Ghost.refl _, (.cons (.tmp rfl) .nil), [], _, _, rfl, ⟨rfl, rfl⟩⟩
 refine AW.cond rfl (fun _ => ?_) (fun hn => absurd ((not_f hb4).symm.trans hn) (by decide))
 refine zz ?_
 refine Ops.h (ns := []) rfl rfl (op_buildSlice (k := kEntry) (ys := ([] : List TEntry)) ar_49 .nil rfl rfl rfl) ?_
 rintro _ _ ⟨b5, rfl, rfl⟩
 refine zz ?_
 refine AW.ret ?_
 rw [← Option.some.inj h]
 exact ⟨[C.im kEntry 3 ([] : List TEntry)], _, Ghost.freeze (p := 0) (t := 2) rfl rfl, (.cons (.tmp rfl) .nil), [], _, _, rfl, ⟨rfl, rfl⟩⟩

def Z47 (p0 : TGraph') (p1 : Int) (x7 : Bool) : Option Int := cond x7 (some 0) ((Z8n p0).bind fun r9 => (Z14 r9 2 p1).bind fun r11 => some r11)
def Z8q (p0 : TGraph') (p1 : Int) : Option Int := (Z43 p0).bind fun r2 => cond r2 ((Z2b p1).bind fun r5 => Z47 p0 p1 (!r5)) (Z47 p0 p1 true)
theorem Ze7 (p0 : TGraph') (p1 : Int) (r : Int) (h : Z8q p0 p1 = some r) : Ok Tryz.prog 25 [C.agg [C.int p0.room, C.im kEvent 9 p0.events, C.im kEvent 9 p0.parked], C.int p1] [] (fun c qs => c = C.int r ∧ qs = []) := by
 refine Ok.of_body (rs := [.tmp 4]) Tryz.func25 rfl rfl rfl rfl rfl fun X => ?_
 unfold Z8q at h
 refine zz ?_
 refine Ops.h (ns := []) rfl rfl (op_boxA rfl rfl) ?_
 rintro _ _ ⟨b1, rfl, rfl⟩
 refine Ops.v rfl (op_assign rfl rfl) ?_
 refine Ops.nil ?_
 refine AW.seq ?_
 refine AW.seq ?_
 refine AW.cut (τ := Bool) (fun x7 => ⟨[(1, C.int p1), (2, C.val (.pointer (some ⟨b1, 0, none⟩))), (12, C.bool x7)], [Obj.box b1 30 [C.int p0.room, C.im kEvent 9 p0.events, C.im kEvent 9 p0.parked]]⟩) (fun x7 => Z47 p0 p1 x7 = some r) ?_ ?_
 ·
  refine zz ?_
  refine Ops.v rfl (op_loadA (p := 0) (ds := [C.int p0.room, C.im kEvent 9 p0.events, C.im kEvent 9 p0.parked]) ld_30.h rfl rfl rfl rfl rfl) ?_
  refine ob' h fun r2 g3 h => ?_
  refine Ops.hd (ns := []) rfl rfl (op_callE (Zc7 _ _ g3) rfl rfl) ?_
  refine zz ?_
  refine cnd h (fun hb4 h => ?_) fun hb4 h => ?_
  ·
   refine Ops.gv rfl rfl rfl rfl (not_t hb4) (op_move rfl rfl) ?_
   refine ob' h fun r5 g6 h => ?_
   refine Ops.ghd (ns := []) rfl rfl rfl rfl (not_t hb4) rfl (op_callE (Za5 _ _ g6) rfl rfl) ?_
   refine Ops.gv rfl rfl rfl rfl (not_t hb4) (op_not rfl rfl) ?_
   refine Ops.v rfl (op_pick_f rfl (not_t hb4) rfl rfl) ?_
   refine zz ?_
   exact ⟨(!r5), h, Ghost.both (ns := [0]) rfl rfl⟩
  iterate 3 refine Ops.gs rfl rfl rfl (.b rfl (not_f hb4)) rfl rfl ?_
  refine Ops.v rfl (op_pick_t rfl (not_f hb4) rfl rfl) ?_
  refine zz ?_
  exact ⟨true, h, Ghost.both (ns := [0]) rfl rfl⟩
 intro x7 h
 replace h : Z47 p0 p1 x7 = some r := h
 unfold Z47 at h
 refine cnd h (fun hb8 h => ?_) fun hb8 h => ?_
 ·
  refine AW.ct hb8 rfl ?_
  refine zz ?_
  refine AW.ret ?_
  rw [← Option.some.inj h]
  exact ⟨[C.int 0], _, Ghost.refl _, (.cons (.tmp rfl) .nil), [], _, _, rfl, ⟨rfl, rfl⟩⟩
 refine AW.cf hb8 rfl ?_
 refine zz ?_
 refine Ops.v rfl (op_loadA (p := 0) (ds := [C.int p0.room, C.im kEvent 9 p0.events, C.im kEvent 9 p0.parked]) ld_30.h rfl rfl rfl rfl rfl) ?_
 refine ob' h fun r9 g10 h => ?_
 refine Ops.hd (ns := []) rfl rfl (op_callE (Ze5 _ _ g10) rfl rfl) ?_
 refine zz ?_
 refine ob' h fun r11 g12 h => ?_
 refine Ops.hd (ns := []) rfl rfl (op_callE (Z86 _ _ _ _ g12) rfl rfl) ?_
 refine zz ?_
 refine AW.ret ?_
 rw [← Option.some.inj h]
 exact ⟨[C.int r11], _, Ghost.refl _, (.cons (.tmp rfl) .nil), [], _, _, rfl, ⟨rfl, rfl⟩⟩

def Z3e (x2 : Bool) : Option Bool := some x2
def Z7 (p0 : Int) (p1 : Int) (p2 : Int) : Option Bool := cond (decide (p1 ≤ p0)) (Z3e (decide (p0 ≤ p2))) (Z3e false)
theorem Zh (p0 : Int) (p1 : Int) (p2 : Int) (r : Bool) (h : Z7 p0 p1 p2 = some r) : Ok Tryz.prog 118 [C.int p0, C.int p1, C.int p2] [] (fun c qs => c = C.bool r ∧ qs = []) := by
 refine Ok.of_body (rs := [.tmp 6]) Tryz.func118 rfl rfl rfl rfl rfl fun X => ?_
 unfold Z7 at h
 refine AW.seq ?_
 refine AW.region ?_
 refine Ops.v rfl (op_assign rfl rfl) ?_
 refine Ops.nil ?_
 refine AW.seq ?_
 refine AW.cut (τ := Bool) (fun x2 => ⟨[(6, C.bool x2)], []⟩) (fun x2 => Z3e x2 = some r) ?_ ?_
 ·
  refine zz ?_
  refine cnd h (fun hb1 h => ?_) fun hb1 h => ?_
  ·
   refine zz ?_
   exact ⟨decide (p0 ≤ p2), h, Ghost.both (ns := []) rfl rfl⟩
  refine zz ?_
  exact ⟨false, h, Ghost.both (ns := []) rfl rfl⟩
 intro x2 h
 replace h : Z3e x2 = some r := h
 unfold Z3e at h
 refine AW.ret ?_
 rw [← Option.some.inj h]
 exact ⟨[C.bool x2], _, Ghost.refl _, (.cons (.tmp rfl) .nil), [], _, _, rfl, ⟨rfl, rfl⟩⟩

def Z5k (p0 : Int) : Option Bool := (Z7 p0 1 3).bind fun r1 => some r1
theorem Zby (p0 : Int) (r : Bool) (h : Z5k p0 = some r) : Ok Tryz.prog 111 [C.int p0] [] (fun c qs => c = C.bool r ∧ qs = []) := by
 refine Ok.of_body (rs := [.tmp 2]) Tryz.func111 rfl rfl rfl rfl rfl fun X => ?_
 unfold Z5k at h
 refine zz ?_
 refine ob' h fun r1 g2 h => ?_
 refine Ops.hd (ns := []) rfl rfl (op_callE (Zh _ _ _ _ g2) rfl rfl) ?_
 refine zz ?_
 refine AW.ret ?_
 rw [← Option.some.inj h]
 exact ⟨[C.bool r1], _, Ghost.refl _, (.cons (.tmp rfl) .nil), [], _, _, rfl, ⟨rfl, rfl⟩⟩

def Z5j (p0 : Int) : Option Bool := (Z7 p0 1 1000000).bind fun r1 => some r1
theorem Zbx (p0 : Int) (r : Bool) (h : Z5j p0 = some r) : Ok Tryz.prog 218 [C.int p0] [] (fun c qs => c = C.bool r ∧ qs = []) := by
 refine Ok.of_body (rs := [.tmp 2]) Tryz.func218 rfl rfl rfl rfl rfl fun X => ?_
 unfold Z5j at h
 refine zz ?_
 refine ob' h fun r1 g2 h => ?_
 refine Ops.hd (ns := []) rfl rfl (op_callE (Zh _ _ _ _ g2) rfl rfl) ?_
 refine zz ?_
 refine AW.ret ?_
 rw [← Option.some.inj h]
 exact ⟨[C.bool r1], _, Ghost.refl _, (.cons (.tmp rfl) .nil), [], _, _, rfl, ⟨rfl, rfl⟩⟩

def Z1t (p0 : Int) : Option Bool := (Z7 p0 1 6).bind fun r1 => some r1
theorem Za3 (p0 : Int) (r : Bool) (h : Z1t p0 = some r) : Ok Tryz.prog 61 [C.int p0] [] (fun c qs => c = C.bool r ∧ qs = []) := by
 refine Ok.of_body (rs := [.tmp 2]) Tryz.func61 rfl rfl rfl rfl rfl fun X => ?_
 unfold Z1t at h
 refine zz ?_
 refine ob' h fun r1 g2 h => ?_
 refine Ops.hd (ns := []) rfl rfl (op_callE (Zh _ _ _ _ g2) rfl rfl) ?_
 refine zz ?_
 refine AW.ret ?_
 rw [← Option.some.inj h]
 exact ⟨[C.bool r1], _, Ghost.refl _, (.cons (.tmp rfl) .nil), [], _, _, rfl, ⟨rfl, rfl⟩⟩

def Z7p (p0 : Int) : Option Bool := (Z7 p0 0 1000000).bind fun r1 => some r1
theorem Zd5 (p0 : Int) (r : Bool) (h : Z7p p0 = some r) : Ok Tryz.prog 219 [C.int p0] [] (fun c qs => c = C.bool r ∧ qs = []) := by
 refine Ok.of_body (rs := [.tmp 2]) Tryz.func219 rfl rfl rfl rfl rfl fun X => ?_
 unfold Z7p at h
 refine zz ?_
 refine ob' h fun r1 g2 h => ?_
 refine Ops.hd (ns := []) rfl rfl (op_callE (Zh _ _ _ _ g2) rfl rfl) ?_
 refine zz ?_
 refine AW.ret ?_
 rw [← Option.some.inj h]
 exact ⟨[C.bool r1], _, Ghost.refl _, (.cons (.tmp rfl) .nil), [], _, _, rfl, ⟨rfl, rfl⟩⟩

def Z9x : Option Bool := some true
def Z3f (x12 : Int) (x22 : Bool) : Option (Int ⊕ (Bool ⊕ Unit)) := cond x22 (some (.inr (.inl false))) (some (.inl (IntKind.i64.wrap (x12 + 1))))
def Z3g (p0 : List Int) (p1 : Int) (p2 : Int) (x12 : Int) : Option (Int ⊕ (Bool ⊕ Unit)) := cond (decide (x12 < (p0.length : Int))) ((getI p0 x12).bind fun e14 => (Z7 e14 p1 p2).bind fun r16 => cond r16 (cond (decide (x12 > 0)) ((getI p0 (IntKind.i64.wrap (x12 - 1))).bind fun e20 => Z3f x12 (decide (e20 ≥ e14))) (Z3f x12 false)) (Z3f x12 true)) (some (.inr (.inr ())))
def Z7o (p0 : List Int) (p1 : Int) (p2 : Int) : Option Bool := (iter (Z3g p0 p1 p2) big 0).bind (fun z25 => match z25 with | .inl y24 => some y24 | .inr () => Z9x)
theorem Zd4 (p0 : List Int) (p1 : Int) (p2 : Int) (r : Bool) (h : Z7o p0 p1 p2 = some r) : Ok Tryz.prog 220 [C.im kI64 1 p0, C.int p1, C.int p2] [] (fun c qs => c = C.bool r ∧ qs = []) := by
 refine Ok.of_body (rs := [.tmp 6]) Tryz.func220 rfl rfl rfl rfl rfl fun X => ?_
 unfold Z7o at h
 refine AW.seq ?_
 refine AW.region ?_
 refine Ops.v rfl (op_assign rfl rfl) ?_
 refine Ops.nil ?_
 refine AW.seq ?_
 refine AW.cut (τ := Unit) (fun (_ : Unit) => ⟨[], []⟩) (fun (_ : Unit) => Z9x = some r) ?_ ?_
 ·
  refine zz ?_
  refine ob' h fun o26 g27 q28 => ?_
  refine AW.loop (τ := Int) (x := 0) (fun x12 => ⟨[(0, C.im kI64 1 p0), (1, C.int p1), (2, C.int p2), (9, C.im kI64 1 p0), (10, C.int (p0.length : Int)), (11, C.int x12)], []⟩) (fun k x12 => iter (Z3g p0 p1 p2) k x12 = some o26) g27 (Ghost.both (ns := []) rfl rfl) ?_
  intro k x12 i30
  refine iter_succ' (show iter (Z3g p0 p1 p2) k x12 = some o26 from i30) fun k29 y31 hlt_k29 h h32 => ?_
  replace h : Z3g p0 p1 p2 x12 = some y31 := h
  unfold Z3g at h
  refine zz ?_
  refine cnd h (fun hb13 h => ?_) fun hb13 h => ?_
  ·
   refine AW.ct hb13 rfl ?_
   refine zz ?_
   refine ob' h fun e14 g15 h => ?_
   refine Ops.v rfl (op_indexAddr_im sl_26.h rfl rfl g15 rfl) ?_
   refine Ops.v rfl (op_load_ip ld_2.h rfl rfl) ?_
   refine Ops.v rfl (op_assign rfl rfl) ?_
   refine Ops.v rfl (op_assign rfl rfl) ?_
   refine Ops.nil ?_
   refine AW.seq ?_
   refine AW.cut (τ := Bool) (fun x22 => ⟨[(0, C.im kI64 1 p0), (1, C.int p1), (2, C.int p2), (9, C.im kI64 1 p0), (10, C.int (p0.length : Int)), (11, C.int x12), (33, C.bool x22)], []⟩) (fun x22 => Z3f x12 x22 = some y31) ?_ ?_
   ·
    refine zz ?_
    refine ob' h fun r16 g17 h => ?_
    refine Ops.hd (ns := []) rfl rfl (op_callE (Zh _ _ _ _ g17) rfl rfl) ?_
    refine zz ?_
    refine cnd h (fun hb18 h => ?_) fun hb18 h => ?_
    ·
     refine Ops.gv rfl rfl rfl rfl (not_t hb18) (op_move rfl rfl) ?_
     refine Ops.gv rfl rfl rfl rfl (not_t hb18) (op_bin rfl rfl rfl rfl) ?_
     refine Ops.gv rfl rfl rfl rfl (not_t hb18) (op_move rfl rfl) ?_
     refine cnd h (fun hb19 h => ?_) fun hb19 h => ?_
     ·
      refine zz ?_
      refine ob' h fun e20 g21 h => ?_
      refine Ops.gv rfl rfl rfl rfl hb19 (op_indexAddr_im sl_26.h rfl rfl g21 rfl) ?_
      refine Ops.gv rfl rfl rfl rfl hb19 (op_load_ip ld_2.h rfl rfl) ?_
      refine Ops.gv rfl rfl rfl rfl hb19 (op_move rfl rfl) ?_
      refine Ops.gv rfl rfl rfl rfl hb19 (op_bin rfl rfl rfl rfl) ?_
      refine Ops.gv rfl rfl rfl rfl (not_t hb18) (op_pick_t rfl hb19 rfl rfl) ?_
      refine Ops.v rfl (op_pick_f rfl (not_t hb18) rfl rfl) ?_
      refine zz ?_
      exact ⟨decide (e20 ≥ e14), h, Ghost.both (ns := []) rfl rfl⟩
     refine Ops.gs rfl rfl rfl (.b rfl hb19) rfl rfl ?_
     refine Ops.gs rfl rfl rfl (.b rfl hb19) rfl rfl ?_
     refine Ops.gs rfl rfl rfl (.b rfl hb19) rfl rfl ?_
     refine Ops.gs rfl rfl rfl (.b rfl hb19) rfl rfl ?_
     refine Ops.gs rfl rfl rfl (.b rfl hb19) rfl rfl ?_
     refine Ops.gs rfl rfl rfl (.b rfl hb19) rfl rfl ?_
     refine Ops.gs rfl rfl rfl (.b rfl hb19) rfl rfl ?_
     refine Ops.gv rfl rfl rfl rfl (not_t hb18) (op_pick_f rfl hb19 rfl rfl) ?_
     refine Ops.v rfl (op_pick_f rfl (not_t hb18) rfl rfl) ?_
     refine zz ?_
     exact ⟨false, h, Ghost.both (ns := []) rfl rfl⟩
    iterate 3 refine Ops.gs rfl rfl rfl (.b rfl (not_f hb18)) rfl rfl ?_
    refine zz ?_
    refine Ops.gs rfl rfl rfl (.b rfl (not_f hb18)) rfl rfl ?_
    refine Ops.v rfl (op_pick_t rfl (not_f hb18) rfl rfl) ?_
    refine zz ?_
    exact ⟨true, h, Ghost.both (ns := []) rfl rfl⟩
   intro x22 h
   replace h : Z3f x12 x22 = some y31 := h
   unfold Z3f at h
   refine cnd h (fun hb23 h => ?_) fun hb23 h => ?_
   ·
    refine AW.ct hb23 rfl ?_
    refine zz ?_
    refine AW.ret ?_
    obtain rfl := Option.some.inj h
    obtain rfl := Option.some.inj h32
    replace h := q28
    rw [← Option.some.inj h]
    exact ⟨[C.bool false], _, Ghost.refl _, (.cons (.tmp rfl) .nil), [], _, _, rfl, ⟨rfl, rfl⟩⟩
   refine AW.cf hb23 rfl ?_
   refine zz ?_
   obtain rfl := Option.some.inj h
   exact ⟨k29, (IntKind.i64.wrap (x12 + 1)), hlt_k29, h32, Ghost.both (ns := []) rfl rfl⟩
  refine AW.cf hb13 rfl ?_
  refine AW.exit ?_
  obtain rfl := Option.some.inj h
  obtain rfl := Option.some.inj h32
  replace h := q28
  exact ⟨(), h, Ghost.both (ns := []) rfl rfl⟩
 rintro ⟨⟩ h
 replace h : Z9x = some r := h
 unfold Z9x at h
 refine zz ?_
 refine AW.ret ?_
 rw [← Option.some.inj h]
 exact ⟨[C.bool true], _, Ghost.refl _, (.cons (.tmp rfl) .nil), [], _, _, rfl, ⟨rfl, rfl⟩⟩

def Zar : Option Int := some (-1)
def Z23 (p0 : List Int) (p1 : Int) (x5 : Int) : Option (Int ⊕ (Int ⊕ Unit)) := cond (decide (x5 < (p0.length : Int))) ((getI p0 x5).bind fun e7 => cond (p1 == e7) (some (.inr (.inl x5))) (some (.inl (IntKind.i64.wrap (x5 + 1))))) (some (.inr (.inr ())))
def Zaq (p0 : List Int) (p1 : Int) : Option Int := (iter (Z23 p0 p1) big 0).bind (fun z11 => match z11 with | .inl y10 => some y10 | .inr () => Zar)
theorem Zdy (p0 : List Int) (p1 : Int) (r : Int) (h : Zaq p0 p1 = some r) : Ok Tryz.prog 217 [C.im kI64 1 p0, C.int p1] [] (fun c qs => c = C.int r ∧ qs = []) := by
 refine Ok.of_body (rs := [.tmp 4]) Tryz.func217 rfl rfl rfl rfl rfl fun X => ?_
 unfold Zaq at h
 refine AW.seq ?_
 refine AW.region ?_
 refine Ops.v rfl (op_assign rfl rfl) ?_
 refine Ops.nil ?_
 refine AW.seq ?_
 refine AW.cut (τ := Unit) (fun (_ : Unit) => ⟨[], []⟩) (fun (_ : Unit) => Zar = some r) ?_ ?_
 ·
  refine zz ?_
  refine ob' h fun o12 g13 q14 => ?_
  refine AW.loop (τ := Int) (x := 0) (fun x5 => ⟨[(0, C.im kI64 1 p0), (1, C.int p1), (7, C.int (p0.length : Int)), (8, C.int x5)], []⟩) (fun k x5 => iter (Z23 p0 p1) k x5 = some o12) g13 (Ghost.both (ns := []) rfl rfl) ?_
  intro k x5 i16
  refine iter_succ' (show iter (Z23 p0 p1) k x5 = some o12 from i16) fun k15 y17 hlt_k15 h h18 => ?_
  replace h : Z23 p0 p1 x5 = some y17 := h
  unfold Z23 at h
  refine zz ?_
  refine cnd h (fun hb6 h => ?_) fun hb6 h => ?_
  ·
   refine AW.ct hb6 rfl ?_
   refine zz ?_
   refine ob' h fun e7 g8 h => ?_
   refine Ops.v rfl (op_indexAddr_im sl_26.h rfl rfl g8 rfl) ?_
   refine Ops.v rfl (op_load_ip ld_2.h rfl rfl) ?_
   refine zz ?_
   refine cnd h (fun hb9 h => ?_) fun hb9 h => ?_
   ·
    refine AW.ct hb9 rfl ?_
    refine zz ?_
    refine AW.ret ?_
    obtain rfl := Option.some.inj h
    obtain rfl := Option.some.inj h18
    replace h := q14
    rw [← Option.some.inj h]
    exact ⟨[C.int x5], _, Ghost.refl _, (.cons (.tmp rfl) .nil), [], _, _, rfl, ⟨rfl, rfl⟩⟩
   refine AW.cf hb9 rfl ?_
   refine zz ?_
   obtain rfl := Option.some.inj h
   exact ⟨k15, (IntKind.i64.wrap (x5 + 1)), hlt_k15, h18, Ghost.both (ns := []) rfl rfl⟩
  refine AW.cf hb6 rfl ?_
  refine AW.exit ?_
  obtain rfl := Option.some.inj h
  obtain rfl := Option.some.inj h18
  replace h := q14
  exact ⟨(), h, Ghost.both (ns := []) rfl rfl⟩
 rintro ⟨⟩ h
 replace h : Zar = some r := h
 unfold Zar at h
 refine zz ?_
 refine AW.ret ?_
 rw [← Option.some.inj h]
 exact ⟨[C.int (-1)], _, Ghost.refl _, (.cons (.tmp rfl) .nil), [], _, _, rfl, ⟨rfl, rfl⟩⟩

def Z5u (p0 : List Int) (p1 : Int) : Option Bool := (Zaq p0 p1).bind fun r1 => some (decide (r1 ≥ 0))
theorem Zc4 (p0 : List Int) (p1 : Int) (r : Bool) (h : Z5u p0 p1 = some r) : Ok Tryz.prog 197 [C.im kI64 1 p0, C.int p1] [] (fun c qs => c = C.bool r ∧ qs = []) := by
 refine Ok.of_body (rs := [.tmp 4]) Tryz.func197 rfl rfl rfl rfl rfl fun X => ?_
 unfold Z5u at h
 refine zz ?_
 refine ob' h fun r1 g2 h => ?_
 refine Ops.hd (ns := []) rfl rfl (op_callE (Zdy _ _ _ g2) rfl rfl) ?_
 refine zz ?_
 refine AW.ret ?_
 rw [← Option.some.inj h]
 exact ⟨[C.bool (decide (r1 ≥ 0))], _, Ghost.refl _, (.cons (.tmp rfl) .nil), [], _, _, rfl, ⟨rfl, rfl⟩⟩

def Z2u (x5 : Bool) : Option Bool := some x5
def Z2v (x13 : Bool) : Option Bool := some x13
def Z2w (x21 : Bool) : Option Bool := some x21
def Z2x (x25 : Bool) : Option Bool := some x25
def Z2y (x31 : Bool) : Option Bool := some x31
def Z2z (x37 : Bool) : Option Bool := some x37
def Z30 (x43 : Bool) : Option Bool := some x43
def Z1c (x49 : Bool) : Option Bool := some x49
def Z76 (p0 : TEvent) : Option Bool := cond (p0.kind == 1) (cond (p0.key == 0) (cond (p0.n == 0) (Z2u ((p0.text.size : Int) == 0)) (Z2u false)) (Z2u false)) (cond (p0.kind == 2) ((Z1t p0.key).bind fun r7 => cond r7 ((Z7 p0.n 1 4).bind fun r10 => cond r10 (Z2v ((p0.text.size : Int) == 0)) (Z2v false)) (Z2v false)) (cond (p0.kind == 3) ((Z1t p0.key).bind fun r15 => cond r15 ((Z7 p0.n 0 100).bind fun r18 => cond r18 (Z2w ((p0.text.size : Int) == 0)) (Z2w false)) (Z2w false)) (cond (p0.kind == 4) (cond (p0.key == 0) (cond (p0.n == 0) (Z2x (decide ((p0.text.size : Int) ≤ 30))) (Z2x false)) (Z2x false)) (cond (p0.kind == 5) (cond (p0.key == 0) ((Z7 p0.n 1 2).bind fun r28 => cond r28 (Z2y ((p0.text.size : Int) == 0)) (Z2y false)) (Z2y false)) (cond (p0.kind == 6) (cond (p0.key == 0) ((Z7 p0.n 1 3).bind fun r34 => cond r34 (Z2z ((p0.text.size : Int) == 0)) (Z2z false)) (Z2z false)) (cond (p0.kind == 7) (cond (p0.key == 0) (cond (p0.n == 0) ((Z7 (p0.text.size : Int) 1 30).bind fun r41 => Z30 r41) (Z30 false)) (Z30 false)) (cond (p0.kind == 8) ((Z5j p0.key).bind fun r45 => cond r45 (cond (p0.n == 0) (Z1c ((p0.text.size : Int) == 0)) (Z1c false)) (Z1c false)) (Z1c false))))))))
set_option maxHeartbeats 1000000 in
theorem Zcn (p0 : TEvent) (r : Bool) (h : Z76 p0 = some r) : Ok Tryz.prog 221 [C.agg [C.int p0.id, C.int p0.room, C.int p0.author, C.int p0.kind, C.int p0.key, C.int p0.n, C.str p0.text, C.im kI64 1 p0.prev, C.int p0.time]] [] (fun c qs => c = C.bool r ∧ qs = []) := by
 refine Ok.of_body (rs := [.tmp 2]) Tryz.func221 rfl rfl rfl rfl rfl fun X => ?_
 unfold Z76 at h
 refine zz ?_
 refine Ops.h (ns := []) rfl rfl (op_boxA rfl rfl) ?_
 rintro _ _ ⟨b1, rfl, rfl⟩
 refine zz ?_
 refine AW.regionD (L := [1, 4, 7]) (Lt := []) (k := .light 0 false (.light 1 true (.light 2 false (.light 3 false (.light 4 true (.light 5 false (.light 6 false (.light 7 true (.light 8 false (.light 9 false (.light 10 false (.light 11 false .done)))))))))))) (ns := [0]) (by kernel_rfl) (by kernel_rfl) (by kernel_rfl) (by kernel_rfl) rfl ?_
 refine zz ?_
 refine OpsD.v rfl rfl (op_len_str un_9 rfl rfl) ?_
 refine zz ?_
 refine cnd h (fun hb2 h => ?_) fun hb2 h => ?_
 ·
  refine AW.ct hb2 rfl ?_
  refine AW.seq ?_
  refine AW.cut (τ := Bool) (fun x5 => ⟨[(2, C.bool x5)], []⟩) (fun x5 => Z2u x5 = some r) ?_ ?_
  ·
   refine zz ?_
   refine cnd h (fun hb3 h => ?_) fun hb3 h => ?_
   ·
    refine zz ?_
    refine cnd h (fun hb4 h => ?_) fun hb4 h => ?_
    ·
     refine zz ?_
     exact ⟨((p0.text.size : Int) == 0), h, Ghost.both (ns := []) rfl rfl⟩
    refine zz ?_
    exact ⟨false, h, Ghost.both (ns := []) rfl rfl⟩
   refine zz ?_
   exact ⟨false, h, Ghost.both (ns := []) rfl rfl⟩
  intro x5 h
  replace h : Z2u x5 = some r := h
  unfold Z2u at h
  refine AW.ret ?_
  rw [← Option.some.inj h]
  exact ⟨[C.bool x5], _, Ghost.refl _, (.cons (.tmp rfl) .nil), [], _, _, rfl, ⟨rfl, rfl⟩⟩
 refine AW.cf hb2 rfl ?_
 refine zz ?_
 refine cnd h (fun hb6 h => ?_) fun hb6 h => ?_
 ·
  refine AW.ct hb6 rfl ?_
  refine AW.seq ?_
  refine AW.cut (τ := Bool) (fun x13 => ⟨[(2, C.bool x13)], []⟩) (fun x13 => Z2v x13 = some r) ?_ ?_
  ·
   refine zz ?_
   refine ob' h fun r7 g8 h => ?_
   refine Ops.hd (ns := []) rfl rfl (op_callE (Za3 _ _ g8) rfl rfl) ?_
   refine zz ?_
   refine cnd h (fun hb9 h => ?_) fun hb9 h => ?_
   ·
    refine zz ?_
    refine ob' h fun r10 g11 h => ?_
    refine Ops.ghd (ns := []) rfl rfl rfl rfl hb9 rfl (op_callE (Zh _ _ _ _ g11) rfl rfl) ?_
    refine zz ?_
    refine cnd h (fun hb12 h => ?_) fun hb12 h => ?_
    ·
     refine zz ?_
     exact ⟨((p0.text.size : Int) == 0), h, Ghost.both (ns := []) rfl rfl⟩
    refine zz ?_
    exact ⟨false, h, Ghost.both (ns := []) rfl rfl⟩
   refine zz ?_
   exact ⟨false, h, Ghost.both (ns := []) rfl rfl⟩
  intro x13 h
  replace h : Z2v x13 = some r := h
  unfold Z2v at h
  refine AW.ret ?_
  rw [← Option.some.inj h]
  exact ⟨[C.bool x13], _, Ghost.refl _, (.cons (.tmp rfl) .nil), [], _, _, rfl, ⟨rfl, rfl⟩⟩
 refine AW.cf hb6 rfl ?_
 refine zz ?_
 refine cnd h (fun hb14 h => ?_) fun hb14 h => ?_
 ·
  refine AW.ct hb14 rfl ?_
  refine AW.seq ?_
  refine AW.cut (τ := Bool) (fun x21 => ⟨[(2, C.bool x21)], []⟩) (fun x21 => Z2w x21 = some r) ?_ ?_
  ·
   refine zz ?_
   refine ob' h fun r15 g16 h => ?_
   refine Ops.hd (ns := []) rfl rfl (op_callE (Za3 _ _ g16) rfl rfl) ?_
   refine zz ?_
   refine cnd h (fun hb17 h => ?_) fun hb17 h => ?_
   ·
    refine zz ?_
    refine ob' h fun r18 g19 h => ?_
    refine Ops.ghd (ns := []) rfl rfl rfl rfl hb17 rfl (op_callE (Zh _ _ _ _ g19) rfl rfl) ?_
    refine zz ?_
    refine cnd h (fun hb20 h => ?_) fun hb20 h => ?_
    ·
     refine zz ?_
     exact ⟨((p0.text.size : Int) == 0), h, Ghost.both (ns := []) rfl rfl⟩
    refine zz ?_
    exact ⟨false, h, Ghost.both (ns := []) rfl rfl⟩
   refine zz ?_
   exact ⟨false, h, Ghost.both (ns := []) rfl rfl⟩
  intro x21 h
  replace h : Z2w x21 = some r := h
  unfold Z2w at h
  refine AW.ret ?_
  rw [← Option.some.inj h]
  exact ⟨[C.bool x21], _, Ghost.refl _, (.cons (.tmp rfl) .nil), [], _, _, rfl, ⟨rfl, rfl⟩⟩
 refine AW.cf hb14 rfl ?_
 refine zz ?_
 refine cnd h (fun hb22 h => ?_) fun hb22 h => ?_
 ·
  refine AW.ct hb22 rfl ?_
  refine AW.seq ?_
  refine AW.cut (τ := Bool) (fun x25 => ⟨[(2, C.bool x25)], []⟩) (fun x25 => Z2x x25 = some r) ?_ ?_
  ·
   refine zz ?_
   refine cnd h (fun hb23 h => ?_) fun hb23 h => ?_
   ·
    refine zz ?_
    refine cnd h (fun hb24 h => ?_) fun hb24 h => ?_
    ·
     refine zz ?_
     exact ⟨decide ((p0.text.size : Int) ≤ 30), h, Ghost.both (ns := []) rfl rfl⟩
    refine zz ?_
    exact ⟨false, h, Ghost.both (ns := []) rfl rfl⟩
   refine zz ?_
   exact ⟨false, h, Ghost.both (ns := []) rfl rfl⟩
  intro x25 h
  replace h : Z2x x25 = some r := h
  unfold Z2x at h
  refine AW.ret ?_
  rw [← Option.some.inj h]
  exact ⟨[C.bool x25], _, Ghost.refl _, (.cons (.tmp rfl) .nil), [], _, _, rfl, ⟨rfl, rfl⟩⟩
 refine AW.cf hb22 rfl ?_
 refine zz ?_
 refine cnd h (fun hb26 h => ?_) fun hb26 h => ?_
 ·
  refine AW.ct hb26 rfl ?_
  refine AW.seq ?_
  refine AW.cut (τ := Bool) (fun x31 => ⟨[(2, C.bool x31)], []⟩) (fun x31 => Z2y x31 = some r) ?_ ?_
  ·
   refine zz ?_
   refine cnd h (fun hb27 h => ?_) fun hb27 h => ?_
   ·
    refine zz ?_
    refine ob' h fun r28 g29 h => ?_
    refine Ops.ghd (ns := []) rfl rfl rfl rfl hb27 rfl (op_callE (Zh _ _ _ _ g29) rfl rfl) ?_
    refine zz ?_
    refine cnd h (fun hb30 h => ?_) fun hb30 h => ?_
    ·
     refine zz ?_
     exact ⟨((p0.text.size : Int) == 0), h, Ghost.both (ns := []) rfl rfl⟩
    refine zz ?_
    exact ⟨false, h, Ghost.both (ns := []) rfl rfl⟩
   refine zz ?_
   exact ⟨false, h, Ghost.both (ns := []) rfl rfl⟩
  intro x31 h
  replace h : Z2y x31 = some r := h
  unfold Z2y at h
  refine AW.ret ?_
  rw [← Option.some.inj h]
  exact ⟨[C.bool x31], _, Ghost.refl _, (.cons (.tmp rfl) .nil), [], _, _, rfl, ⟨rfl, rfl⟩⟩
 refine AW.cf hb26 rfl ?_
 refine zz ?_
 refine cnd h (fun hb32 h => ?_) fun hb32 h => ?_
 ·
  refine AW.ct hb32 rfl ?_
  refine AW.seq ?_
  refine AW.cut (τ := Bool) (fun x37 => ⟨[(2, C.bool x37)], []⟩) (fun x37 => Z2z x37 = some r) ?_ ?_
  ·
   refine zz ?_
   refine cnd h (fun hb33 h => ?_) fun hb33 h => ?_
   ·
    refine zz ?_
    refine ob' h fun r34 g35 h => ?_
    refine Ops.ghd (ns := []) rfl rfl rfl rfl hb33 rfl (op_callE (Zh _ _ _ _ g35) rfl rfl) ?_
    refine zz ?_
    refine cnd h (fun hb36 h => ?_) fun hb36 h => ?_
    ·
     refine zz ?_
     exact ⟨((p0.text.size : Int) == 0), h, Ghost.both (ns := []) rfl rfl⟩
    refine zz ?_
    exact ⟨false, h, Ghost.both (ns := []) rfl rfl⟩
   refine zz ?_
   exact ⟨false, h, Ghost.both (ns := []) rfl rfl⟩
  intro x37 h
  replace h : Z2z x37 = some r := h
  unfold Z2z at h
  refine AW.ret ?_
  rw [← Option.some.inj h]
  exact ⟨[C.bool x37], _, Ghost.refl _, (.cons (.tmp rfl) .nil), [], _, _, rfl, ⟨rfl, rfl⟩⟩
 refine AW.cf hb32 rfl ?_
 refine zz ?_
 refine cnd h (fun hb38 h => ?_) fun hb38 h => ?_
 ·
  refine AW.ct hb38 rfl ?_
  refine AW.seq ?_
  refine AW.cut (τ := Bool) (fun x43 => ⟨[(2, C.bool x43)], []⟩) (fun x43 => Z30 x43 = some r) ?_ ?_
  ·
   refine zz ?_
   refine cnd h (fun hb39 h => ?_) fun hb39 h => ?_
   ·
    refine zz ?_
    refine cnd h (fun hb40 h => ?_) fun hb40 h => ?_
    ·
     refine zz ?_
     refine ob' h fun r41 g42 h => ?_
     refine Ops.ghd (ns := []) rfl rfl rfl rfl hb40 rfl (op_callE (Zh _ _ _ _ g42) rfl rfl) ?_
     refine zz ?_
     exact ⟨r41, h, Ghost.both (ns := []) rfl rfl⟩
    refine zz ?_
    exact ⟨false, h, Ghost.both (ns := []) rfl rfl⟩
   refine zz ?_
   exact ⟨false, h, Ghost.both (ns := []) rfl rfl⟩
  intro x43 h
  replace h : Z30 x43 = some r := h
  unfold Z30 at h
  refine AW.ret ?_
  rw [← Option.some.inj h]
  exact ⟨[C.bool x43], _, Ghost.refl _, (.cons (.tmp rfl) .nil), [], _, _, rfl, ⟨rfl, rfl⟩⟩
 refine AW.cf hb38 rfl ?_
 refine AW.skip ?_
 refine AW.seq ?_
 refine AW.cut (τ := Bool) (fun x49 => ⟨[(2, C.bool x49)], []⟩) (fun x49 => Z1c x49 = some r) ?_ ?_
 ·
  refine zz ?_
  refine cnd h (fun hb44 h => ?_) fun hb44 h => ?_
  ·
   refine zz ?_
   refine ob' h fun r45 g46 h => ?_
   refine Ops.ghd (ns := []) rfl rfl rfl rfl hb44 rfl (op_callE (Zbx _ _ g46) rfl rfl) ?_
   refine zz ?_
   refine cnd h (fun hb47 h => ?_) fun hb47 h => ?_
   ·
    refine zz ?_
    refine cnd h (fun hb48 h => ?_) fun hb48 h => ?_
    ·
     refine zz ?_
     exact ⟨((p0.text.size : Int) == 0), h, Ghost.both (ns := []) rfl rfl⟩
    refine zz ?_
    exact ⟨false, h, Ghost.both (ns := []) rfl rfl⟩
   refine zz ?_
   exact ⟨false, h, Ghost.both (ns := []) rfl rfl⟩
  refine zz ?_
  exact ⟨false, h, Ghost.both (ns := []) rfl rfl⟩
 intro x49 h
 replace h : Z1c x49 = some r := h
 unfold Z1c at h
 refine AW.ret ?_
 rw [← Option.some.inj h]
 exact ⟨[C.bool x49], _, Ghost.refl _, (.cons (.tmp rfl) .nil), [], _, _, rfl, ⟨rfl, rfl⟩⟩

def Z9 (x23 : Bool) : Option Bool := some x23
def Z9m (p0 : TEvent) : Option Bool := (Z5j p0.id).bind fun r2 => cond r2 ((Z5k p0.room).bind fun r5 => cond r5 ((Z1t p0.author).bind fun r8 => cond r8 ((Z7p p0.time).bind fun r11 => cond r11 (cond (decide ((p0.prev.length : Int) ≤ 4)) ((Z7o p0.prev 1 1000000).bind fun r15 => cond r15 ((Z5u p0.prev p0.id).bind fun r18 => cond r18 (Z9 false) ((Z76 p0).bind fun r21 => Z9 r21)) (Z9 false)) (Z9 false)) (Z9 false)) (Z9 false)) (Z9 false)) (Z9 false)
set_option maxHeartbeats 1000000 in
theorem Zco (p0 : TEvent) (r : Bool) (h : Z9m p0 = some r) : Ok Tryz.prog 198 [C.agg [C.int p0.id, C.int p0.room, C.int p0.author, C.int p0.kind, C.int p0.key, C.int p0.n, C.str p0.text, C.im kI64 1 p0.prev, C.int p0.time]] [] (fun c qs => c = C.bool r ∧ qs = []) := by
 refine Ok.of_body (rs := [.tmp 2]) Tryz.func198 rfl rfl rfl rfl rfl fun X => ?_
 unfold Z9m at h
 refine zz ?_
 refine Ops.h (ns := []) rfl rfl (op_boxA rfl rfl) ?_
 rintro _ _ ⟨b1, rfl, rfl⟩
 refine Ops.v rfl (op_assign rfl rfl) ?_
 refine Ops.nil ?_
 refine AW.seq ?_
 refine AW.cut (τ := Bool) (fun x23 => ⟨[(2, C.bool x23)], []⟩) (fun x23 => Z9 x23 = some r) ?_ ?_
 ·
  refine zz ?_
  refine ob' h fun r2 g3 h => ?_
  refine Ops.hd (ns := []) rfl rfl (op_callE (Zbx _ _ g3) rfl rfl) ?_
  refine zz ?_
  refine cnd h (fun hb4 h => ?_) fun hb4 h => ?_
  ·
   refine zz ?_
   refine ob' h fun r5 g6 h => ?_
   refine Ops.ghd (ns := []) rfl rfl rfl rfl hb4 rfl (op_callE (Zby _ _ g6) rfl rfl) ?_
   refine zz ?_
   refine cnd h (fun hb7 h => ?_) fun hb7 h => ?_
   ·
    refine zz ?_
    refine ob' h fun r8 g9 h => ?_
    refine Ops.ghd (ns := []) rfl rfl rfl rfl hb7 rfl (op_callE (Za3 _ _ g9) rfl rfl) ?_
    refine zz ?_
    refine cnd h (fun hb10 h => ?_) fun hb10 h => ?_
    ·
     refine zz ?_
     refine ob' h fun r11 g12 h => ?_
     refine Ops.ghd (ns := []) rfl rfl rfl rfl hb10 rfl (op_callE (Zd5 _ _ g12) rfl rfl) ?_
     refine zz ?_
     refine cnd h (fun hb13 h => ?_) fun hb13 h => ?_
     ·
      refine zz ?_
      refine cnd h (fun hb14 h => ?_) fun hb14 h => ?_
      ·
       refine zz ?_
       refine ob' h fun r15 g16 h => ?_
       refine Ops.ghd (ns := []) rfl rfl rfl rfl hb14 rfl (op_callE (Zd4 _ _ _ _ g16) rfl rfl) ?_
       refine zz ?_
       refine cnd h (fun hb17 h => ?_) fun hb17 h => ?_
       ·
        refine zz ?_
        refine ob' h fun r18 g19 h => ?_
        refine Ops.ghd (ns := []) rfl rfl rfl rfl hb17 rfl (op_callE (Zc4 _ _ _ g19) rfl rfl) ?_
        refine zz ?_
        refine cnd h (fun hb20 h => ?_) fun hb20 h => ?_
        ·
         iterate 2 refine Ops.gs rfl rfl rfl (.b rfl (not_t hb20)) rfl rfl ?_
         refine Ops.v rfl (op_pick_f rfl (not_t hb20) rfl rfl) ?_
         refine zz ?_
         exact ⟨false, h, Ghost.both (ns := []) rfl rfl⟩
        refine Ops.gv rfl rfl rfl rfl (not_f hb20) (op_loadA (p := 0) (ds := [C.int p0.id, C.int p0.room, C.int p0.author, C.int p0.kind, C.int p0.key, C.int p0.n, C.str p0.text, C.im kI64 1 p0.prev, C.int p0.time]) ld_38.h rfl rfl rfl rfl rfl) ?_
        refine ob' h fun r21 g22 h => ?_
        refine Ops.ghd (ns := []) rfl rfl rfl rfl (not_f hb20) rfl (op_callE (Zcn _ _ g22) rfl rfl) ?_
        refine Ops.v rfl (op_pick_t rfl (not_f hb20) rfl rfl) ?_
        refine zz ?_
        exact ⟨r21, h, Ghost.both (ns := []) rfl rfl⟩
       refine zz ?_
       exact ⟨false, h, Ghost.both (ns := []) rfl rfl⟩
      refine zz ?_
      exact ⟨false, h, Ghost.both (ns := []) rfl rfl⟩
     refine zz ?_
     exact ⟨false, h, Ghost.both (ns := []) rfl rfl⟩
    refine zz ?_
    exact ⟨false, h, Ghost.both (ns := []) rfl rfl⟩
   refine zz ?_
   exact ⟨false, h, Ghost.both (ns := []) rfl rfl⟩
  refine zz ?_
  exact ⟨false, h, Ghost.both (ns := []) rfl rfl⟩
 intro x23 h
 replace h : Z9 x23 = some r := h
 unfold Z9 at h
 refine AW.ret ?_
 rw [← Option.some.inj h]
 exact ⟨[C.bool x23], _, Ghost.refl _, (.cons (.tmp rfl) .nil), [], _, _, rfl, ⟨rfl, rfl⟩⟩

def Z4t (x5 : Bool) : Option Bool := some x5
def Z4s (p0 : TEvent) : Option Bool := (Z9m p0).bind fun r2 => cond r2 (Z4t ((p0.kind == 1) == ((p0.prev.length : Int) == 0))) (Z4t false)
theorem Zcm (p0 : TEvent) (r : Bool) (h : Z4s p0 = some r) : Ok Tryz.prog 166 [C.agg [C.int p0.id, C.int p0.room, C.int p0.author, C.int p0.kind, C.int p0.key, C.int p0.n, C.str p0.text, C.im kI64 1 p0.prev, C.int p0.time]] [] (fun c qs => c = C.bool r ∧ qs = []) := by
 refine Ok.of_body (rs := [.tmp 2]) Tryz.func166 rfl rfl rfl rfl rfl fun X => ?_
 unfold Z4s at h
 refine zz ?_
 refine Ops.h (ns := []) rfl rfl (op_boxA rfl rfl) ?_
 rintro _ _ ⟨b1, rfl, rfl⟩
 refine Ops.v rfl (op_assign rfl rfl) ?_
 refine Ops.nil ?_
 refine AW.seq ?_
 refine AW.cut (τ := Bool) (fun x5 => ⟨[(2, C.bool x5)], []⟩) (fun x5 => Z4t x5 = some r) ?_ ?_
 ·
  refine zz ?_
  refine Ops.v rfl (op_loadA (p := 0) (ds := [C.int p0.id, C.int p0.room, C.int p0.author, C.int p0.kind, C.int p0.key, C.int p0.n, C.str p0.text, C.im kI64 1 p0.prev, C.int p0.time]) ld_38.h rfl rfl rfl rfl rfl) ?_
  refine ob' h fun r2 g3 h => ?_
  refine Ops.hd (ns := []) rfl rfl (op_callE (Zco _ _ g3) rfl rfl) ?_
  refine zz ?_
  refine cnd h (fun hb4 h => ?_) fun hb4 h => ?_
  ·
   refine zz ?_
   refine Ops.gv rfl rfl rfl rfl hb4 (op_bool_eql un_4 rfl rfl rfl) ?_
   refine zz ?_
   exact ⟨((p0.kind == 1) == ((p0.prev.length : Int) == 0)), h, Ghost.both (ns := []) rfl rfl⟩
  refine zz ?_
  exact ⟨false, h, Ghost.both (ns := []) rfl rfl⟩
 intro x5 h
 replace h : Z4t x5 = some r := h
 unfold Z4t at h
 refine AW.ret ?_
 rw [← Option.some.inj h]
 exact ⟨[C.bool x5], _, Ghost.refl _, (.cons (.tmp rfl) .nil), [], _, _, rfl, ⟨rfl, rfl⟩⟩

def Z9q : Option Bool := some true
def Z1g (x15 : Int) (x27 : Bool) : Option (Int ⊕ (Bool ⊕ Unit)) := cond x27 (some (.inr (.inl false))) (some (.inl (IntKind.i64.wrap (x15 + 1))))
def Z36 (p0 : TGraph') (p1 : List TEvent) (x15 : Int) : Option (Int ⊕ (Bool ⊕ Unit)) := cond (decide (x15 < (p1.length : Int))) ((getI p1 x15).bind fun e17 => (Z4s e17).bind fun r20 => cond r20 (cond (e17.room != p0.room) (Z1g x15 true) (cond (decide (x15 > 0)) ((getI p1 (IntKind.i64.wrap (x15 - 1))).bind fun e25 => Z1g x15 (decide (e25.id ≥ e17.id))) (Z1g x15 false))) (Z1g x15 true)) (some (.inr (.inr ())))
def Z53 (p0 : TGraph') (p1 : List TEvent) : Option Bool := (iter (Z36 p0 p1) big 0).bind (fun z30 => match z30 with | .inl y29 => some y29 | .inr () => Z9q)
set_option maxHeartbeats 1000000 in
theorem Zbo (p0 : TGraph') (p1 : List TEvent) (r : Bool) (h : Z53 p0 p1 = some r) : Ok Tryz.prog 112 [C.agg [C.int p0.room, C.im kEvent 9 p0.events, C.im kEvent 9 p0.parked], C.im kEvent 9 p1] [] (fun c qs => c = C.bool r ∧ qs = []) := by
 refine Ok.of_body (rs := [.tmp 4]) Tryz.func112 rfl rfl rfl rfl rfl fun X => ?_
 unfold Z53 at h
 refine zz ?_
 refine Ops.h (ns := []) rfl rfl (op_boxA rfl rfl) ?_
 rintro _ _ ⟨b1, rfl, rfl⟩
 refine Ops.v rfl (op_assign rfl rfl) ?_
 refine Ops.nil ?_
 refine AW.seq ?_
 refine AW.cut (τ := Unit) (fun (_ : Unit) => ⟨[], []⟩) (fun (_ : Unit) => Z9q = some r) ?_ ?_
 ·
  refine zz ?_
  refine ob' h fun o31 g32 q33 => ?_
  refine AW.loop (τ := Int) (x := 0) (fun x15 => ⟨[(1, C.im kEvent 9 p1), (2, C.val (.pointer (some ⟨b1, 0, none⟩))), (7, C.im kEvent 9 p1), (8, C.int (p1.length : Int)), (9, C.int x15)], [Obj.box b1 30 [C.int p0.room, C.im kEvent 9 p0.events, C.im kEvent 9 p0.parked]]⟩) (fun k x15 => iter (Z36 p0 p1) k x15 = some o31) g32 (Ghost.both (ns := [0]) rfl rfl) ?_
  intro k x15 i35
  refine iter_succ' (show iter (Z36 p0 p1) k x15 = some o31 from i35) fun k34 y36 hlt_k34 h h37 => ?_
  replace h : Z36 p0 p1 x15 = some y36 := h
  unfold Z36 at h
  refine zz ?_
  refine cnd h (fun hb16 h => ?_) fun hb16 h => ?_
  ·
   refine AW.ct hb16 rfl ?_
   refine zz ?_
   refine ob' h fun e17 g18 h => ?_
   refine Ops.v rfl (op_indexAddr_im sl_28.h rfl rfl g18 rfl) ?_
   refine Ops.v rfl (op_load_ipA ld_38.h rfl rfl rfl rfl) ?_
   refine Ops.h (ns := []) rfl rfl (op_alloc (cs := [C.int 0, C.int 0, C.int 0, C.int 0, C.int 0, C.int 0, C.str ByteArray.empty, C.val (.slice none 0 0), C.int 0]) ze_38 (cells_zero rfl rfl) rfl) ?_
   rintro _ _ ⟨b19, rfl, rfl⟩
   refine zz ?_
   refine Ops.hd (ns := [0]) rfl rfl (op_storeA (gs := [C.int e17.id, C.int e17.room, C.int e17.author, C.int e17.kind, C.int e17.key, C.int e17.n, C.str e17.text, C.im kI64 1 e17.prev, C.int e17.time]) ld_38.h rfl rfl rfl rfl rfl) ?_
   refine Ops.nil ?_
   refine AW.seq ?_
   refine AW.cut (τ := Bool) (fun x27 => ⟨[(1, C.im kEvent 9 p1), (2, C.val (.pointer (some ⟨b1, 0, none⟩))), (7, C.im kEvent 9 p1), (8, C.int (p1.length : Int)), (9, C.int x15), (38, C.bool x27)], [Obj.box b1 30 [C.int p0.room, C.im kEvent 9 p0.events, C.im kEvent 9 p0.parked]]⟩) (fun x27 => Z1g x15 x27 = some y36) ?_ ?_
   ·
    refine AW.regionD (L := [0, 5, 7, 19, 21]) (Lt := []) (k := .light 0 true (.one 1 (.light 2 false (.light 3 false (.light 4 false (.light 5 true (.light 6 false (.light 7 true (.light 8 false (.light 9 false (.light 10 false (.light 11 false (.light 12 false (.light 13 false (.light 14 false (.light 15 false (.light 16 false (.light 17 false (.light 18 false (.light 19 true (.light 20 false (.light 21 true (.light 22 false (.light 23 false (.light 24 false .done))))))))))))))))))))))))) (ns := [0, 0]) (by kernel_rfl) (by kernel_rfl) (by kernel_rfl) (by kernel_rfl) rfl ?_
    refine OpsD.v rfl rfl (op_loadA (p := 0) (ds := [C.int e17.id, C.int e17.room, C.int e17.author, C.int e17.kind, C.int e17.key, C.int e17.n, C.str e17.text, C.im kI64 1 e17.prev, C.int e17.time]) ld_38.h rfl rfl rfl rfl rfl) ?_
    refine zz ?_
    refine ob' h fun r20 g21 h => ?_
    refine StepD.h (ns := []) rfl rfl rfl (op_callE (Zcm _ _ g21) rfl rfl) ?_
    rintro _ _ ⟨rfl, rfl⟩
    refine zz ?_
    refine cnd h (fun hb22 h => ?_) fun hb22 h => ?_
    ·
     refine OpsD.gv rfl rfl rfl rfl rfl (not_t hb22) (op_fieldAddr fo_38_1.h rfl rfl) ?_
     refine OpsD.gv rfl rfl rfl rfl rfl (not_t hb22) (op_load (p := 0) ld_2.h rfl rfl rfl rfl) ?_
     refine OpsD.gv rfl rfl rfl rfl rfl (not_t hb22) (op_fieldAddr fo_30_0.h rfl rfl) ?_
     refine OpsD.gv rfl rfl rfl rfl rfl (not_t hb22) (op_load (p := 1) ld_2.h rfl rfl rfl rfl) ?_
     refine OpsD.gv rfl rfl rfl rfl rfl (not_t hb22) (op_bin rfl rfl rfl rfl) ?_
     refine OpsD.v rfl rfl (op_pick_f rfl (not_t hb22) rfl rfl) ?_
     refine zz ?_
     refine cnd h (fun hb23 h => ?_) fun hb23 h => ?_
     ·
      refine zz ?_
      exact ⟨true, h, Ghost.both (ns := [1]) rfl rfl⟩
     refine zz ?_
     refine cnd h (fun hb24 h => ?_) fun hb24 h => ?_
     ·
      refine zz ?_
      refine ob' h fun e25 g26 h => ?_
      refine OpsD.gv rfl rfl rfl rfl rfl hb24 (op_indexAddr_im sl_28.h rfl rfl g26 rfl) ?_
      refine OpsD.gv rfl rfl rfl rfl rfl hb24 (op_fieldAddr_ip fo_38_0.h rfl rfl rfl) ?_
      refine OpsD.gv rfl rfl rfl rfl rfl hb24 (op_load_ip ld_2.h rfl rfl) ?_
      refine zz ?_
      exact ⟨decide (e25.id ≥ e17.id), h, Ghost.both (ns := [1]) rfl rfl⟩
     refine zz ?_
     exact ⟨false, h, Ghost.both (ns := [1]) rfl rfl⟩
    iterate 5 refine OpsD.gs rfl rfl rfl rfl (.b rfl (not_f hb22)) rfl rfl ?_
    refine OpsD.v rfl rfl (op_pick_t rfl (not_f hb22) rfl rfl) ?_
    refine zz ?_
    exact ⟨true, h, Ghost.both (ns := [1]) rfl rfl⟩
   intro x27 h
   replace h : Z1g x15 x27 = some y36 := h
   unfold Z1g at h
   refine cnd h (fun hb28 h => ?_) fun hb28 h => ?_
   ·
    refine AW.ct hb28 rfl ?_
    refine zz ?_
    refine AW.ret ?_
    obtain rfl := Option.some.inj h
    obtain rfl := Option.some.inj h37
    replace h := q33
    rw [← Option.some.inj h]
    exact ⟨[C.bool false], _, Ghost.refl _, (.cons (.tmp rfl) .nil), [], _, _, rfl, ⟨rfl, rfl⟩⟩
   refine AW.cf hb28 rfl ?_
   refine zz ?_
   obtain rfl := Option.some.inj h
   exact ⟨k34, (IntKind.i64.wrap (x15 + 1)), hlt_k34, h37, Ghost.both (ns := [0]) rfl rfl⟩
  refine AW.cf hb16 rfl ?_
  refine AW.exit ?_
  obtain rfl := Option.some.inj h
  obtain rfl := Option.some.inj h37
  replace h := q33
  exact ⟨(), h, Ghost.both (ns := []) rfl rfl⟩
 rintro ⟨⟩ h
 replace h : Z9q = some r := h
 unfold Z9q at h
 refine zz ?_
 refine AW.ret ?_
 rw [← Option.some.inj h]
 exact ⟨[C.bool true], _, Ghost.refl _, (.cons (.tmp rfl) .nil), [], _, _, rfl, ⟨rfl, rfl⟩⟩

def Z75 (p0 : Int) : Option Bool := some (p0 != p0)
theorem Zbl (p0 : Int) (r : Bool) (h : Z75 p0 = some r) : Ok Tryz.prog 184 [C.int p0] [] (fun c qs => c = C.bool r ∧ qs = []) := by
 refine Ok.of_body (rs := [.tmp 2]) Tryz.func184 rfl rfl rfl rfl rfl fun X => ?_
 unfold Z75 at h
 refine zz ?_
 refine AW.ret ?_
 rw [← Option.some.inj h]
 exact ⟨[C.bool (p0 != p0)], _, Ghost.refl _, (.cons (.tmp rfl) .nil), [], _, _, rfl, ⟨rfl, rfl⟩⟩

def Zb (p0 : Int) (p1 : Int) : Option Int := (Z75 p0).bind fun r1 => (Z75 p1).bind fun r3 => cond r1 (cond r3 (some 0) (some (-1))) (cond r3 (some 1) (cond (decide (p0 < p1)) (some (-1)) (cond (decide (p0 > p1)) (some 1) (some 0))))
theorem Z3m (p0 : Int) (p1 : Int) (r : Int) (h : Zb p0 p1 = some r) : Ok Tryz.prog 141 [C.int p0, C.int p1] [] (fun c qs => c = C.int r ∧ qs = []) := by
 refine Ok.of_body (rs := [.tmp 4]) Tryz.func141 rfl rfl rfl rfl rfl fun X => ?_
 unfold Zb at h
 refine zz ?_
 refine ob' h fun r1 g2 h => ?_
 refine Ops.hd (ns := []) rfl rfl (op_callE (Zbl _ _ g2) rfl rfl) ?_
 refine zz ?_
 refine ob' h fun r3 g4 h => ?_
 refine Ops.hd (ns := []) rfl rfl (op_callE (Zbl _ _ g4) rfl rfl) ?_
 refine zz ?_
 refine cnd h (fun hb5 h => ?_) fun hb5 h => ?_
 ·
  refine AW.ct hb5 rfl ?_
  refine zz ?_
  refine cnd h (fun hb6 h => ?_) fun hb6 h => ?_
  ·
   refine AW.ct hb6 rfl ?_
   refine zz ?_
   refine AW.ret ?_
   rw [← Option.some.inj h]
   exact ⟨[C.int 0], _, Ghost.refl _, (.cons (.tmp rfl) .nil), [], _, _, rfl, ⟨rfl, rfl⟩⟩
  refine AW.cf hb6 rfl ?_
  refine zz ?_
  refine AW.ret ?_
  rw [← Option.some.inj h]
  exact ⟨[C.int (-1)], _, Ghost.refl _, (.cons (.tmp rfl) .nil), [], _, _, rfl, ⟨rfl, rfl⟩⟩
 refine AW.cf hb5 rfl ?_
 refine zz ?_
 refine cnd h (fun hb7 h => ?_) fun hb7 h => ?_
 ·
  refine AW.ct hb7 rfl ?_
  refine zz ?_
  refine AW.ret ?_
  rw [← Option.some.inj h]
  exact ⟨[C.int 1], _, Ghost.refl _, (.cons (.tmp rfl) .nil), [], _, _, rfl, ⟨rfl, rfl⟩⟩
 refine AW.cf hb7 rfl ?_
 refine zz ?_
 refine cnd h (fun hb8 h => ?_) fun hb8 h => ?_
 ·
  refine AW.ct hb8 rfl ?_
  refine zz ?_
  refine AW.ret ?_
  rw [← Option.some.inj h]
  exact ⟨[C.int (-1)], _, Ghost.refl _, (.cons (.tmp rfl) .nil), [], _, _, rfl, ⟨rfl, rfl⟩⟩
 refine AW.cf hb8 rfl ?_
 refine zz ?_
 refine cnd h (fun hb9 h => ?_) fun hb9 h => ?_
 ·
  refine AW.ct hb9 rfl ?_
  refine zz ?_
  refine AW.ret ?_
  rw [← Option.some.inj h]
  exact ⟨[C.int 1], _, Ghost.refl _, (.cons (.tmp rfl) .nil), [], _, _, rfl, ⟨rfl, rfl⟩⟩
 refine AW.cf hb9 rfl ?_
 refine zz ?_
 refine AW.ret ?_
 rw [← Option.some.inj h]
 exact ⟨[C.int 0], _, Ghost.refl _, (.cons (.tmp rfl) .nil), [], _, _, rfl, ⟨rfl, rfl⟩⟩

def Z5a (p0 : TEvent) (p1 : Int) : Option Int := (Zb p0.id p1).bind fun r2 => some r2
theorem Zbs (p0 : TEvent) (p1 : Int) (r : Int) (h : Z5a p0 p1 = some r) : Ok Tryz.prog 174 [C.agg [C.int p0.id, C.int p0.room, C.int p0.author, C.int p0.kind, C.int p0.key, C.int p0.n, C.str p0.text, C.im kI64 1 p0.prev, C.int p0.time], C.int p1] [] (fun c qs => c = C.int r ∧ qs = []) := by
 refine Ok.of_body (rs := [.tmp 4]) Tryz.func174 rfl rfl rfl rfl rfl fun X => ?_
 unfold Z5a at h
 refine zz ?_
 refine Ops.h (ns := []) rfl rfl (op_boxA rfl rfl) ?_
 rintro _ _ ⟨b1, rfl, rfl⟩
 refine zz ?_
 refine ob' h fun r2 g3 h => ?_
 refine Ops.hd (ns := []) rfl rfl (op_callE (Z3m _ _ _ g3) rfl rfl) ?_
 refine zz ?_
 refine AW.ret ?_
 rw [← Option.some.inj h]
 exact ⟨[C.int r2], _, Ghost.refl _, (.cons (.tmp rfl) .nil), [], _, _, rfl, ⟨rfl, rfl⟩⟩

def Z5s (x15 : Int) (x21 : Bool) : Option (Int × Bool) := some (x15, x21)
def Z8a (p0 : List TEvent) (p1 : Int) (x15 : Int) : Option (Int × Bool) := cond (decide (x15 < (p0.length : Int))) ((getI p0 x15).bind fun e17 => (Z5a e17 p1).bind fun r19 => Z5s x15 (r19 == 0)) (Z5s x15 false)
def Z3p (p0 : List TEvent) (p1 : Int) (x7 : Int) (x8 : Int) : Option ((Int × Int) ⊕ (Int)) := cond (decide (x7 < x8)) ((getI p0 (IntKind.i64.wrap (shrI .u64 (IntKind.u64.wrap (IntKind.i64.wrap (x7 + x8))) 1))).bind fun e10 => (Z5a e10 p1).bind fun r12 => cond (decide (r12 < 0)) (some (.inl ((IntKind.i64.wrap ((IntKind.i64.wrap (shrI .u64 (IntKind.u64.wrap (IntKind.i64.wrap (x7 + x8))) 1)) + 1)), x8))) (some (.inl (x7, (IntKind.i64.wrap (shrI .u64 (IntKind.u64.wrap (IntKind.i64.wrap (x7 + x8))) 1)))))) (some (.inr x7))
def Za7 (p0 : List TEvent) (p1 : Int) : Option (Int × Bool) := (iter (fun z22 => Z3p p0 p1 z22.1 z22.2) big (0, (p0.length : Int))).bind fun y23 => Z8a p0 p1 y23
theorem Zdi (p0 : List TEvent) (p1 : Int) (r : Int × Bool) (h : Za7 p0 p1 = some r) : Ok Tryz.prog 173 [C.im kEvent 9 p0, C.int p1, C.val (.func (.func 174) #[] #[])] [] (fun c qs => c = C.tup [C.int r.1, C.bool r.2] ∧ qs = []) := by
 refine Ok.of_body (rs := [.tmp 6, .tmp 7]) Tryz.func173 rfl rfl rfl rfl rfl fun X => ?_
 unfold Za7 at h
 refine AW.seq ?_
 refine AW.region ?_
 refine Ops.v rfl (op_assign rfl rfl) ?_
 refine Ops.v rfl (op_assign rfl rfl) ?_
 refine Ops.nil ?_
 refine AW.seq ?_
 refine AW.region ?_
 refine Ops.v rfl (op_move rfl rfl) ?_
 refine Ops.v rfl (op_len_im sl_28.h rfl rfl) ?_
 refine Ops.v rfl (op_assign rfl rfl) ?_
 refine Ops.nil ?_
 refine AW.seq ?_
 refine AW.region ?_
 refine Ops.v rfl (op_move rfl rfl) ?_
 refine Ops.v rfl (op_assign rfl rfl) ?_
 refine Ops.v rfl (op_assign rfl rfl) ?_
 refine Ops.nil ?_
 refine AW.seq ?_
 refine AW.cut (τ := Int) (fun x15 => ⟨[(0, C.im kEvent 9 p0), (1, C.int p1), (2, C.val (.func (.func 174) #[] #[])), (8, C.int (p0.length : Int)), (9, C.int x15)], []⟩) (fun x15 => Z8a p0 p1 x15 = some r) ?_ ?_
 ·
  refine zz ?_
  refine ob' h fun o24 g25 q26 => ?_
  refine AW.loop (τ := Int × Int) (x := (0, (p0.length : Int))) (fun (x7, x8) => ⟨[(0, C.im kEvent 9 p0), (1, C.int p1), (2, C.val (.func (.func 174) #[] #[])), (8, C.int (p0.length : Int)), (9, C.int x7), (10, C.int x8)], []⟩) (fun k (x7, x8) => iter (fun z22 => Z3p p0 p1 z22.1 z22.2) k (x7, x8) = some o24) g25 (Ghost.both (ns := []) rfl rfl) ?_
  rintro k ⟨x7, x8⟩ i28
  refine iter_succ' (show iter (fun z22 => Z3p p0 p1 z22.1 z22.2) k (x7, x8) = some o24 from i28) fun k27 y29 hlt_k27 h h30 => ?_
  replace h : Z3p p0 p1 x7 x8 = some y29 := h
  unfold Z3p at h
  refine zz ?_
  refine cnd h (fun hb9 h => ?_) fun hb9 h => ?_
  ·
   refine AW.ct hb9 rfl ?_
   refine zz ?_
   refine Ops.v rfl (op_conv un_3 un_138 rfl rfl) ?_
   refine Ops.v rfl (op_shift rfl rfl rfl rfl) ?_
   refine Ops.v rfl (op_conv un_138 un_3 rfl rfl) ?_
   refine zz ?_
   refine ob' h fun e10 g11 h => ?_
   refine Ops.v rfl (op_indexAddr_im sl_28.h rfl rfl g11 rfl) ?_
   refine Ops.v rfl (op_load_ipA ld_38.h rfl rfl rfl rfl) ?_
   refine zz ?_
   refine ob' h fun r12 g13 h => ?_
   refine Ops.h (ns := []) rfl rfl (op_callV (cs := [_, _]) rfl rfl (Zbs _ _ _ g13) rfl rfl) ?_
   rintro _ _ ⟨_, ⟨rfl, rfl⟩, rfl⟩
   refine zz ?_
   refine cnd h (fun hb14 h => ?_) fun hb14 h => ?_
   ·
    refine AW.ct hb14 rfl ?_
    refine zz ?_
    obtain rfl := Option.some.inj h
    exact ⟨k27, ((IntKind.i64.wrap ((IntKind.i64.wrap (shrI .u64 (IntKind.u64.wrap (IntKind.i64.wrap (x7 + x8))) 1)) + 1)), x8), hlt_k27, h30, Ghost.both (ns := []) rfl rfl⟩
   refine AW.cf hb14 rfl ?_
   refine zz ?_
   obtain rfl := Option.some.inj h
   exact ⟨k27, (x7, (IntKind.i64.wrap (shrI .u64 (IntKind.u64.wrap (IntKind.i64.wrap (x7 + x8))) 1))), hlt_k27, h30, Ghost.both (ns := []) rfl rfl⟩
  refine AW.cf hb9 rfl ?_
  refine AW.exit ?_
  obtain rfl := Option.some.inj h
  obtain rfl := Option.some.inj h30
  replace h := q26
  exact ⟨x7, h, Ghost.both (ns := []) rfl rfl⟩
 intro x15 h
 replace h : Z8a p0 p1 x15 = some r := h
 unfold Z8a at h
 refine AW.seq ?_
 refine AW.cut (τ := Bool) (fun x21 => ⟨[(6, C.int x15), (7, C.bool x21)], []⟩) (fun x21 => Z5s x15 x21 = some r) ?_ ?_
 ·
  refine zz ?_
  refine cnd h (fun hb16 h => ?_) fun hb16 h => ?_
  ·
   refine zz ?_
   refine ob' h fun e17 g18 h => ?_
   refine Ops.gv rfl rfl rfl rfl hb16 (op_indexAddr_im sl_28.h rfl rfl g18 rfl) ?_
   refine Ops.gv rfl rfl rfl rfl hb16 (op_load_ipA ld_38.h rfl rfl rfl rfl) ?_
   refine zz ?_
   refine ob' h fun r19 g20 h => ?_
   refine Ops.gh (ns := []) rfl rfl rfl rfl hb16 rfl (op_callV (cs := [_, _]) rfl rfl (Zbs _ _ _ g20) rfl rfl) ?_
   rintro _ _ ⟨_, ⟨rfl, rfl⟩, rfl⟩
   refine zz ?_
   exact ⟨(r19 == 0), h, Ghost.both (ns := []) rfl rfl⟩
  refine zz ?_
  exact ⟨false, h, Ghost.both (ns := []) rfl rfl⟩
 intro x21 h
 replace h : Z5s x15 x21 = some r := h
 unfold Z5s at h
 refine AW.ret ?_
 rw [← Option.some.inj h]
 exact ⟨[C.int x15, C.bool x21], _, Ghost.refl _, (.cons (.tmp rfl) (.cons (.tmp rfl) .nil)), [], _, _, rfl, ⟨rfl, rfl⟩⟩

def Z3b (p0 : List TEvent) (p1 : Int) : Option (Int × Bool) := (Za7 p0 p1).bind fun r1 => some (r1.1, r1.2)
theorem Zba (p0 : List TEvent) (p1 : Int) (r : Int × Bool) (h : Z3b p0 p1 = some r) : Ok Tryz.prog 124 [C.im kEvent 9 p0, C.int p1] [] (fun c qs => c = C.tup [C.int r.1, C.bool r.2] ∧ qs = []) := by
 refine Ok.of_body (rs := [.tmp 4, .tmp 5]) Tryz.func124 rfl rfl rfl rfl rfl fun X => ?_
 unfold Z3b at h
 refine zz ?_
 refine ob' h fun r1 g2 h => ?_
 refine Ops.hd (ns := []) rfl rfl (op_callE (Zdi _ _ _ g2) rfl rfl) ?_
 iterate 2 refine Ops.v rfl (op_extract rfl rfl rfl) ?_
 refine zz ?_
 refine AW.ret ?_
 rw [← Option.some.inj h]
 exact ⟨[C.int r1.1, C.bool r1.2], _, Ghost.refl _, (.cons (.tmp rfl) (.cons (.tmp rfl) .nil)), [], _, _, rfl, ⟨rfl, rfl⟩⟩

def Z56 (p0 : TGraph') (p1 : Int) : Option Bool := (Z3b p0.events p1).bind fun r2 => some r2.2
theorem Zbq (p0 : TGraph') (p1 : Int) (r : Bool) (h : Z56 p0 p1 = some r) : Ok Tryz.prog 86 [C.agg [C.int p0.room, C.im kEvent 9 p0.events, C.im kEvent 9 p0.parked], C.int p1] [] (fun c qs => c = C.bool r ∧ qs = []) := by
 refine Ok.of_body (rs := [.tmp 4]) Tryz.func86 rfl rfl rfl rfl rfl fun X => ?_
 unfold Z56 at h
 refine zz ?_
 refine Ops.h (ns := []) rfl rfl (op_boxA rfl rfl) ?_
 rintro _ _ ⟨b1, rfl, rfl⟩
 refine zz ?_
 refine ob' h fun r2 g3 h => ?_
 refine Ops.hd (ns := []) rfl rfl (op_callE (Zba _ _ _ g3) rfl rfl) ?_
 refine zz ?_
 iterate 2 refine Ops.v rfl (op_extract rfl rfl rfl) ?_
 refine zz ?_
 refine AW.ret ?_
 rw [← Option.some.inj h]
 exact ⟨[C.bool r2.2], _, Ghost.refl _, (.cons (.tmp rfl) .nil), [], _, _, rfl, ⟨rfl, rfl⟩⟩

def Z9r (p0 : Int) (q0 : TGraph') : Option Bool := (Z56 q0 p0).bind fun r1 => some (!r1)
theorem Zcv {b00 : Nat} (p0 : Int) (q0 : TGraph') (r : Bool) (h : Z9r p0 q0 = some r) : Ok Tryz.prog 169 [C.int p0, C.val (.pointer (some ⟨b00, 0, none⟩))] [Obj.box b00 30 [C.int q0.room, C.im kEvent 9 q0.events, C.im kEvent 9 q0.parked]] (fun c qs => c = C.bool r ∧ qs = [Obj.box b00 30 [C.int q0.room, C.im kEvent 9 q0.events, C.im kEvent 9 q0.parked]]) := by
 refine Ok.of_body (rs := [.tmp 3]) Tryz.func169 rfl rfl rfl rfl rfl fun X => ?_
 unfold Z9r at h
 refine zz ?_
 refine Ops.v rfl (op_loadA (p := 0) (ds := [C.int q0.room, C.im kEvent 9 q0.events, C.im kEvent 9 q0.parked]) ld_30.h rfl rfl rfl rfl rfl) ?_
 refine zz ?_
 refine ob' h fun r1 g2 h => ?_
 refine Ops.hd (ns := []) rfl rfl (op_callE (Zbq _ _ _ g2) rfl rfl) ?_
 refine zz ?_
 refine AW.ret ?_
 rw [← Option.some.inj h]
 exact ⟨[C.bool (!r1)], _, Ghost.refl _, (.cons (.tmp rfl) .nil), [0], _, _, rfl, ⟨rfl, rfl⟩⟩

def Zal : Option Int := some (-1)
def Z20 (p0 : List Int) (p1_0 : TGraph') (x7 : Int) : Option (Int ⊕ (Int ⊕ Unit)) := cond (decide (x7 < (p0.length : Int))) ((getI p0 x7).bind fun e9 => (Z9r e9 p1_0).bind fun r11 => cond r11 (some (.inr (.inl x7))) (some (.inl (IntKind.i64.wrap (x7 + 1))))) (some (.inr (.inr ())))
def Zak (p0 : List Int) (p1_0 : TGraph') : Option Int := (iter (Z20 p0 p1_0) big 0).bind (fun z15 => match z15 with | .inl y14 => some y14 | .inr () => Zal)
theorem Zdv {b00 : Nat} (p0 : List Int) (p1_0 : TGraph') (r : Int) (h : Zak p0 p1_0 = some r) : Ok Tryz.prog 199 [C.im kI64 1 p0, C.clo 169 [C.val (.pointer (some ⟨b00, 0, none⟩))]] [Obj.box b00 30 [C.int p1_0.room, C.im kEvent 9 p1_0.events, C.im kEvent 9 p1_0.parked]] (fun c qs => c = C.int r ∧ qs = [Obj.box b00 30 [C.int p1_0.room, C.im kEvent 9 p1_0.events, C.im kEvent 9 p1_0.parked]]) := by
 refine Ok.of_body (rs := [.tmp 4]) Tryz.func199 rfl rfl rfl rfl rfl fun X => ?_
 unfold Zak at h
 refine AW.seq ?_
 refine AW.region ?_
 refine Ops.v rfl (op_assign rfl rfl) ?_
 refine Ops.nil ?_
 refine AW.seq ?_
 refine AW.cut (τ := Unit) (fun (_ : Unit) => ⟨[], [Obj.box b00 30 [C.int p1_0.room, C.im kEvent 9 p1_0.events, C.im kEvent 9 p1_0.parked]]⟩) (fun (_ : Unit) => Zal = some r) ?_ ?_
 ·
  refine zz ?_
  refine ob' h fun o16 g17 q18 => ?_
  refine AW.loop (τ := Int) (x := 0) (fun x7 => ⟨[(0, C.im kI64 1 p0), (1, C.clo 169 [C.val (.pointer (some ⟨b00, 0, none⟩))]), (7, C.int (p0.length : Int)), (8, C.int x7)], [Obj.box b00 30 [C.int p1_0.room, C.im kEvent 9 p1_0.events, C.im kEvent 9 p1_0.parked]]⟩) (fun k x7 => iter (Z20 p0 p1_0) k x7 = some o16) g17 (Ghost.both (ns := [0]) rfl rfl) ?_
  intro k x7 i20
  refine iter_succ' (show iter (Z20 p0 p1_0) k x7 = some o16 from i20) fun k19 y21 hlt_k19 h h22 => ?_
  replace h : Z20 p0 p1_0 x7 = some y21 := h
  unfold Z20 at h
  refine zz ?_
  refine cnd h (fun hb8 h => ?_) fun hb8 h => ?_
  ·
   refine AW.ct hb8 rfl ?_
   refine zz ?_
   refine ob' h fun e9 g10 h => ?_
   refine Ops.v rfl (op_indexAddr_im sl_26.h rfl rfl g10 rfl) ?_
   refine Ops.v rfl (op_load_ip ld_2.h rfl rfl) ?_
   refine ob' h fun r11 g12 h => ?_
   refine Ops.hd (ns := [0]) rfl rfl (op_callCE (cs := [_]) (ds := [_]) rfl (Zcv e9 p1_0 _ g12) rfl rfl) ?_
   refine zz ?_
   refine cnd h (fun hb13 h => ?_) fun hb13 h => ?_
   ·
    refine AW.ct hb13 rfl ?_
    refine zz ?_
    refine AW.ret ?_
    obtain rfl := Option.some.inj h
    obtain rfl := Option.some.inj h22
    replace h := q18
    rw [← Option.some.inj h]
    exact ⟨[C.int x7], _, Ghost.refl _, (.cons (.tmp rfl) .nil), [0], _, _, rfl, ⟨rfl, rfl⟩⟩
   refine AW.cf hb13 rfl ?_
   refine zz ?_
   obtain rfl := Option.some.inj h
   exact ⟨k19, (IntKind.i64.wrap (x7 + 1)), hlt_k19, h22, Ghost.both (ns := [0]) rfl rfl⟩
  refine AW.cf hb8 rfl ?_
  refine AW.exit ?_
  obtain rfl := Option.some.inj h
  obtain rfl := Option.some.inj h22
  replace h := q18
  exact ⟨(), h, Ghost.both (ns := [0]) rfl rfl⟩
 rintro ⟨⟩ h
 replace h : Zal = some r := h
 unfold Zal at h
 refine zz ?_
 refine AW.ret ?_
 rw [← Option.some.inj h]
 exact ⟨[C.int (-1)], _, Ghost.refl _, (.cons (.tmp rfl) .nil), [0], _, _, rfl, ⟨rfl, rfl⟩⟩

def Zad (p0 : List Int) (p1_0 : TGraph') : Option Bool := (Zak p0 p1_0).bind fun r1 => some (decide (r1 ≥ 0))
theorem Zdo {b00 : Nat} (p0 : List Int) (p1_0 : TGraph') (r : Bool) (h : Zad p0 p1_0 = some r) : Ok Tryz.prog 168 [C.im kI64 1 p0, C.clo 169 [C.val (.pointer (some ⟨b00, 0, none⟩))]] [Obj.box b00 30 [C.int p1_0.room, C.im kEvent 9 p1_0.events, C.im kEvent 9 p1_0.parked]] (fun c qs => c = C.bool r ∧ qs = [Obj.box b00 30 [C.int p1_0.room, C.im kEvent 9 p1_0.events, C.im kEvent 9 p1_0.parked]]) := by
 refine Ok.of_body (rs := [.tmp 4]) Tryz.func168 rfl rfl rfl rfl rfl fun X => ?_
 unfold Zad at h
 refine zz ?_
 refine ob' h fun r1 g2 h => ?_
 refine Ops.hd (ns := [0]) rfl rfl (op_callE (Zdv p0 p1_0 _ g2) rfl rfl) ?_
 refine zz ?_
 refine AW.ret ?_
 rw [← Option.some.inj h]
 exact ⟨[C.bool (decide (r1 ≥ 0))], _, Ghost.refl _, (.cons (.tmp rfl) .nil), [0], _, _, rfl, ⟨rfl, rfl⟩⟩

def Z54 (p0 : TGraph') (p1 : TEvent) : Option Bool := (Zad p1.prev p0).bind fun r3 => some (!r3)
theorem Zbp (p0 : TGraph') (p1 : TEvent) (r : Bool) (h : Z54 p0 p1 = some r) : Ok Tryz.prog 115 [C.agg [C.int p0.room, C.im kEvent 9 p0.events, C.im kEvent 9 p0.parked], C.agg [C.int p1.id, C.int p1.room, C.int p1.author, C.int p1.kind, C.int p1.key, C.int p1.n, C.str p1.text, C.im kI64 1 p1.prev, C.int p1.time]] [] (fun c qs => c = C.bool r ∧ qs = []) := by
 refine Ok.of_body (rs := [.tmp 4]) Tryz.func115 rfl rfl rfl rfl rfl fun X => ?_
 unfold Z54 at h
 refine zz ?_
 refine Ops.h (ns := []) rfl rfl (op_boxA rfl rfl) ?_
 rintro _ _ ⟨b1, rfl, rfl⟩
 refine Ops.h (ns := []) rfl rfl (op_boxA rfl rfl) ?_
 rintro _ _ ⟨b2, rfl, rfl⟩
 refine zz ?_
 refine Ops.v rfl (op_makeFunc rfl rfl) ?_
 refine ob' h fun r3 g4 h => ?_
 refine Ops.hd (ns := [1]) rfl rfl (op_callE (Zdo p1.prev p0 _ g4) rfl rfl) ?_
 refine zz ?_
 refine AW.ret ?_
 rw [← Option.some.inj h]
 exact ⟨[C.bool (!r3)], _, Ghost.refl _, (.cons (.tmp rfl) .nil), [], _, _, rfl, ⟨rfl, rfl⟩⟩

def Z7a (l140 : List Int) (x141 : Int) : Option (List Int × Bool) := some (l140, (x141 == 0))
def Z37 (x109 : Int) (l137 : List Int) (x138 : Int) (x139 : Bool) : Option ((List Int × Int × Bool × Int) ⊕ ((List Int × Int × Bool))) := some (.inl (l137, x138, x139, (IntKind.i64.wrap (x109 + 1))))
def Z7b (l106 : List Int) (x107 : Int) (x108 : Bool) (x109 : Int) (x135 : Int) : Option ((List Int × Int × Bool × Int) ⊕ ((List Int × Int × Bool))) := cond (decide (x135 > 0)) (Z37 x109 (List.set l106 (Int.toNat x109) x135) (IntKind.i64.wrap (x107 - 1)) true) (Z37 x109 l106 x107 x108)
def Zl (p0 : TGraph') (l106 : List Int) (e111 : TEvent) (x125 : Int) (x126 : Int) : Option ((Int × Int) ⊕ (Int)) := cond (decide (x126 < (e111.prev.length : Int))) ((getI e111.prev x126).bind fun e128 => (Z3b p0.events e128).bind fun r130 => (getI l106 r130.1).bind fun e132 => cond (e132 == 0) (some (.inr 0)) (some (.inl ((if (IntKind.i64.wrap (e132 + 1)) > x125 then (IntKind.i64.wrap (e132 + 1)) else x125), (IntKind.i64.wrap (x126 + 1)))))) (some (.inr x125))
def Zm (p0 : TGraph') (l106 : List Int) (x107 : Int) (x108 : Bool) (x109 : Int) : Option ((List Int × Int × Bool × Int) ⊕ ((List Int × Int × Bool))) := cond (decide (x109 < (p0.events.length : Int))) ((getI p0.events x109).bind fun e111 => (getI l106 x109).bind fun e114 => cond (decide (e114 > 0)) (Z37 x109 l106 x107 x108) ((iter (fun z143 => Zl p0 l106 e111 z143.1 z143.2) big (1, 0)).bind fun y144 => Z7b l106 x107 x108 x109 y144)) (some (.inr (l106, x107, x108)))
def Z55 (p0 : TGraph') (l70 : List Int) (x71 : Int) (x74 : Bool) : Option ((List Int × Int × Bool) ⊕ ((List Int × Int))) := cond x74 ((iter (fun z145 => Zm p0 z145.1 z145.2.1 z145.2.2.1 z145.2.2.2) big (l70, x71, false, 0)).bind fun (y146, y147, y148) => some (.inl (y146, y147, y148))) (some (.inr (l70, x71)))
def Z38 (p0 : TGraph') (l70 : List Int) (x71 : Int) (x72 : Bool) : Option ((List Int × Int × Bool) ⊕ ((List Int × Int))) := cond x72 (Z55 p0 l70 x71 (decide (x71 > 0))) (Z55 p0 l70 x71 false)
def Z1h (p0 : TGraph') : Option (List Int × Bool) := (chk (decide (0 ≤ (p0.events.length : Int) ∧ (p0.events.length : Int) * 8 ≤ 140737488355328))).bind fun u3 => (iter (fun z149 => Z38 p0 z149.1 z149.2.1 z149.2.2) big ((List.replicate (Int.toNat (p0.events.length : Int)) 0), (p0.events.length : Int), true)).bind fun (y150, y151) => Z7a y150 y151
set_option maxHeartbeats 1000000 in
theorem Z84 (p0 : TGraph') (r : List Int × Bool) (h : Z1h p0 = some r) : Ok Tryz.prog 117 [C.agg [C.int p0.room, C.im kEvent 9 p0.events, C.im kEvent 9 p0.parked]] [] (fun c qs => ∃ (v142 : Value), c = C.tup [C.val v142, C.bool r.2] ∧ qs = [Obj.arr v142 2 kI64 1 r.1]) := by
 refine Ok.of_body (rs := [.tmp 2, .tmp 3]) Tryz.func117 rfl rfl rfl rfl rfl fun X => ?_
 unfold Z1h at h
 refine zz ?_
 refine Ops.h (ns := []) rfl rfl (op_boxA rfl rfl) ?_
 rintro _ _ ⟨b1, rfl, rfl⟩
 refine zz ?_
 refine AW.regionD (L := [1, 5]) (Lt := []) (k := .light 0 false (.light 1 true (.light 2 false (.light 4 false (.light 5 true (.light 6 false (.one 3 (.light 7 false (.light 8 false .done))))))))) (ns := [0]) (by kernel_rfl) (by kernel_rfl) (by kernel_rfl) (by kernel_rfl) rfl ?_
 refine zz ?_
 refine ob' h fun u3 c2 h => ?_
 refine StepD.h (ns := []) rfl rfl rfl (op_makeSlice (k := kI64) (z := 0) ar_26 ze_2 (cells_zero rfl rfl) rfl rfl (make_ok c2).1 (make_ok c2).2 (make_ok63 (by decide) c2) rfl) ?_
 rintro _ _ ⟨b4, rfl, rfl⟩
 refine OpsD.v rfl rfl (op_assign rfl rfl) ?_
 refine OpsD.v rfl rfl (op_assign rfl rfl) ?_
 refine OpsD.done ?_
 refine AW.seq ?_
 refine AW.cut (τ := List Int × Int) (fun (l140, x141) => ⟨[(4, C.val (.slice (some ⟨b4, 0, none⟩) (Int.toNat (p0.events.length : Int)) (Int.toNat (p0.events.length : Int)))), (5, C.int x141)], [Obj.arr (.slice (some ⟨b4, 0, none⟩) (Int.toNat (p0.events.length : Int)) (Int.toNat (p0.events.length : Int))) 2 kI64 1 l140]⟩) (fun (l140, x141) => Z7a l140 x141 = some r) ?_ ?_
 ·
  refine zz ?_
  refine ob' h fun o152 g153 q154 => ?_
  refine AW.loop (τ := List Int × Int × Bool) (x := ((List.replicate (Int.toNat (p0.events.length : Int)) 0), (p0.events.length : Int), true)) (fun (l70, x71, x72) => ⟨[(1, C.val (.pointer (some ⟨b1, 0, none⟩))), (4, C.val (.slice (some ⟨b4, 0, none⟩) (Int.toNat (p0.events.length : Int)) (Int.toNat (p0.events.length : Int)))), (5, C.int x71), (6, C.bool x72)], [Obj.box b1 30 [C.int p0.room, C.im kEvent 9 p0.events, C.im kEvent 9 p0.parked], Obj.arr (.slice (some ⟨b4, 0, none⟩) (Int.toNat (p0.events.length : Int)) (Int.toNat (p0.events.length : Int))) 2 kI64 1 l70]⟩) (fun k (l70, x71, x72) => iter (fun z149 => Z38 p0 z149.1 z149.2.1 z149.2.2) k (l70, x71, x72) = some o152) g153 (Ghost.both (ns := [0, 0]) rfl rfl) ?_
  rintro k ⟨l70, x71, x72⟩ i156
  refine iter_succ' (show iter (fun z149 => Z38 p0 z149.1 z149.2.1 z149.2.2) k (l70, x71, x72) = some o152 from i156) fun k155 y157 hlt_k155 h h158 => ?_
  replace h : Z38 p0 l70 x71 x72 = some y157 := h
  unfold Z38 at h
  refine AW.seq ?_
  refine AW.seq ?_
  refine AW.cut (τ := Bool) (fun x74 => ⟨[(1, C.val (.pointer (some ⟨b1, 0, none⟩))), (4, C.val (.slice (some ⟨b4, 0, none⟩) (Int.toNat (p0.events.length : Int)) (Int.toNat (p0.events.length : Int)))), (5, C.int x71), (25, C.bool x74)], [Obj.box b1 30 [C.int p0.room, C.im kEvent 9 p0.events, C.im kEvent 9 p0.parked], Obj.arr (.slice (some ⟨b4, 0, none⟩) (Int.toNat (p0.events.length : Int)) (Int.toNat (p0.events.length : Int))) 2 kI64 1 l70]⟩) (fun x74 => Z55 p0 l70 x71 x74 = some y157) ?_ ?_
  ·
   refine zz ?_
   refine cnd h (fun hb73 h => ?_) fun hb73 h => ?_
   ·
    refine zz ?_
    exact ⟨decide (x71 > 0), h, Ghost.both (ns := [0, 0]) rfl rfl⟩
   refine zz ?_
   exact ⟨false, h, Ghost.both (ns := [0, 0]) rfl rfl⟩
  intro x74 h
  replace h : Z55 p0 l70 x71 x74 = some y157 := h
  unfold Z55 at h
  refine cnd h (fun hb75 h => ?_) fun hb75 h => ?_
  ·
   refine AW.ct hb75 rfl ?_
   refine zz ?_
   refine ob' h fun o159 g160 q161 => ?_
   refine AW.loop (τ := List Int × Int × Bool × Int) (x := (l70, x71, false, 0)) (fun (l106, x107, x108, x109) => ⟨[(1, C.val (.pointer (some ⟨b1, 0, none⟩))), (4, C.val (.slice (some ⟨b4, 0, none⟩) (Int.toNat (p0.events.length : Int)) (Int.toNat (p0.events.length : Int)))), (5, C.int x107), (6, C.bool x108), (27, C.im kEvent 9 p0.events), (28, C.int (p0.events.length : Int)), (29, C.int x109)], [Obj.box b1 30 [C.int p0.room, C.im kEvent 9 p0.events, C.im kEvent 9 p0.parked], Obj.arr (.slice (some ⟨b4, 0, none⟩) (Int.toNat (p0.events.length : Int)) (Int.toNat (p0.events.length : Int))) 2 kI64 1 l106]⟩) (fun k (l106, x107, x108, x109) => iter (fun z145 => Zm p0 z145.1 z145.2.1 z145.2.2.1 z145.2.2.2) k (l106, x107, x108, x109) = some o159) g160 (Ghost.both (ns := [0, 0]) rfl rfl) ?_
   rintro k ⟨l106, x107, x108, x109⟩ i163
   refine iter_succ' (show iter (fun z145 => Zm p0 z145.1 z145.2.1 z145.2.2.1 z145.2.2.2) k (l106, x107, x108, x109) = some o159 from i163) fun k162 y164 hlt_k162 h h165 => ?_
   replace h : Zm p0 l106 x107 x108 x109 = some y164 := h
   unfold Zm at h
   refine zz ?_
   refine cnd h (fun hb110 h => ?_) fun hb110 h => ?_
   ·
    refine AW.ct hb110 rfl ?_
    refine AW.skip ?_
    refine AW.seq ?_
    refine AW.cut (τ := List Int × Int × Bool) (fun (l137, x138, x139) => ⟨[(1, C.val (.pointer (some ⟨b1, 0, none⟩))), (4, C.val (.slice (some ⟨b4, 0, none⟩) (Int.toNat (p0.events.length : Int)) (Int.toNat (p0.events.length : Int)))), (5, C.int x138), (6, C.bool x139), (27, C.im kEvent 9 p0.events), (28, C.int (p0.events.length : Int)), (29, C.int x109)], [Obj.box b1 30 [C.int p0.room, C.im kEvent 9 p0.events, C.im kEvent 9 p0.parked], Obj.arr (.slice (some ⟨b4, 0, none⟩) (Int.toNat (p0.events.length : Int)) (Int.toNat (p0.events.length : Int))) 2 kI64 1 l137]⟩) (fun (l137, x138, x139) => Z37 x109 l137 x138 x139 = some y164) ?_ ?_
    ·
     refine zz ?_
     refine ob' h fun e111 g112 h => ?_
     refine Ops.v rfl (op_indexAddr_im sl_28.h rfl rfl g112 rfl) ?_
     refine Ops.v rfl (op_load_ipA ld_38.h rfl rfl rfl rfl) ?_
     refine Ops.h (ns := []) rfl rfl (op_alloc (cs := [C.int 0, C.int 0, C.int 0, C.int 0, C.int 0, C.int 0, C.str ByteArray.empty, C.val (.slice none 0 0), C.int 0]) ze_38 (cells_zero rfl rfl) rfl) ?_
     rintro _ _ ⟨b113, rfl, rfl⟩
     refine zz ?_
     refine Ops.hd (ns := [0]) rfl rfl (op_storeA (gs := [C.int e111.id, C.int e111.room, C.int e111.author, C.int e111.kind, C.int e111.key, C.int e111.n, C.str e111.text, C.im kI64 1 e111.prev, C.int e111.time]) ld_38.h rfl rfl rfl rfl rfl) ?_
     refine zz ?_
     refine ob' h fun e114 g115 h => ?_
     refine Ops.v rfl (op_indexAddr_arr (p := 2) sl_26.h rfl rfl rfl g115 rfl) ?_
     refine Ops.v rfl (op_load_arr (p := 2) ld_2.h rfl rfl (getI_lt g115).2.2 rfl rfl) ?_
     refine zz ?_
     refine cnd h (fun hb116 h => ?_) fun hb116 h => ?_
     ·
      refine AW.ct hb116 rfl ?_
      refine AW.exit ?_
      exact ⟨(l106, x107, x108), h, Ghost.both (ns := [1, 1]) rfl rfl⟩
     refine AW.cf hb116 rfl ?_
     refine AW.skip ?_
     refine AW.seq ?_
     refine AW.region ?_
     refine Ops.v rfl (op_assign rfl rfl) ?_
     refine Ops.nil ?_
     refine AW.seq ?_
     refine AW.cut (τ := Int) (fun x135 => ⟨[(1, C.val (.pointer (some ⟨b1, 0, none⟩))), (4, C.val (.slice (some ⟨b4, 0, none⟩) (Int.toNat (p0.events.length : Int)) (Int.toNat (p0.events.length : Int)))), (5, C.int x107), (6, C.bool x108), (7, C.int x109), (9, C.int x135), (27, C.im kEvent 9 p0.events), (28, C.int (p0.events.length : Int)), (29, C.int x109)], [Obj.box b1 30 [C.int p0.room, C.im kEvent 9 p0.events, C.im kEvent 9 p0.parked], Obj.arr (.slice (some ⟨b4, 0, none⟩) (Int.toNat (p0.events.length : Int)) (Int.toNat (p0.events.length : Int))) 2 kI64 1 l106]⟩) (fun x135 => Z7b l106 x107 x108 x109 x135 = some y164) ?_ ?_
     ·
      refine zz ?_
      refine ob' h fun o166 g167 q168 => ?_
      refine AW.loop (τ := Int × Int) (x := (1, 0)) (fun (x125, x126) => ⟨[(1, C.val (.pointer (some ⟨b1, 0, none⟩))), (4, C.val (.slice (some ⟨b4, 0, none⟩) (Int.toNat (p0.events.length : Int)) (Int.toNat (p0.events.length : Int)))), (5, C.int x107), (6, C.bool x108), (7, C.int x109), (9, C.int x125), (27, C.im kEvent 9 p0.events), (28, C.int (p0.events.length : Int)), (29, C.int x109), (40, C.im kI64 1 e111.prev), (41, C.int (e111.prev.length : Int)), (42, C.int x126)], [Obj.box b1 30 [C.int p0.room, C.im kEvent 9 p0.events, C.im kEvent 9 p0.parked], Obj.arr (.slice (some ⟨b4, 0, none⟩) (Int.toNat (p0.events.length : Int)) (Int.toNat (p0.events.length : Int))) 2 kI64 1 l106]⟩) (fun k (x125, x126) => iter (fun z143 => Zl p0 l106 e111 z143.1 z143.2) k (x125, x126) = some o166) g167 (Ghost.both (ns := [1, 1]) rfl rfl) ?_
      rintro k ⟨x125, x126⟩ i170
      refine iter_succ' (show iter (fun z143 => Zl p0 l106 e111 z143.1 z143.2) k (x125, x126) = some o166 from i170) fun k169 y171 hlt_k169 h h172 => ?_
      replace h : Zl p0 l106 e111 x125 x126 = some y171 := h
      unfold Zl at h
      refine zz ?_
      refine cnd h (fun hb127 h => ?_) fun hb127 h => ?_
      ·
       refine AW.ct hb127 rfl ?_
       refine zz ?_
       refine ob' h fun e128 g129 h => ?_
       refine Ops.v rfl (op_indexAddr_im sl_26.h rfl rfl g129 rfl) ?_
       refine Ops.v rfl (op_load_ip ld_2.h rfl rfl) ?_
       refine zz ?_
       refine ob' h fun r130 g131 h => ?_
       refine Ops.hd (ns := []) rfl rfl (op_callE (Zba _ _ _ g131) rfl rfl) ?_
       refine zz ?_
       iterate 2 refine Ops.v rfl (op_extract rfl rfl rfl) ?_
       refine zz ?_
       refine ob' h fun e132 g133 h => ?_
       refine Ops.v rfl (op_indexAddr_arr (p := 1) sl_26.h rfl rfl rfl g133 rfl) ?_
       refine Ops.v rfl (op_load_arr (p := 1) ld_2.h rfl rfl (getI_lt g133).2.2 rfl rfl) ?_
       refine zz ?_
       refine cnd h (fun hb134 h => ?_) fun hb134 h => ?_
       ·
        refine AW.ct hb134 rfl ?_
        refine zz ?_
        refine AW.exit ?_
        obtain rfl := Option.some.inj h
        obtain rfl := Option.some.inj h172
        replace h := q168
        exact ⟨0, h, Ghost.both (ns := [0, 0]) rfl rfl⟩
       refine AW.cf hb134 rfl ?_
       refine zz ?_
       refine Ops.v rfl (op_indexAddr_arr (p := 1) sl_26.h rfl rfl rfl g133 rfl) ?_
       refine Ops.v rfl (op_load_arr (p := 1) ld_2.h rfl rfl (getI_lt g133).2.2 rfl rfl) ?_
       refine zz ?_
       refine Ops.v rfl (op_max rfl rfl rfl) ?_
       refine zz ?_
       obtain rfl := Option.some.inj h
       exact ⟨k169, ((if (IntKind.i64.wrap (e132 + 1)) > x125 then (IntKind.i64.wrap (e132 + 1)) else x125), (IntKind.i64.wrap (x126 + 1))), hlt_k169, h172, Ghost.both (ns := [0, 0]) rfl rfl⟩
      refine AW.cf hb127 rfl ?_
      refine AW.exit ?_
      obtain rfl := Option.some.inj h
      obtain rfl := Option.some.inj h172
      replace h := q168
      exact ⟨x125, h, Ghost.both (ns := [0, 0]) rfl rfl⟩
     intro x135 h
     replace h : Z7b l106 x107 x108 x109 x135 = some y164 := h
     unfold Z7b at h
     refine zz ?_
     refine cnd h (fun hb136 h => ?_) fun hb136 h => ?_
     ·
      refine AW.ct hb136 rfl ?_
      refine zz ?_
      refine Ops.v rfl (op_indexAddr_arr (p := 1) sl_26.h rfl rfl rfl g115 rfl) ?_
      refine Ops.hd (ns := [1]) rfl rfl (op_store_arr (e' := x135) ld_2.h rfl rfl (One.val rfl) (getI_lt g115).2.2 rfl rfl) ?_
      refine zz ?_
      exact ⟨((List.set l106 (Int.toNat x109) x135), (IntKind.i64.wrap (x107 - 1)), true), h, Ghost.both (ns := [1, 0]) rfl rfl⟩
     refine AW.cf hb136 rfl ?_
     refine zz ?_
     exact ⟨(l106, x107, x108), h, Ghost.both (ns := [0, 0]) rfl rfl⟩
    rintro ⟨l137, x138, x139⟩ h
    replace h : Z37 x109 l137 x138 x139 = some y164 := h
    unfold Z37 at h
    refine zz ?_
    obtain rfl := Option.some.inj h
    exact ⟨k162, (l137, x138, x139, (IntKind.i64.wrap (x109 + 1))), hlt_k162, h165, Ghost.both (ns := [0, 0]) rfl rfl⟩
   refine AW.cf hb110 rfl ?_
   refine AW.exit ?_
   obtain rfl := Option.some.inj h
   obtain rfl := Option.some.inj h165
   replace h := q161
   obtain rfl := Option.some.inj h
   exact ⟨k155, (l106, x107, x108), hlt_k155, h158, Ghost.both (ns := [0, 0]) rfl rfl⟩
  refine AW.cf hb75 rfl ?_
  refine AW.exit ?_
  obtain rfl := Option.some.inj h
  obtain rfl := Option.some.inj h158
  replace h := q154
  exact ⟨(l70, x71), h, Ghost.both (ns := [1]) rfl rfl⟩
 rintro ⟨l140, x141⟩ h
 replace h : Z7a l140 x141 = some r := h
 unfold Z7a at h
 refine zz ?_
 refine AW.ret ?_
 rw [← Option.some.inj h]
 exact ⟨[C.val (.slice (some ⟨b4, 0, none⟩) (Int.toNat (p0.events.length : Int)) (Int.toNat (p0.events.length : Int))), C.bool (x141 == 0)], _, Ghost.refl _, (.cons (.tmp rfl) (.cons (.tmp rfl) .nil)), [0], _, _, rfl, ⟨(.slice (some ⟨b4, 0, none⟩) (Int.toNat (p0.events.length : Int)) (Int.toNat (p0.events.length : Int))), rfl, rfl⟩⟩
theorem Z84' (p0 : TGraph') (r : List Int × Bool) (h : Z1h p0 = some r) : Ok Tryz.prog 117 [C.agg [C.int p0.room, C.im kEvent 9 p0.events, C.im kEvent 9 p0.parked]] [] (fun c qs => c = C.tup [C.im kI64 1 r.1, C.bool r.2] ∧ qs = []) :=
  Ok.freeze (Z84 p0 r h) (by rintro c qs ⟨v142, rfl, rfl⟩; exact Frz.tup (FrzT.cons (os := [_]) (Frz.arr) (FrzT.cons (os := []) (Frz.same _) (FrzT.nil))))

def Z9n (p0 : TEvent) (q0 : TGraph') : Option Bool := (Z54 q0 p0).bind fun r2 => some (!r2)
theorem Zcq {b00 : Nat} (p0 : TEvent) (q0 : TGraph') (r : Bool) (h : Z9n p0 q0 = some r) : Ok Tryz.prog 114 [C.agg [C.int p0.id, C.int p0.room, C.int p0.author, C.int p0.kind, C.int p0.key, C.int p0.n, C.str p0.text, C.im kI64 1 p0.prev, C.int p0.time], C.val (.pointer (some ⟨b00, 0, none⟩))] [Obj.box b00 30 [C.int q0.room, C.im kEvent 9 q0.events, C.im kEvent 9 q0.parked]] (fun c qs => c = C.bool r ∧ qs = [Obj.box b00 30 [C.int q0.room, C.im kEvent 9 q0.events, C.im kEvent 9 q0.parked]]) := by
 refine Ok.of_body (rs := [.tmp 3]) Tryz.func114 rfl rfl rfl rfl rfl fun X => ?_
 unfold Z9n at h
 refine zz ?_
 refine Ops.h (ns := []) rfl rfl (op_boxA rfl rfl) ?_
 rintro _ _ ⟨b1, rfl, rfl⟩
 refine zz ?_
 refine Ops.v rfl (op_loadA (p := 1) (ds := [C.int q0.room, C.im kEvent 9 q0.events, C.im kEvent 9 q0.parked]) ld_30.h rfl rfl rfl rfl rfl) ?_
 refine Ops.v rfl (op_loadA (p := 0) (ds := [C.int p0.id, C.int p0.room, C.int p0.author, C.int p0.kind, C.int p0.key, C.int p0.n, C.str p0.text, C.im kI64 1 p0.prev, C.int p0.time]) ld_38.h rfl rfl rfl rfl rfl) ?_
 refine ob' h fun r2 g3 h => ?_
 refine Ops.hd (ns := []) rfl rfl (op_callE (Zbp _ _ _ g3) rfl rfl) ?_
 refine zz ?_
 refine AW.ret ?_
 rw [← Option.some.inj h]
 exact ⟨[C.bool (!r2)], _, Ghost.refl _, (.cons (.tmp rfl) .nil), [1], _, _, rfl, ⟨rfl, rfl⟩⟩

def Zah : Option Int := some (-1)
def Z1y (p0 : List TEvent) (p1_0 : TGraph') (x7 : Int) : Option (Int ⊕ (Int ⊕ Unit)) := cond (decide (x7 < (p0.length : Int))) ((getI p0 x7).bind fun e9 => (Z9n e9 p1_0).bind fun r11 => cond r11 (some (.inr (.inl x7))) (some (.inl (IntKind.i64.wrap (x7 + 1))))) (some (.inr (.inr ())))
def Zag (p0 : List TEvent) (p1_0 : TGraph') : Option Int := (iter (Z1y p0 p1_0) big 0).bind (fun z15 => match z15 with | .inl y14 => some y14 | .inr () => Zah)
theorem Zdt {b00 : Nat} (p0 : List TEvent) (p1_0 : TGraph') (r : Int) (h : Zag p0 p1_0 = some r) : Ok Tryz.prog 167 [C.im kEvent 9 p0, C.clo 114 [C.val (.pointer (some ⟨b00, 0, none⟩))]] [Obj.box b00 30 [C.int p1_0.room, C.im kEvent 9 p1_0.events, C.im kEvent 9 p1_0.parked]] (fun c qs => c = C.int r ∧ qs = [Obj.box b00 30 [C.int p1_0.room, C.im kEvent 9 p1_0.events, C.im kEvent 9 p1_0.parked]]) := by
 refine Ok.of_body (rs := [.tmp 4]) Tryz.func167 rfl rfl rfl rfl rfl fun X => ?_
 unfold Zag at h
 refine AW.seq ?_
 refine AW.region ?_
 refine Ops.v rfl (op_assign rfl rfl) ?_
 refine Ops.nil ?_
 refine AW.seq ?_
 refine AW.cut (τ := Unit) (fun (_ : Unit) => ⟨[], [Obj.box b00 30 [C.int p1_0.room, C.im kEvent 9 p1_0.events, C.im kEvent 9 p1_0.parked]]⟩) (fun (_ : Unit) => Zah = some r) ?_ ?_
 ·
  refine zz ?_
  refine ob' h fun o16 g17 q18 => ?_
  refine AW.loop (τ := Int) (x := 0) (fun x7 => ⟨[(0, C.im kEvent 9 p0), (1, C.clo 114 [C.val (.pointer (some ⟨b00, 0, none⟩))]), (7, C.int (p0.length : Int)), (8, C.int x7)], [Obj.box b00 30 [C.int p1_0.room, C.im kEvent 9 p1_0.events, C.im kEvent 9 p1_0.parked]]⟩) (fun k x7 => iter (Z1y p0 p1_0) k x7 = some o16) g17 (Ghost.both (ns := [0]) rfl rfl) ?_
  intro k x7 i20
  refine iter_succ' (show iter (Z1y p0 p1_0) k x7 = some o16 from i20) fun k19 y21 hlt_k19 h h22 => ?_
  replace h : Z1y p0 p1_0 x7 = some y21 := h
  unfold Z1y at h
  refine zz ?_
  refine cnd h (fun hb8 h => ?_) fun hb8 h => ?_
  ·
   refine AW.ct hb8 rfl ?_
   refine zz ?_
   refine ob' h fun e9 g10 h => ?_
   refine Ops.v rfl (op_indexAddr_im sl_28.h rfl rfl g10 rfl) ?_
   refine Ops.v rfl (op_load_ipA ld_38.h rfl rfl rfl rfl) ?_
   refine ob' h fun r11 g12 h => ?_
   refine Ops.hd (ns := [0]) rfl rfl (op_callCE (cs := [_]) (ds := [_]) rfl (Zcq e9 p1_0 _ g12) rfl rfl) ?_
   refine zz ?_
   refine cnd h (fun hb13 h => ?_) fun hb13 h => ?_
   ·
    refine AW.ct hb13 rfl ?_
    refine zz ?_
    refine AW.ret ?_
    obtain rfl := Option.some.inj h
    obtain rfl := Option.some.inj h22
    replace h := q18
    rw [← Option.some.inj h]
    exact ⟨[C.int x7], _, Ghost.refl _, (.cons (.tmp rfl) .nil), [0], _, _, rfl, ⟨rfl, rfl⟩⟩
   refine AW.cf hb13 rfl ?_
   refine zz ?_
   obtain rfl := Option.some.inj h
   exact ⟨k19, (IntKind.i64.wrap (x7 + 1)), hlt_k19, h22, Ghost.both (ns := [0]) rfl rfl⟩
  refine AW.cf hb8 rfl ?_
  refine AW.exit ?_
  obtain rfl := Option.some.inj h
  obtain rfl := Option.some.inj h22
  replace h := q18
  exact ⟨(), h, Ghost.both (ns := [0]) rfl rfl⟩
 rintro ⟨⟩ h
 replace h : Zah = some r := h
 unfold Zah at h
 refine zz ?_
 refine AW.ret ?_
 rw [← Option.some.inj h]
 exact ⟨[C.int (-1)], _, Ghost.refl _, (.cons (.tmp rfl) .nil), [0], _, _, rfl, ⟨rfl, rfl⟩⟩

def Zab (p0 : List TEvent) (p1_0 : TGraph') : Option Bool := (Zag p0 p1_0).bind fun r1 => some (decide (r1 ≥ 0))
theorem Zdm {b00 : Nat} (p0 : List TEvent) (p1_0 : TGraph') (r : Bool) (h : Zab p0 p1_0 = some r) : Ok Tryz.prog 113 [C.im kEvent 9 p0, C.clo 114 [C.val (.pointer (some ⟨b00, 0, none⟩))]] [Obj.box b00 30 [C.int p1_0.room, C.im kEvent 9 p1_0.events, C.im kEvent 9 p1_0.parked]] (fun c qs => c = C.bool r ∧ qs = [Obj.box b00 30 [C.int p1_0.room, C.im kEvent 9 p1_0.events, C.im kEvent 9 p1_0.parked]]) := by
 refine Ok.of_body (rs := [.tmp 4]) Tryz.func113 rfl rfl rfl rfl rfl fun X => ?_
 unfold Zab at h
 refine zz ?_
 refine ob' h fun r1 g2 h => ?_
 refine Ops.hd (ns := [0]) rfl rfl (op_callE (Zdt p0 p1_0 _ g2) rfl rfl) ?_
 refine zz ?_
 refine AW.ret ?_
 rw [← Option.some.inj h]
 exact ⟨[C.bool (decide (r1 ≥ 0))], _, Ghost.refl _, (.cons (.tmp rfl) .nil), [0], _, _, rfl, ⟨rfl, rfl⟩⟩

def Z4u (x7 : Bool) : Option Bool := some x7
def Z9o (p0 : TEvent) (q0 : TGraph') : Option Bool := (Z56 q0 p0.id).bind fun r2 => cond r2 (Z4u true) ((Z54 q0 p0).bind fun r5 => Z4u r5)
theorem Zcr {b00 : Nat} (p0 : TEvent) (q0 : TGraph') (r : Bool) (h : Z9o p0 q0 = some r) : Ok Tryz.prog 116 [C.agg [C.int p0.id, C.int p0.room, C.int p0.author, C.int p0.kind, C.int p0.key, C.int p0.n, C.str p0.text, C.im kI64 1 p0.prev, C.int p0.time], C.val (.pointer (some ⟨b00, 0, none⟩))] [Obj.box b00 30 [C.int q0.room, C.im kEvent 9 q0.events, C.im kEvent 9 q0.parked]] (fun c qs => c = C.bool r ∧ qs = [Obj.box b00 30 [C.int q0.room, C.im kEvent 9 q0.events, C.im kEvent 9 q0.parked]]) := by
 refine Ok.of_body (rs := [.tmp 3]) Tryz.func116 rfl rfl rfl rfl rfl fun X => ?_
 unfold Z9o at h
 refine zz ?_
 refine Ops.h (ns := []) rfl rfl (op_boxA rfl rfl) ?_
 rintro _ _ ⟨b1, rfl, rfl⟩
 refine Ops.v rfl (op_assign rfl rfl) ?_
 refine Ops.nil ?_
 refine AW.seq ?_
 refine AW.cut (τ := Bool) (fun x7 => ⟨[(3, C.bool x7)], [Obj.box b00 30 [C.int q0.room, C.im kEvent 9 q0.events, C.im kEvent 9 q0.parked]]⟩) (fun x7 => Z4u x7 = some r) ?_ ?_
 ·
  refine zz ?_
  refine Ops.v rfl (op_loadA (p := 1) (ds := [C.int q0.room, C.im kEvent 9 q0.events, C.im kEvent 9 q0.parked]) ld_30.h rfl rfl rfl rfl rfl) ?_
  refine zz ?_
  refine ob' h fun r2 g3 h => ?_
  refine Ops.hd (ns := []) rfl rfl (op_callE (Zbq _ _ _ g3) rfl rfl) ?_
  refine zz ?_
  refine cnd h (fun hb4 h => ?_) fun hb4 h => ?_
  ·
   refine zz ?_
   exact ⟨true, h, Ghost.both (ns := [1]) rfl rfl⟩
  refine Ops.gv rfl rfl rfl rfl hb4 (op_loadA (p := 1) (ds := [C.int q0.room, C.im kEvent 9 q0.events, C.im kEvent 9 q0.parked]) ld_30.h rfl rfl rfl rfl rfl) ?_
  refine Ops.gv rfl rfl rfl rfl hb4 (op_loadA (p := 0) (ds := [C.int p0.id, C.int p0.room, C.int p0.author, C.int p0.kind, C.int p0.key, C.int p0.n, C.str p0.text, C.im kI64 1 p0.prev, C.int p0.time]) ld_38.h rfl rfl rfl rfl rfl) ?_
  refine ob' h fun r5 g6 h => ?_
  refine Ops.ghd (ns := []) rfl rfl rfl rfl hb4 rfl (op_callE (Zbp _ _ _ g6) rfl rfl) ?_
  refine zz ?_
  exact ⟨r5, h, Ghost.both (ns := [1]) rfl rfl⟩
 intro x7 h
 replace h : Z4u x7 = some r := h
 unfold Z4u at h
 refine AW.ret ?_
 rw [← Option.some.inj h]
 exact ⟨[C.bool x7], _, Ghost.refl _, (.cons (.tmp rfl) .nil), [0], _, _, rfl, ⟨rfl, rfl⟩⟩

def Zaj : Option Int := some (-1)
def Z1z (p0 : List TEvent) (p1_0 : TGraph') (x7 : Int) : Option (Int ⊕ (Int ⊕ Unit)) := cond (decide (x7 < (p0.length : Int))) ((getI p0 x7).bind fun e9 => (Z9o e9 p1_0).bind fun r11 => cond r11 (some (.inr (.inl x7))) (some (.inl (IntKind.i64.wrap (x7 + 1))))) (some (.inr (.inr ())))
def Zai (p0 : List TEvent) (p1_0 : TGraph') : Option Int := (iter (Z1z p0 p1_0) big 0).bind (fun z15 => match z15 with | .inl y14 => some y14 | .inr () => Zaj)
theorem Zdu {b00 : Nat} (p0 : List TEvent) (p1_0 : TGraph') (r : Int) (h : Zai p0 p1_0 = some r) : Ok Tryz.prog 167 [C.im kEvent 9 p0, C.clo 116 [C.val (.pointer (some ⟨b00, 0, none⟩))]] [Obj.box b00 30 [C.int p1_0.room, C.im kEvent 9 p1_0.events, C.im kEvent 9 p1_0.parked]] (fun c qs => c = C.int r ∧ qs = [Obj.box b00 30 [C.int p1_0.room, C.im kEvent 9 p1_0.events, C.im kEvent 9 p1_0.parked]]) := by
 refine Ok.of_body (rs := [.tmp 4]) Tryz.func167 rfl rfl rfl rfl rfl fun X => ?_
 unfold Zai at h
 refine AW.seq ?_
 refine AW.region ?_
 refine Ops.v rfl (op_assign rfl rfl) ?_
 refine Ops.nil ?_
 refine AW.seq ?_
 refine AW.cut (τ := Unit) (fun (_ : Unit) => ⟨[], [Obj.box b00 30 [C.int p1_0.room, C.im kEvent 9 p1_0.events, C.im kEvent 9 p1_0.parked]]⟩) (fun (_ : Unit) => Zaj = some r) ?_ ?_
 ·
  refine zz ?_
  refine ob' h fun o16 g17 q18 => ?_
  refine AW.loop (τ := Int) (x := 0) (fun x7 => ⟨[(0, C.im kEvent 9 p0), (1, C.clo 116 [C.val (.pointer (some ⟨b00, 0, none⟩))]), (7, C.int (p0.length : Int)), (8, C.int x7)], [Obj.box b00 30 [C.int p1_0.room, C.im kEvent 9 p1_0.events, C.im kEvent 9 p1_0.parked]]⟩) (fun k x7 => iter (Z1z p0 p1_0) k x7 = some o16) g17 (Ghost.both (ns := [0]) rfl rfl) ?_
  intro k x7 i20
  refine iter_succ' (show iter (Z1z p0 p1_0) k x7 = some o16 from i20) fun k19 y21 hlt_k19 h h22 => ?_
  replace h : Z1z p0 p1_0 x7 = some y21 := h
  unfold Z1z at h
  refine zz ?_
  refine cnd h (fun hb8 h => ?_) fun hb8 h => ?_
  ·
   refine AW.ct hb8 rfl ?_
   refine zz ?_
   refine ob' h fun e9 g10 h => ?_
   refine Ops.v rfl (op_indexAddr_im sl_28.h rfl rfl g10 rfl) ?_
   refine Ops.v rfl (op_load_ipA ld_38.h rfl rfl rfl rfl) ?_
   refine ob' h fun r11 g12 h => ?_
   refine Ops.hd (ns := [0]) rfl rfl (op_callCE (cs := [_]) (ds := [_]) rfl (Zcr e9 p1_0 _ g12) rfl rfl) ?_
   refine zz ?_
   refine cnd h (fun hb13 h => ?_) fun hb13 h => ?_
   ·
    refine AW.ct hb13 rfl ?_
    refine zz ?_
    refine AW.ret ?_
    obtain rfl := Option.some.inj h
    obtain rfl := Option.some.inj h22
    replace h := q18
    rw [← Option.some.inj h]
    exact ⟨[C.int x7], _, Ghost.refl _, (.cons (.tmp rfl) .nil), [0], _, _, rfl, ⟨rfl, rfl⟩⟩
   refine AW.cf hb13 rfl ?_
   refine zz ?_
   obtain rfl := Option.some.inj h
   exact ⟨k19, (IntKind.i64.wrap (x7 + 1)), hlt_k19, h22, Ghost.both (ns := [0]) rfl rfl⟩
  refine AW.cf hb8 rfl ?_
  refine AW.exit ?_
  obtain rfl := Option.some.inj h
  obtain rfl := Option.some.inj h22
  replace h := q18
  exact ⟨(), h, Ghost.both (ns := [0]) rfl rfl⟩
 rintro ⟨⟩ h
 replace h : Zaj = some r := h
 unfold Zaj at h
 refine zz ?_
 refine AW.ret ?_
 rw [← Option.some.inj h]
 exact ⟨[C.int (-1)], _, Ghost.refl _, (.cons (.tmp rfl) .nil), [0], _, _, rfl, ⟨rfl, rfl⟩⟩

def Zac (p0 : List TEvent) (p1_0 : TGraph') : Option Bool := (Zai p0 p1_0).bind fun r1 => some (decide (r1 ≥ 0))
theorem Zdn {b00 : Nat} (p0 : List TEvent) (p1_0 : TGraph') (r : Bool) (h : Zac p0 p1_0 = some r) : Ok Tryz.prog 113 [C.im kEvent 9 p0, C.clo 116 [C.val (.pointer (some ⟨b00, 0, none⟩))]] [Obj.box b00 30 [C.int p1_0.room, C.im kEvent 9 p1_0.events, C.im kEvent 9 p1_0.parked]] (fun c qs => c = C.bool r ∧ qs = [Obj.box b00 30 [C.int p1_0.room, C.im kEvent 9 p1_0.events, C.im kEvent 9 p1_0.parked]]) := by
 refine Ok.of_body (rs := [.tmp 4]) Tryz.func113 rfl rfl rfl rfl rfl fun X => ?_
 unfold Zac at h
 refine zz ?_
 refine ob' h fun r1 g2 h => ?_
 refine Ops.hd (ns := [0]) rfl rfl (op_callE (Zdu p0 p1_0 _ g2) rfl rfl) ?_
 refine zz ?_
 refine AW.ret ?_
 rw [← Option.some.inj h]
 exact ⟨[C.bool (decide (r1 ≥ 0))], _, Ghost.refl _, (.cons (.tmp rfl) .nil), [0], _, _, rfl, ⟨rfl, rfl⟩⟩

def Zc (p0 : TGraph') (x12 : Bool) : Option Bool := cond x12 (some false) ((Zab p0.events p0).bind fun r14 => cond r14 (some false) ((Zac p0.parked p0).bind fun r17 => cond r17 (some false) ((Z1h p0).bind fun r20 => some r20.2)))
def Z77 (p0 : TGraph') : Option Bool := (Z5k p0.room).bind fun r2 => cond r2 (cond (decide ((p0.events.length : Int) > 60)) (Zc p0 true) (cond (decide ((p0.parked.length : Int) > 20)) (Zc p0 true) ((Z53 p0 p0.events).bind fun r7 => cond r7 ((Z53 p0 p0.parked).bind fun r10 => Zc p0 (!r10)) (Zc p0 true)))) (Zc p0 true)
set_option maxHeartbeats 1000000 in
theorem Zcp (p0 : TGraph') (r : Bool) (h : Z77 p0 = some r) : Ok Tryz.prog 60 [C.agg [C.int p0.room, C.im kEvent 9 p0.events, C.im kEvent 9 p0.parked]] [] (fun c qs => c = C.bool r ∧ qs = []) := by
 refine Ok.of_body (rs := [.tmp 2]) Tryz.func60 rfl rfl rfl rfl rfl fun X => ?_
 unfold Z77 at h
 refine zz ?_
 refine Ops.h (ns := []) rfl rfl (op_boxA rfl rfl) ?_
 rintro _ _ ⟨b1, rfl, rfl⟩
 refine Ops.v rfl (op_assign rfl rfl) ?_
 refine Ops.nil ?_
 refine AW.seq ?_
 refine AW.seq ?_
 refine AW.cut (τ := Bool) (fun x12 => ⟨[(1, C.val (.pointer (some ⟨b1, 0, none⟩))), (34, C.bool x12)], [Obj.box b1 30 [C.int p0.room, C.im kEvent 9 p0.events, C.im kEvent 9 p0.parked]]⟩) (fun x12 => Zc p0 x12 = some r) ?_ ?_
 ·
  refine zz ?_
  refine ob' h fun r2 g3 h => ?_
  refine Ops.hd (ns := []) rfl rfl (op_callE (Zby _ _ g3) rfl rfl) ?_
  refine zz ?_
  refine cnd h (fun hb4 h => ?_) fun hb4 h => ?_
  ·
   refine Ops.gv rfl rfl rfl rfl (not_t hb4) (op_fieldAddr fo_30_1.h rfl rfl) ?_
   refine Ops.gv rfl rfl rfl rfl (not_t hb4) (op_load (p := 0) ld_28.h rfl rfl rfl rfl) ?_
   refine Ops.gv rfl rfl rfl rfl (not_t hb4) (op_len_im sl_28.h rfl rfl) ?_
   refine Ops.gv rfl rfl rfl rfl (not_t hb4) (op_bin rfl rfl rfl rfl) ?_
   refine Ops.v rfl (op_pick_f rfl (not_t hb4) rfl rfl) ?_
   refine zz ?_
   refine cnd h (fun hb5 h => ?_) fun hb5 h => ?_
   ·
    refine zz ?_
    exact ⟨true, h, Ghost.both (ns := [0]) rfl rfl⟩
   refine zz ?_
   refine cnd h (fun hb6 h => ?_) fun hb6 h => ?_
   ·
    refine zz ?_
    exact ⟨true, h, Ghost.both (ns := [0]) rfl rfl⟩
   refine Ops.gv rfl rfl rfl rfl hb6 (op_loadA (p := 0) (ds := [C.int p0.room, C.im kEvent 9 p0.events, C.im kEvent 9 p0.parked]) ld_30.h rfl rfl rfl rfl rfl) ?_
   refine zz ?_
   refine ob' h fun r7 g8 h => ?_
   refine Ops.ghd (ns := []) rfl rfl rfl rfl hb6 rfl (op_callE (Zbo _ _ _ g8) rfl rfl) ?_
   refine zz ?_
   refine cnd h (fun hb9 h => ?_) fun hb9 h => ?_
   ·
    refine Ops.gv rfl rfl rfl rfl (not_t hb9) (op_loadA (p := 0) (ds := [C.int p0.room, C.im kEvent 9 p0.events, C.im kEvent 9 p0.parked]) ld_30.h rfl rfl rfl rfl rfl) ?_
    refine Ops.gv rfl rfl rfl rfl (not_t hb9) (op_fieldAddr fo_30_2.h rfl rfl) ?_
    refine Ops.gv rfl rfl rfl rfl (not_t hb9) (op_load (p := 0) ld_28.h rfl rfl rfl rfl) ?_
    refine ob' h fun r10 g11 h => ?_
    refine Ops.ghd (ns := []) rfl rfl rfl rfl (not_t hb9) rfl (op_callE (Zbo _ _ _ g11) rfl rfl) ?_
    refine Ops.gv rfl rfl rfl rfl (not_t hb9) (op_not rfl rfl) ?_
    refine Ops.v rfl (op_pick_f rfl (not_t hb9) rfl rfl) ?_
    refine zz ?_
    exact ⟨(!r10), h, Ghost.both (ns := [0]) rfl rfl⟩
   iterate 5 refine Ops.gs rfl rfl rfl (.b rfl (not_f hb9)) rfl rfl ?_
   refine Ops.v rfl (op_pick_t rfl (not_f hb9) rfl rfl) ?_
   refine zz ?_
   exact ⟨true, h, Ghost.both (ns := [0]) rfl rfl⟩
  iterate 4 refine Ops.gs rfl rfl rfl (.b rfl (not_f hb4)) rfl rfl ?_
  refine Ops.v rfl (op_pick_t rfl (not_f hb4) rfl rfl) ?_
  refine zz ?_
  exact ⟨true, h, Ghost.both (ns := [0]) rfl rfl⟩
 intro x12 h
 replace h : Zc p0 x12 = some r := h
 unfold Zc at h
 refine cnd h (fun hb13 h => ?_) fun hb13 h => ?_
 ·
  refine AW.ct hb13 rfl ?_
  refine zz ?_
  refine AW.ret ?_
  rw [← Option.some.inj h]
  exact ⟨[C.bool false], _, Ghost.refl _, (.cons (.tmp rfl) .nil), [], _, _, rfl, ⟨rfl, rfl⟩⟩
 refine AW.cf hb13 rfl ?_
 refine zz ?_
 refine Ops.v rfl (op_makeFunc rfl rfl) ?_
 refine ob' h fun r14 g15 h => ?_
 refine Ops.hd (ns := [0]) rfl rfl (op_callE (Zdm p0.events p0 _ g15) rfl rfl) ?_
 refine zz ?_
 refine cnd h (fun hb16 h => ?_) fun hb16 h => ?_
 ·
  refine AW.ct hb16 rfl ?_
  refine zz ?_
  refine AW.ret ?_
  rw [← Option.some.inj h]
  exact ⟨[C.bool false], _, Ghost.refl _, (.cons (.tmp rfl) .nil), [], _, _, rfl, ⟨rfl, rfl⟩⟩
 refine AW.cf hb16 rfl ?_
 refine zz ?_
 refine Ops.v rfl (op_makeFunc rfl rfl) ?_
 refine ob' h fun r17 g18 h => ?_
 refine Ops.hd (ns := [0]) rfl rfl (op_callE (Zdn p0.parked p0 _ g18) rfl rfl) ?_
 refine zz ?_
 refine cnd h (fun hb19 h => ?_) fun hb19 h => ?_
 ·
  refine AW.ct hb19 rfl ?_
  refine zz ?_
  refine AW.ret ?_
  rw [← Option.some.inj h]
  exact ⟨[C.bool false], _, Ghost.refl _, (.cons (.tmp rfl) .nil), [], _, _, rfl, ⟨rfl, rfl⟩⟩
 refine AW.cf hb19 rfl ?_
 refine zz ?_
 refine Ops.v rfl (op_loadA (p := 0) (ds := [C.int p0.room, C.im kEvent 9 p0.events, C.im kEvent 9 p0.parked]) ld_30.h rfl rfl rfl rfl rfl) ?_
 refine ob' h fun r20 g21 h => ?_
 refine Ops.hd (ns := []) rfl rfl (op_callE (Z84' _ _ g21) rfl rfl) ?_
 refine zz ?_
 iterate 2 refine Ops.v rfl (op_extract rfl rfl rfl) ?_
 refine zz ?_
 refine AW.ret ?_
 rw [← Option.some.inj h]
 exact ⟨[C.bool r20.2], _, Ghost.refl _, (.cons (.tmp rfl) .nil), [], _, _, rfl, ⟨rfl, rfl⟩⟩

def Z1i (p0 : Int) (p1 : Int) (q0 : List Int) : Option Int := (getI q0 p0).bind fun e1 => (getI q0 p1).bind fun e3 => (Zb e1 e3).bind fun r5 => some r5
theorem Za2 {b00 : Nat} (p0 : Int) (p1 : Int) (q0 : List Int) (r : Int) (h : Z1i p0 p1 q0 = some r) : Ok Tryz.prog 171 [C.int p0, C.int p1, C.val (.pointer (some ⟨b00, 0, none⟩))] [Obj.box b00 26 [C.im kI64 1 q0]] (fun c qs => c = C.int r ∧ qs = [Obj.box b00 26 [C.im kI64 1 q0]]) := by
 refine Ok.of_body (rs := [.tmp 5]) Tryz.func171 rfl rfl rfl rfl rfl fun X => ?_
 unfold Z1i at h
 refine zz ?_
 refine AW.regionD (L := [0, 3, 4, 7]) (Lt := []) (k := .light 0 true (.light 1 false (.light 2 false (.light 3 true (.light 4 true (.light 5 false (.light 6 false (.light 7 true (.one 8 (.light 9 false .done)))))))))) (ns := [0]) (by kernel_rfl) (by kernel_rfl) (by kernel_rfl) (by kernel_rfl) rfl ?_
 refine zz ?_
 refine ob' h fun e1 g2 h => ?_
 refine OpsD.v rfl rfl (op_indexAddr_im sl_26.h rfl rfl g2 rfl) ?_
 refine OpsD.v rfl rfl (op_load_ip ld_2.h rfl rfl) ?_
 refine zz ?_
 refine ob' h fun e3 g4 h => ?_
 refine OpsD.v rfl rfl (op_indexAddr_im sl_26.h rfl rfl g4 rfl) ?_
 refine OpsD.v rfl rfl (op_load_ip ld_2.h rfl rfl) ?_
 refine zz ?_
 refine ob' h fun r5 g6 h => ?_
 refine StepD.h (ns := []) rfl rfl rfl (op_callE (Z3m _ _ _ g6) rfl rfl) ?_
 rintro _ _ ⟨rfl, rfl⟩
 refine zz ?_
 refine AW.ret ?_
 rw [← Option.some.inj h]
 exact ⟨[C.int r5], _, Ghost.refl _, (.cons (.tmp rfl) .nil), [0], _, _, rfl, ⟨rfl, rfl⟩⟩

def Z8h (x62 : Int) (l122 : List Int) : Option ((List Int × Int) ⊕ ((List Int))) := some (.inl (l122, (IntKind.i64.wrap (x62 + 1))))
def Z3t (l92 : List Int) (x93 : Int) (x110 : Bool) : Option ((List Int × Int) ⊕ ((List Int))) := cond x110 ((getI l92 (IntKind.i64.wrap (x93 - 1))).bind fun e112 => (getI l92 x93).bind fun e114 => (getI (List.set l92 (Int.toNat x93) e112) (IntKind.i64.wrap (x93 - 1))).bind fun e120 => some (.inl ((List.set (List.set l92 (Int.toNat x93) e112) (Int.toNat (IntKind.i64.wrap (x93 - 1))) e114), (IntKind.i64.wrap (x93 - 1))))) (some (.inr l92))
def Zq (p1 : Int) (p3_0 : List Int) (l92 : List Int) (x93 : Int) : Option ((List Int × Int) ⊕ ((List Int))) := cond (decide (x93 > p1)) ((getI l92 x93).bind fun e104 => (getI l92 (IntKind.i64.wrap (x93 - 1))).bind fun e106 => (Z1i e104 e106 p3_0).bind fun r108 => Z3t l92 x93 (decide (r108 < 0))) (Z3t l92 x93 false)
def Z24 (p1 : Int) (p2 : Int) (p3_0 : List Int) (l61 : List Int) (x62 : Int) : Option ((List Int × Int) ⊕ ((List Int))) := cond (decide (x62 < p2)) ((iter (fun z123 => Zq p1 p3_0 z123.1 z123.2) big (l61, x62)).bind fun y124 => Z8h x62 y124) (some (.inr l61))
def Z5x (p0 : List Int) (p1 : Int) (p2 : Int) (p3_0 : List Int) : Option (List Int) := (iter (fun z125 => Z24 p1 p2 p3_0 z125.1 z125.2) big (p0, (IntKind.i64.wrap (p1 + 1)))).bind fun y126 => some y126
set_option maxHeartbeats 1000000 in
theorem Zc5 {w00 : Value} {b01 : Nat} (p0 : List Int) (p1 : Int) (p2 : Int) (p3_0 : List Int) (r : List Int) (h : Z5x p0 p1 p2 p3_0 = some r) : Ok Tryz.prog 222 [C.val w00, C.int p1, C.int p2, C.clo 171 [C.val (.pointer (some ⟨b01, 0, none⟩))]] [Obj.arr w00 3 kI64 1 p0, Obj.box b01 26 [C.im kI64 1 p3_0]] (fun c qs => c = C.tup [] ∧ qs = [Obj.arr w00 3 kI64 1 r, Obj.box b01 26 [C.im kI64 1 p3_0]]) := by
 refine Ok.of_body (rs := []) Tryz.func222 rfl rfl rfl rfl rfl fun X => ?_
 unfold Z5x at h
 refine zz ?_
 refine ob' h fun o127 g128 q129 => ?_
 refine AW.loop (τ := List Int × Int) (x := (p0, (IntKind.i64.wrap (p1 + 1)))) (fun (l61, x62) => ⟨[(0, C.val w00), (1, C.int p1), (2, C.int p2), (3, C.clo 171 [C.val (.pointer (some ⟨b01, 0, none⟩))]), (8, C.int x62)], [Obj.arr w00 3 kI64 1 l61, Obj.box b01 26 [C.im kI64 1 p3_0]]⟩) (fun k (l61, x62) => iter (fun z125 => Z24 p1 p2 p3_0 z125.1 z125.2) k (l61, x62) = some o127) g128 (Ghost.both (ns := [0, 0]) rfl rfl) ?_
 rintro k ⟨l61, x62⟩ i131
 refine iter_succ' (show iter (fun z125 => Z24 p1 p2 p3_0 z125.1 z125.2) k (l61, x62) = some o127 from i131) fun k130 y132 hlt_k130 h h133 => ?_
 replace h : Z24 p1 p2 p3_0 l61 x62 = some y132 := h
 unfold Z24 at h
 refine zz ?_
 refine cnd h (fun hb63 h => ?_) fun hb63 h => ?_
 ·
  refine AW.ct hb63 rfl ?_
  refine AW.skip ?_
  refine AW.seq ?_
  refine AW.cut (τ := List Int) (fun l122 => ⟨[(0, C.val w00), (1, C.int p1), (2, C.int p2), (3, C.clo 171 [C.val (.pointer (some ⟨b01, 0, none⟩))]), (8, C.int x62)], [Obj.arr w00 3 kI64 1 l122, Obj.box b01 26 [C.im kI64 1 p3_0]]⟩) (fun l122 => Z8h x62 l122 = some y132) ?_ ?_
  ·
   refine zz ?_
   refine ob' h fun o134 g135 q136 => ?_
   refine AW.loop (τ := List Int × Int) (x := (l61, x62)) (fun (l92, x93) => ⟨[(0, C.val w00), (1, C.int p1), (2, C.int p2), (3, C.clo 171 [C.val (.pointer (some ⟨b01, 0, none⟩))]), (8, C.int x62), (9, C.int x93)], [Obj.arr w00 3 kI64 1 l92, Obj.box b01 26 [C.im kI64 1 p3_0]]⟩) (fun k (l92, x93) => iter (fun z123 => Zq p1 p3_0 z123.1 z123.2) k (l92, x93) = some o134) g135 (Ghost.both (ns := [0, 0]) rfl rfl) ?_
   rintro k ⟨l92, x93⟩ i138
   refine iter_succ' (show iter (fun z123 => Zq p1 p3_0 z123.1 z123.2) k (l92, x93) = some o134 from i138) fun k137 y139 hlt_k137 h h140 => ?_
   replace h : Zq p1 p3_0 l92 x93 = some y139 := h
   unfold Zq at h
   refine AW.seq ?_
   refine AW.seq ?_
   refine AW.cut (τ := Bool) (fun x110 => ⟨[(0, C.val w00), (1, C.int p1), (2, C.int p2), (3, C.clo 171 [C.val (.pointer (some ⟨b01, 0, none⟩))]), (8, C.int x62), (9, C.int x93), (34, C.bool x110)], [Obj.arr w00 3 kI64 1 l92, Obj.box b01 26 [C.im kI64 1 p3_0]]⟩) (fun x110 => Z3t l92 x93 x110 = some y139) ?_ ?_
   ·
    refine AW.regionD (L := [8, 13]) (Lt := []) (k := .light 0 false (.light 1 false (.light 2 false (.light 3 false (.light 4 false (.light 5 false (.light 6 false (.light 7 false (.light 8 true (.light 9 false (.light 10 false (.light 11 false (.light 12 false (.light 13 true (.one 14 (.light 15 false (.light 16 false .done))))))))))))))))) (ns := [0]) (by kernel_rfl) (by kernel_rfl) (by kernel_rfl) (by kernel_rfl) rfl ?_
    refine zz ?_
    refine cnd h (fun hb103 h => ?_) fun hb103 h => ?_
    ·
     refine zz ?_
     refine ob' h fun e104 g105 h => ?_
     refine OpsD.gv rfl rfl rfl rfl rfl hb103 (op_indexAddr_arr (p := 0) sl_170.h rfl rfl rfl g105 rfl) ?_
     refine OpsD.gv rfl rfl rfl rfl rfl hb103 (op_load_arr (p := 0) ld_3.h rfl rfl (getI_lt g105).2.2 rfl rfl) ?_
     refine zz ?_
     refine ob' h fun e106 g107 h => ?_
     refine OpsD.gv rfl rfl rfl rfl rfl hb103 (op_indexAddr_arr (p := 0) sl_170.h rfl rfl rfl g107 rfl) ?_
     refine OpsD.gv rfl rfl rfl rfl rfl hb103 (op_load_arr (p := 0) ld_3.h rfl rfl (getI_lt g107).2.2 rfl rfl) ?_
     refine zz ?_
     refine ob' h fun r108 g109 h => ?_
     refine StepD.gh (ns := [0]) rfl rfl rfl rfl rfl hb103 rfl (op_callCE (cs := [_, _]) (ds := [_]) rfl (Za2 e104 e106 p3_0 _ g109) rfl rfl) ?_
     rintro _ _ ⟨rfl, rfl⟩
     refine zz ?_
     exact ⟨decide (r108 < 0), h, Ghost.both (ns := [0, 0]) rfl rfl⟩
    refine OpsD.gs rfl rfl rfl rfl (.b rfl hb103) rfl rfl ?_
    refine OpsD.gs rfl rfl rfl rfl (.b rfl hb103) rfl rfl ?_
    refine OpsD.gs rfl rfl rfl rfl (.b rfl hb103) rfl rfl ?_
    refine OpsD.gs rfl rfl rfl rfl (.b rfl hb103) rfl rfl ?_
    refine OpsD.gs rfl rfl rfl rfl (.b rfl hb103) rfl rfl ?_
    refine OpsD.gs rfl rfl rfl rfl (.b rfl hb103) rfl rfl ?_
    refine OpsD.gs rfl rfl rfl rfl (.b rfl hb103) rfl rfl ?_
    refine OpsD.gs rfl rfl rfl rfl (.b rfl hb103) rfl rfl ?_
    refine OpsD.gs rfl rfl rfl rfl (.b rfl hb103) rfl rfl ?_
    refine OpsD.gs rfl rfl rfl rfl (.b rfl hb103) rfl rfl ?_
    refine OpsD.one ?_
    refine StepD.gs rfl rfl rfl rfl (.b rfl hb103) rfl rfl ?_
    refine zz ?_
    exact ⟨false, h, Ghost.both (ns := [0, 0]) rfl rfl⟩
   intro x110 h
   replace h : Z3t l92 x93 x110 = some y139 := h
   unfold Z3t at h
   refine cnd h (fun hb111 h => ?_) fun hb111 h => ?_
   ·
    refine AW.ct hb111 rfl ?_
    refine zz ?_
    refine AW.regionD (L := [9, 13]) (Lt := [15, 17]) (k := .light 0 false (.light 1 false (.light 2 false (.light 3 false (.light 4 false (.light 5 false (.light 6 false (.light 7 false (.light 8 false (.light 9 true (.light 10 false (.light 11 false (.light 12 false (.light 13 true (.light 14 false (.late 15 (.light 16 false (.late 17 (.done))))))))))))))))))) (ns := [0, 0]) (by kernel_rfl) (by kernel_rfl) (by kernel_rfl) (by kernel_rfl) rfl ?_
    refine zz ?_
    refine ob' h fun e112 g113 h => ?_
    refine OpsD.v rfl rfl (op_indexAddr_arr (p := 0) sl_170.h rfl rfl rfl g113 rfl) ?_
    refine OpsD.v rfl rfl (op_load_arr (p := 0) ld_3.h rfl rfl (getI_lt g113).2.2 rfl rfl) ?_
    refine zz ?_
    refine ob' h fun e114 g115 h => ?_
    refine OpsD.v rfl rfl (op_indexAddr_arr (p := 0) sl_170.h rfl rfl rfl g115 rfl) ?_
    refine OpsD.v rfl rfl (op_load_arr (p := 0) ld_3.h rfl rfl (getI_lt g115).2.2 rfl rfl) ?_
    refine OpsD.v rfl rfl (op_indexAddr_arr (p := 0) sl_170.h rfl rfl rfl g115 rfl) ?_
    refine OpsD.late (ns := [0]) rfl rfl rfl (op_store_arr (e' := e112) ld_3.h rfl rfl (One.val rfl) (getI_lt g115).2.2 rfl rfl) ?_
    rintro _ _ ⟨rfl, rfl⟩
    refine ob' h fun e120 g121 h => ?_
    refine OpsD.rest (ns := [0, 0]) rfl ?_
    refine OpsD.v rfl rfl (op_indexAddr_arr (p := 0) sl_170.h rfl rfl rfl g121 rfl) ?_
    refine OpsD.late (ns := [0]) rfl rfl rfl (op_store_arr (e' := e114) ld_3.h rfl rfl (One.val rfl) (getI_lt g121).2.2 rfl rfl) ?_
    rintro _ _ ⟨rfl, rfl⟩
    refine zz ?_
    obtain rfl := Option.some.inj h
    exact ⟨k137, ((List.set (List.set l92 (Int.toNat x93) e112) (Int.toNat (IntKind.i64.wrap (x93 - 1))) e114), (IntKind.i64.wrap (x93 - 1))), hlt_k137, h140, Ghost.both (ns := [0, 0]) rfl rfl⟩
   refine AW.cf hb111 rfl ?_
   refine AW.exit ?_
   obtain rfl := Option.some.inj h
   obtain rfl := Option.some.inj h140
   replace h := q136
   exact ⟨l92, h, Ghost.both (ns := [0, 0]) rfl rfl⟩
  intro l122 h
  replace h : Z8h x62 l122 = some y132 := h
  unfold Z8h at h
  refine zz ?_
  obtain rfl := Option.some.inj h
  exact ⟨k130, (l122, (IntKind.i64.wrap (x62 + 1))), hlt_k130, h133, Ghost.both (ns := [0, 0]) rfl rfl⟩
 refine AW.cf hb63 rfl ?_
 refine AW.exit ?_
 obtain rfl := Option.some.inj h
 obtain rfl := Option.some.inj h133
 replace h := q129
 rw [← Option.some.inj h]
 exact ⟨[], _, Ghost.refl _, .nil, [0, 0], _, _, rfl, ⟨rfl, rfl⟩⟩

def Z25 (p1 : Int) (p2 : Int) (p3 : Int) (l12 : List Int) (x13 : Int) : Option ((List Int × Int) ⊕ ((List Int))) := cond (decide (x13 < p3)) ((getI l12 (IntKind.i64.wrap (p2 + x13))).bind fun e15 => (getI l12 (IntKind.i64.wrap (p1 + x13))).bind fun e17 => (getI (List.set l12 (Int.toNat (IntKind.i64.wrap (p1 + x13))) e15) (IntKind.i64.wrap (p2 + x13))).bind fun e23 => some (.inl ((List.set (List.set l12 (Int.toNat (IntKind.i64.wrap (p1 + x13))) e15) (Int.toNat (IntKind.i64.wrap (p2 + x13))) e17), (IntKind.i64.wrap (x13 + 1))))) (some (.inr l12))
def Z3y (p0 : List Int) (p1 : Int) (p2 : Int) (p3 : Int) (p4_0 : List Int) : Option (List Int) := (iter (fun z25 => Z25 p1 p2 p3 z25.1 z25.2) big (p0, 0)).bind fun y26 => some y26
theorem Zbb {w00 : Value} {b01 : Nat} (p0 : List Int) (p1 : Int) (p2 : Int) (p3 : Int) (p4_0 : List Int) (r : List Int) (h : Z3y p0 p1 p2 p3 p4_0 = some r) : Ok Tryz.prog 243 [C.val w00, C.int p1, C.int p2, C.int p3, C.clo 171 [C.val (.pointer (some ⟨b01, 0, none⟩))]] [Obj.arr w00 3 kI64 1 p0, Obj.box b01 26 [C.im kI64 1 p4_0]] (fun c qs => c = C.tup [] ∧ qs = [Obj.arr w00 3 kI64 1 r, Obj.box b01 26 [C.im kI64 1 p4_0]]) := by
 refine Ok.of_body (rs := []) Tryz.func243 rfl rfl rfl rfl rfl fun X => ?_
 unfold Z3y at h
 refine zz ?_
 refine ob' h fun o27 g28 q29 => ?_
 refine AW.loop (τ := List Int × Int) (x := (p0, 0)) (fun (l12, x13) => ⟨[(0, C.val w00), (1, C.int p1), (2, C.int p2), (3, C.int p3), (10, C.int x13)], [Obj.arr w00 3 kI64 1 l12, Obj.box b01 26 [C.im kI64 1 p4_0]]⟩) (fun k (l12, x13) => iter (fun z25 => Z25 p1 p2 p3 z25.1 z25.2) k (l12, x13) = some o27) g28 (Ghost.both (ns := [0, 0]) rfl rfl) ?_
 rintro k ⟨l12, x13⟩ i31
 refine iter_succ' (show iter (fun z25 => Z25 p1 p2 p3 z25.1 z25.2) k (l12, x13) = some o27 from i31) fun k30 y32 hlt_k30 h h33 => ?_
 replace h : Z25 p1 p2 p3 l12 x13 = some y32 := h
 unfold Z25 at h
 refine zz ?_
 refine cnd h (fun hb14 h => ?_) fun hb14 h => ?_
 ·
  refine AW.ct hb14 rfl ?_
  refine zz ?_
  refine AW.regionD (L := [13, 19]) (Lt := [21, 23]) (k := .light 0 false (.light 1 false (.light 2 false (.light 3 false (.light 4 false (.light 5 false (.light 6 false (.light 7 false (.light 8 false (.light 9 false (.light 10 false (.light 11 false (.light 12 false (.light 13 true (.light 14 false (.light 15 false (.light 16 false (.light 17 false (.light 18 false (.light 19 true (.light 20 false (.late 21 (.light 22 false (.late 23 (.done))))))))))))))))))))))))) (ns := [0, 0]) (by kernel_rfl) (by kernel_rfl) (by kernel_rfl) (by kernel_rfl) rfl ?_
  refine zz ?_
  refine ob' h fun e15 g16 h => ?_
  refine OpsD.v rfl rfl (op_indexAddr_arr (p := 0) sl_170.h rfl rfl rfl g16 rfl) ?_
  refine OpsD.v rfl rfl (op_load_arr (p := 0) ld_3.h rfl rfl (getI_lt g16).2.2 rfl rfl) ?_
  refine zz ?_
  refine ob' h fun e17 g18 h => ?_
  refine OpsD.v rfl rfl (op_indexAddr_arr (p := 0) sl_170.h rfl rfl rfl g18 rfl) ?_
  refine OpsD.v rfl rfl (op_load_arr (p := 0) ld_3.h rfl rfl (getI_lt g18).2.2 rfl rfl) ?_
  refine OpsD.v rfl rfl (op_indexAddr_arr (p := 0) sl_170.h rfl rfl rfl g18 rfl) ?_
  refine OpsD.late (ns := [0]) rfl rfl rfl (op_store_arr (e' := e15) ld_3.h rfl rfl (One.val rfl) (getI_lt g18).2.2 rfl rfl) ?_
  rintro _ _ ⟨rfl, rfl⟩
  refine ob' h fun e23 g24 h => ?_
  refine OpsD.rest (ns := [0, 0]) rfl ?_
  refine OpsD.v rfl rfl (op_indexAddr_arr (p := 0) sl_170.h rfl rfl rfl g24 rfl) ?_
  refine OpsD.late (ns := [0]) rfl rfl rfl (op_store_arr (e' := e17) ld_3.h rfl rfl (One.val rfl) (getI_lt g24).2.2 rfl rfl) ?_
  rintro _ _ ⟨rfl, rfl⟩
  refine zz ?_
  obtain rfl := Option.some.inj h
  exact ⟨k30, ((List.set (List.set l12 (Int.toNat (IntKind.i64.wrap (p1 + x13))) e15) (Int.toNat (IntKind.i64.wrap (p2 + x13))) e17), (IntKind.i64.wrap (x13 + 1))), hlt_k30, h33, Ghost.both (ns := [0, 0]) rfl rfl⟩
 refine AW.cf hb14 rfl ?_
 refine AW.exit ?_
 obtain rfl := Option.some.inj h
 obtain rfl := Option.some.inj h33
 replace h := q29
 rw [← Option.some.inj h]
 exact ⟨[], _, Ghost.refl _, .nil, [0, 0], _, _, rfl, ⟨rfl, rfl⟩⟩

def Z5z (p2 : Int) (p4_0 : List Int) (l16 : List Int) (x17 : Int) : Option (List Int) := (Z3y l16 (IntKind.i64.wrap (p2 - x17)) p2 x17 p4_0).bind fun r18 => some r18
def Z3u (p2 : Int) (p4_0 : List Int) (l7 : List Int) (x8 : Int) (x9 : Int) : Option ((List Int × Int × Int) ⊕ ((List Int × Int))) := cond (x8 != x9) (cond (decide (x8 > x9)) ((Z3y l7 (IntKind.i64.wrap (p2 - x8)) p2 x9 p4_0).bind fun r12 => some (.inl (r12, (IntKind.i64.wrap (x8 - x9)), x9))) ((Z3y l7 (IntKind.i64.wrap (p2 - x8)) (IntKind.i64.wrap ((IntKind.i64.wrap (p2 + x9)) - x8)) x8 p4_0).bind fun r14 => some (.inl (r14, x8, (IntKind.i64.wrap (x9 - x8)))))) (some (.inr (l7, x8)))
def Z5y (p0 : List Int) (p1 : Int) (p2 : Int) (p3 : Int) (p4_0 : List Int) : Option (List Int) := (iter (fun z20 => Z3u p2 p4_0 z20.1 z20.2.1 z20.2.2) big (p0, (IntKind.i64.wrap (p2 - p1)), (IntKind.i64.wrap (p3 - p2)))).bind fun (y21, y22) => Z5z p2 p4_0 y21 y22
theorem Ze1 {w00 : Value} {b01 : Nat} (p0 : List Int) (p1 : Int) (p2 : Int) (p3 : Int) (p4_0 : List Int) (r : List Int) (h : Z5y p0 p1 p2 p3 p4_0 = some r) : Ok Tryz.prog 231 [C.val w00, C.int p1, C.int p2, C.int p3, C.clo 171 [C.val (.pointer (some ⟨b01, 0, none⟩))]] [Obj.arr w00 3 kI64 1 p0, Obj.box b01 26 [C.im kI64 1 p4_0]] (fun c qs => c = C.tup [] ∧ qs = [Obj.arr w00 3 kI64 1 r, Obj.box b01 26 [C.im kI64 1 p4_0]]) := by
 refine Ok.of_body (rs := []) Tryz.func231 rfl rfl rfl rfl rfl fun X => ?_
 unfold Z5y at h
 refine AW.seq ?_
 refine AW.region ?_
 refine Ops.v rfl (op_move rfl rfl) ?_
 refine Ops.v rfl (op_move rfl rfl) ?_
 refine Ops.v rfl (op_bin rfl rfl rfl rfl) ?_
 refine Ops.v rfl (op_assign rfl rfl) ?_
 refine Ops.nil ?_
 refine AW.seq ?_
 refine AW.region ?_
 refine Ops.v rfl (op_move rfl rfl) ?_
 refine Ops.v rfl (op_move rfl rfl) ?_
 refine Ops.v rfl (op_bin rfl rfl rfl rfl) ?_
 refine Ops.v rfl (op_assign rfl rfl) ?_
 refine Ops.nil ?_
 refine AW.seq ?_
 refine AW.cut (τ := List Int × Int) (fun (l16, x17) => ⟨[(0, C.val w00), (2, C.int p2), (4, C.clo 171 [C.val (.pointer (some ⟨b01, 0, none⟩))]), (10, C.int x17)], [Obj.arr w00 3 kI64 1 l16, Obj.box b01 26 [C.im kI64 1 p4_0]]⟩) (fun (l16, x17) => Z5z p2 p4_0 l16 x17 = some r) ?_ ?_
 ·
  refine zz ?_
  refine ob' h fun o23 g24 q25 => ?_
  refine AW.loop (τ := List Int × Int × Int) (x := (p0, (IntKind.i64.wrap (p2 - p1)), (IntKind.i64.wrap (p3 - p2)))) (fun (l7, x8, x9) => ⟨[(0, C.val w00), (2, C.int p2), (4, C.clo 171 [C.val (.pointer (some ⟨b01, 0, none⟩))]), (10, C.int x8), (11, C.int x9)], [Obj.arr w00 3 kI64 1 l7, Obj.box b01 26 [C.im kI64 1 p4_0]]⟩) (fun k (l7, x8, x9) => iter (fun z20 => Z3u p2 p4_0 z20.1 z20.2.1 z20.2.2) k (l7, x8, x9) = some o23) g24 (Ghost.both (ns := [0, 0]) rfl rfl) ?_
  rintro k ⟨l7, x8, x9⟩ i27
  refine iter_succ' (show iter (fun z20 => Z3u p2 p4_0 z20.1 z20.2.1 z20.2.2) k (l7, x8, x9) = some o23 from i27) fun k26 y28 hlt_k26 h h29 => ?_
  replace h : Z3u p2 p4_0 l7 x8 x9 = some y28 := h
  unfold Z3u at h
  refine zz ?_
  refine cnd h (fun hb10 h => ?_) fun hb10 h => ?_
  ·
   refine AW.ct hb10 rfl ?_
   refine zz ?_
   refine cnd h (fun hb11 h => ?_) fun hb11 h => ?_
   ·
    refine AW.ct hb11 rfl ?_
    refine zz ?_
    refine ob' h fun r12 g13 h => ?_
    refine Ops.hd (ns := [0, 0]) rfl rfl (op_callE (Zbb l7 (IntKind.i64.wrap (p2 - x8)) p2 x9 p4_0 _ g13) rfl rfl) ?_
    refine zz ?_
    obtain rfl := Option.some.inj h
    exact ⟨k26, (r12, (IntKind.i64.wrap (x8 - x9)), x9), hlt_k26, h29, Ghost.both (ns := [0, 0]) rfl rfl⟩
   refine AW.cf hb11 rfl ?_
   refine zz ?_
   refine ob' h fun r14 g15 h => ?_
   refine Ops.hd (ns := [0, 0]) rfl rfl (op_callE (Zbb l7 (IntKind.i64.wrap (p2 - x8)) (IntKind.i64.wrap ((IntKind.i64.wrap (p2 + x9)) - x8)) x8 p4_0 _ g15) rfl rfl) ?_
   refine zz ?_
   obtain rfl := Option.some.inj h
   exact ⟨k26, (r14, x8, (IntKind.i64.wrap (x9 - x8))), hlt_k26, h29, Ghost.both (ns := [0, 0]) rfl rfl⟩
  refine AW.cf hb10 rfl ?_
  refine AW.exit ?_
  obtain rfl := Option.some.inj h
  obtain rfl := Option.some.inj h29
  replace h := q25
  exact ⟨(l7, x8), h, Ghost.both (ns := [0, 0]) rfl rfl⟩
 rintro ⟨l16, x17⟩ h
 replace h : Z5z p2 p4_0 l16 x17 = some r := h
 unfold Z5z at h
 refine zz ?_
 refine ob' h fun r18 g19 h => ?_
 refine Ops.hd (ns := [0, 0]) rfl rfl (op_callE (Zbb l16 (IntKind.i64.wrap (p2 - x17)) p2 x17 p4_0 _ g19) rfl rfl) ?_
 refine zz ?_
 rw [← Option.some.inj h]
 exact ⟨[], _, Ghost.refl _, .nil, [0, 0], _, _, rfl, ⟨rfl, rfl⟩⟩

def Zat (l61 : List Int) : Option (List Int) := some l61
def Z40 (x36 : Int) (l48 : List Int) (x49 : Int) : Option ((List Int × Int) ⊕ ((List Int))) := cond (decide (x49 < (IntKind.i64.wrap (x36 - 1)))) ((getI l48 (IntKind.i64.wrap (x49 + 1))).bind fun e51 => (getI l48 x49).bind fun e53 => (getI (List.set l48 (Int.toNat x49) e51) (IntKind.i64.wrap (x49 + 1))).bind fun e59 => some (.inl ((List.set (List.set l48 (Int.toNat x49) e51) (Int.toNat (IntKind.i64.wrap (x49 + 1))) e53), (IntKind.i64.wrap (x49 + 1))))) (some (.inr l48))
def Z64 (p0 : List Int) (p1 : Int) (x36 : Int) : Option (List Int) := (iter (fun z178 => Z40 x36 z178.1 z178.2) big (p0, p1)).bind fun y179 => Zat y179
def Z27 (p0 : List Int) (p1 : Int) (p4_0 : List Int) (x18 : Int) (x19 : Int) : Option ((Int × Int) ⊕ (Int)) := cond (decide (x18 < x19)) ((getI p0 (IntKind.i64.wrap (shrI .u64 (IntKind.u64.wrap (IntKind.i64.wrap (x18 + x19))) 1))).bind fun e29 => (getI p0 p1).bind fun e31 => (Z1i e29 e31 p4_0).bind fun r33 => cond (decide (r33 < 0)) (some (.inl ((IntKind.i64.wrap ((IntKind.i64.wrap (shrI .u64 (IntKind.u64.wrap (IntKind.i64.wrap (x18 + x19))) 1)) + 1)), x19))) (some (.inl (x18, (IntKind.i64.wrap (shrI .u64 (IntKind.u64.wrap (IntKind.i64.wrap (x18 + x19))) 1)))))) (some (.inr x18))
def Zau (l122 : List Int) : Option (List Int) := some l122
def Z41 (x97 : Int) (l109 : List Int) (x110 : Int) : Option ((List Int × Int) ⊕ ((List Int))) := cond (decide (x110 > x97)) ((getI l109 (IntKind.i64.wrap (x110 - 1))).bind fun e112 => (getI l109 x110).bind fun e114 => (getI (List.set l109 (Int.toNat x110) e112) (IntKind.i64.wrap (x110 - 1))).bind fun e120 => some (.inl ((List.set (List.set l109 (Int.toNat x110) e112) (Int.toNat (IntKind.i64.wrap (x110 - 1))) e114), (IntKind.i64.wrap (x110 - 1))))) (some (.inr l109))
def Z65 (p0 : List Int) (p2 : Int) (x97 : Int) : Option (List Int) := (iter (fun z182 => Z41 x97 z182.1 z182.2) big (p0, p2)).bind fun y183 => Zau y183
def Z28 (p0 : List Int) (p2 : Int) (p4_0 : List Int) (x79 : Int) (x80 : Int) : Option ((Int × Int) ⊕ (Int)) := cond (decide (x79 < x80)) ((getI p0 p2).bind fun e90 => (getI p0 (IntKind.i64.wrap (shrI .u64 (IntKind.u64.wrap (IntKind.i64.wrap (x79 + x80))) 1))).bind fun e92 => (Z1i e90 e92 p4_0).bind fun r94 => cond (decide (r94 < 0)) (some (.inl (x79, (IntKind.i64.wrap (shrI .u64 (IntKind.u64.wrap (IntKind.i64.wrap (x79 + x80))) 1))))) (some (.inl ((IntKind.i64.wrap ((IntKind.i64.wrap (shrI .u64 (IntKind.u64.wrap (IntKind.i64.wrap (x79 + x80))) 1)) + 1)), x80)))) (some (.inr x79))
def Z66 (p1 : Int) (p2 : Int) (p3 : Int) (p4_0 : List Int) (self_ : (List Int) → Int → Int → Int → (List Int) → Option (List Int)) (x160 : Int) (l172 : List Int) (x174 : Bool) : Option (List Int) := cond x174 ((self_ l172 (IntKind.i64.wrap (shrI .u64 (IntKind.u64.wrap (IntKind.i64.wrap (p1 + p3))) 1)) (IntKind.i64.wrap ((IntKind.i64.wrap ((IntKind.i64.wrap (shrI .u64 (IntKind.u64.wrap (IntKind.i64.wrap (p1 + p3))) 1)) + p2)) - x160)) p3 p4_0).bind fun r176 => some r176) (some l172)
def Z61 (p1 : Int) (p2 : Int) (p3 : Int) (p4_0 : List Int) (self_ : (List Int) → Int → Int → Int → (List Int) → Option (List Int)) (x160 : Int) (l172 : List Int) : Option (List Int) := cond (decide ((IntKind.i64.wrap (shrI .u64 (IntKind.u64.wrap (IntKind.i64.wrap (p1 + p3))) 1)) < (IntKind.i64.wrap ((IntKind.i64.wrap ((IntKind.i64.wrap (shrI .u64 (IntKind.u64.wrap (IntKind.i64.wrap (p1 + p3))) 1)) + p2)) - x160)))) (Z66 p1 p2 p3 p4_0 self_ x160 l172 (decide ((IntKind.i64.wrap ((IntKind.i64.wrap ((IntKind.i64.wrap (shrI .u64 (IntKind.u64.wrap (IntKind.i64.wrap (p1 + p3))) 1)) + p2)) - x160)) < p3))) (Z66 p1 p2 p3 p4_0 self_ x160 l172 false)
def Z62 (p1 : Int) (p2 : Int) (p3 : Int) (p4_0 : List Int) (self_ : (List Int) → Int → Int → Int → (List Int) → Option (List Int)) (x160 : Int) (l166 : List Int) (x168 : Bool) : Option (List Int) := cond x168 ((self_ l166 p1 x160 (IntKind.i64.wrap (shrI .u64 (IntKind.u64.wrap (IntKind.i64.wrap (p1 + p3))) 1)) p4_0).bind fun r170 => Z61 p1 p2 p3 p4_0 self_ x160 r170) (Z61 p1 p2 p3 p4_0 self_ x160 l166)
def Z26 (p1 : Int) (p2 : Int) (p3 : Int) (p4_0 : List Int) (self_ : (List Int) → Int → Int → Int → (List Int) → Option (List Int)) (x160 : Int) (l166 : List Int) : Option (List Int) := cond (decide (p1 < x160)) (Z62 p1 p2 p3 p4_0 self_ x160 l166 (decide (x160 < (IntKind.i64.wrap (shrI .u64 (IntKind.u64.wrap (IntKind.i64.wrap (p1 + p3))) 1))))) (Z62 p1 p2 p3 p4_0 self_ x160 l166 false)
def Z63 (p0 : List Int) (p1 : Int) (p2 : Int) (p3 : Int) (p4_0 : List Int) (self_ : (List Int) → Int → Int → Int → (List Int) → Option (List Int)) (x160 : Int) (x162 : Bool) : Option (List Int) := cond x162 ((Z5y p0 x160 p2 (IntKind.i64.wrap ((IntKind.i64.wrap ((IntKind.i64.wrap (shrI .u64 (IntKind.u64.wrap (IntKind.i64.wrap (p1 + p3))) 1)) + p2)) - x160)) p4_0).bind fun r164 => Z26 p1 p2 p3 p4_0 self_ x160 r164) (Z26 p1 p2 p3 p4_0 self_ x160 p0)
def Z8m (p0 : List Int) (p1 : Int) (p2 : Int) (p3 : Int) (p4_0 : List Int) (self_ : (List Int) → Int → Int → Int → (List Int) → Option (List Int)) (x160 : Int) : Option (List Int) := cond (decide (x160 < p2)) (Z63 p0 p1 p2 p3 p4_0 self_ x160 (decide (p2 < (IntKind.i64.wrap ((IntKind.i64.wrap ((IntKind.i64.wrap (shrI .u64 (IntKind.u64.wrap (IntKind.i64.wrap (p1 + p3))) 1)) + p2)) - x160))))) (Z63 p0 p1 p2 p3 p4_0 self_ x160 false)
def Z3z (p0 : List Int) (p1 : Int) (p2 : Int) (p3 : Int) (p4_0 : List Int) (x142 : Int) (x143 : Int) : Option ((Int × Int) ⊕ (Int)) := cond (decide (x142 < x143)) ((getI p0 (IntKind.i64.wrap ((IntKind.i64.wrap ((IntKind.i64.wrap ((IntKind.i64.wrap (shrI .u64 (IntKind.u64.wrap (IntKind.i64.wrap (p1 + p3))) 1)) + p2)) - 1)) - (IntKind.i64.wrap (shrI .u64 (IntKind.u64.wrap (IntKind.i64.wrap (x142 + x143))) 1))))).bind fun e153 => (getI p0 (IntKind.i64.wrap (shrI .u64 (IntKind.u64.wrap (IntKind.i64.wrap (x142 + x143))) 1))).bind fun e155 => (Z1i e153 e155 p4_0).bind fun r157 => cond (decide (r157 < 0)) (some (.inl (x142, (IntKind.i64.wrap (shrI .u64 (IntKind.u64.wrap (IntKind.i64.wrap (x142 + x143))) 1))))) (some (.inl ((IntKind.i64.wrap ((IntKind.i64.wrap (shrI .u64 (IntKind.u64.wrap (IntKind.i64.wrap (x142 + x143))) 1)) + 1)), x143)))) (some (.inr x142))
def Zs (p0 : List Int) (p1 : Int) (p2 : Int) (p3 : Int) (p4_0 : List Int) (self_ : (List Int) → Int → Int → Int → (List Int) → Option (List Int)) (x124 : Int) (x125 : Int) : Option (List Int) := (iter (fun z186 => Z3z p0 p1 p2 p3 p4_0 z186.1 z186.2) big (x124, x125)).bind fun y187 => Z8m p0 p1 p2 p3 p4_0 self_ y187
def Z8l (self_ : (List Int) → Int → Int → Int → (List Int) → Option (List Int)) (p0 : List Int) (p1 : Int) (p2 : Int) (p3 : Int) (p4_0 : List Int) : Option (List Int) := cond ((IntKind.i64.wrap (p2 - p1)) == 1) ((iter (fun z180 => Z27 p0 p1 p4_0 z180.1 z180.2) big (p2, p3)).bind fun y181 => Z64 p0 p1 y181) (cond ((IntKind.i64.wrap (p3 - p2)) == 1) ((iter (fun z184 => Z28 p0 p2 p4_0 z184.1 z184.2) big (p1, p2)).bind fun y185 => Z65 p0 p2 y185) (cond (decide (p2 > (IntKind.i64.wrap (shrI .u64 (IntKind.u64.wrap (IntKind.i64.wrap (p1 + p3))) 1)))) (Zs p0 p1 p2 p3 p4_0 self_ (IntKind.i64.wrap ((IntKind.i64.wrap ((IntKind.i64.wrap (shrI .u64 (IntKind.u64.wrap (IntKind.i64.wrap (p1 + p3))) 1)) + p2)) - p3)) (IntKind.i64.wrap (shrI .u64 (IntKind.u64.wrap (IntKind.i64.wrap (p1 + p3))) 1))) (Zs p0 p1 p2 p3 p4_0 self_ p1 p2)))
set_option maxHeartbeats 1000000 in
theorem Ze3 (self_ : (List Int) → Int → Int → Int → (List Int) → Option (List Int)) (hself_ : ∀ {w00 : Value} {b01 : Nat} (p0 : List Int) (p1 : Int) (p2 : Int) (p3 : Int) (p4_0 : List Int) (r : List Int), self_ p0 p1 p2 p3 p4_0 = some r → Ok Tryz.prog 223 [C.val w00, C.int p1, C.int p2, C.int p3, C.clo 171 [C.val (.pointer (some ⟨b01, 0, none⟩))]] [Obj.arr w00 3 kI64 1 p0, Obj.box b01 26 [C.im kI64 1 p4_0]] (fun c qs => c = C.tup [] ∧ qs = [Obj.arr w00 3 kI64 1 r, Obj.box b01 26 [C.im kI64 1 p4_0]])) {w00 : Value} {b01 : Nat} (p0 : List Int) (p1 : Int) (p2 : Int) (p3 : Int) (p4_0 : List Int) (r : List Int) (h : Z8l self_ p0 p1 p2 p3 p4_0 = some r) : Ok Tryz.prog 223 [C.val w00, C.int p1, C.int p2, C.int p3, C.clo 171 [C.val (.pointer (some ⟨b01, 0, none⟩))]] [Obj.arr w00 3 kI64 1 p0, Obj.box b01 26 [C.im kI64 1 p4_0]] (fun c qs => c = C.tup [] ∧ qs = [Obj.arr w00 3 kI64 1 r, Obj.box b01 26 [C.im kI64 1 p4_0]]) := by
 refine Ok.of_body (rs := []) Tryz.func223 rfl rfl rfl rfl rfl fun X => ?_
 unfold Z8l at h
 refine zz ?_
 refine cnd h (fun hb1 h => ?_) fun hb1 h => ?_
 ·
  refine AW.ct hb1 rfl ?_
  refine AW.seq ?_
  refine AW.region ?_
  refine Ops.v rfl (op_move rfl rfl) ?_
  refine Ops.v rfl (op_assign rfl rfl) ?_
  refine Ops.nil ?_
  refine AW.seq ?_
  refine AW.region ?_
  refine Ops.v rfl (op_move rfl rfl) ?_
  refine Ops.v rfl (op_assign rfl rfl) ?_
  refine Ops.nil ?_
  refine AW.seq ?_
  refine AW.cut (τ := Int) (fun x36 => ⟨[(0, C.val w00), (1, C.int p1), (10, C.int x36)], [Obj.arr w00 3 kI64 1 p0, Obj.box b01 26 [C.im kI64 1 p4_0]]⟩) (fun x36 => Z64 p0 p1 x36 = some r) ?_ ?_
  ·
   refine zz ?_
   refine ob' h fun o195 g196 q197 => ?_
   refine AW.loop (τ := Int × Int) (x := (p2, p3)) (fun (x18, x19) => ⟨[(0, C.val w00), (1, C.int p1), (4, C.clo 171 [C.val (.pointer (some ⟨b01, 0, none⟩))]), (10, C.int x18), (11, C.int x19)], [Obj.arr w00 3 kI64 1 p0, Obj.box b01 26 [C.im kI64 1 p4_0]]⟩) (fun k (x18, x19) => iter (fun z180 => Z27 p0 p1 p4_0 z180.1 z180.2) k (x18, x19) = some o195) g196 (Ghost.both (ns := [0, 0]) rfl rfl) ?_
   rintro k ⟨x18, x19⟩ i199
   refine iter_succ' (show iter (fun z180 => Z27 p0 p1 p4_0 z180.1 z180.2) k (x18, x19) = some o195 from i199) fun k198 y200 hlt_k198 h h201 => ?_
   replace h : Z27 p0 p1 p4_0 x18 x19 = some y200 := h
   unfold Z27 at h
   refine zz ?_
   refine cnd h (fun hb20 h => ?_) fun hb20 h => ?_
   ·
    refine AW.ct hb20 rfl ?_
    refine zz ?_
    refine Ops.v rfl (op_conv un_3 un_138 rfl rfl) ?_
    refine Ops.v rfl (op_shift rfl rfl rfl rfl) ?_
    refine Ops.v rfl (op_conv un_138 un_3 rfl rfl) ?_
    refine zz ?_
    refine AW.regionD (L := [4, 8]) (Lt := []) (k := .light 0 false (.light 1 false (.light 2 false (.light 3 false (.light 4 true (.light 5 false (.light 6 false (.light 7 false (.light 8 true (.one 9 (.light 10 false .done))))))))))) (ns := [0]) (by kernel_rfl) (by kernel_rfl) (by kernel_rfl) (by kernel_rfl) rfl ?_
    refine zz ?_
    refine ob' h fun e29 g30 h => ?_
    refine OpsD.v rfl rfl (op_indexAddr_arr (p := 0) sl_170.h rfl rfl rfl g30 rfl) ?_
    refine OpsD.v rfl rfl (op_load_arr (p := 0) ld_3.h rfl rfl (getI_lt g30).2.2 rfl rfl) ?_
    refine zz ?_
    refine ob' h fun e31 g32 h => ?_
    refine OpsD.v rfl rfl (op_indexAddr_arr (p := 0) sl_170.h rfl rfl rfl g32 rfl) ?_
    refine OpsD.v rfl rfl (op_load_arr (p := 0) ld_3.h rfl rfl (getI_lt g32).2.2 rfl rfl) ?_
    refine zz ?_
    refine ob' h fun r33 g34 h => ?_
    refine StepD.h (ns := [0]) rfl rfl rfl (op_callCE (cs := [_, _]) (ds := [_]) rfl (Za2 e29 e31 p4_0 _ g34) rfl rfl) ?_
    rintro _ _ ⟨rfl, rfl⟩
    refine zz ?_
    refine cnd h (fun hb35 h => ?_) fun hb35 h => ?_
    ·
     refine AW.ct hb35 rfl ?_
     refine zz ?_
     obtain rfl := Option.some.inj h
     exact ⟨k198, ((IntKind.i64.wrap ((IntKind.i64.wrap (shrI .u64 (IntKind.u64.wrap (IntKind.i64.wrap (x18 + x19))) 1)) + 1)), x19), hlt_k198, h201, Ghost.both (ns := [0, 0]) rfl rfl⟩
    refine AW.cf hb35 rfl ?_
    refine zz ?_
    obtain rfl := Option.some.inj h
    exact ⟨k198, (x18, (IntKind.i64.wrap (shrI .u64 (IntKind.u64.wrap (IntKind.i64.wrap (x18 + x19))) 1))), hlt_k198, h201, Ghost.both (ns := [0, 0]) rfl rfl⟩
   refine AW.cf hb20 rfl ?_
   refine AW.exit ?_
   obtain rfl := Option.some.inj h
   obtain rfl := Option.some.inj h201
   replace h := q197
   exact ⟨x18, h, Ghost.both (ns := [0, 0]) rfl rfl⟩
  intro x36 h
  replace h : Z64 p0 p1 x36 = some r := h
  unfold Z64 at h
  refine AW.seq ?_
  refine AW.cut (τ := List Int) (fun l61 => ⟨[], [Obj.arr w00 3 kI64 1 l61, Obj.box b01 26 [C.im kI64 1 p4_0]]⟩) (fun l61 => Zat l61 = some r) ?_ ?_
  ·
   refine zz ?_
   refine ob' h fun o188 g189 q190 => ?_
   refine AW.loop (τ := List Int × Int) (x := (p0, p1)) (fun (l48, x49) => ⟨[(0, C.val w00), (10, C.int x36), (13, C.int x49)], [Obj.arr w00 3 kI64 1 l48, Obj.box b01 26 [C.im kI64 1 p4_0]]⟩) (fun k (l48, x49) => iter (fun z178 => Z40 x36 z178.1 z178.2) k (l48, x49) = some o188) g189 (Ghost.both (ns := [0, 0]) rfl rfl) ?_
   rintro k ⟨l48, x49⟩ i192
   refine iter_succ' (show iter (fun z178 => Z40 x36 z178.1 z178.2) k (l48, x49) = some o188 from i192) fun k191 y193 hlt_k191 h h194 => ?_
   replace h : Z40 x36 l48 x49 = some y193 := h
   unfold Z40 at h
   refine zz ?_
   refine cnd h (fun hb50 h => ?_) fun hb50 h => ?_
   ·
    refine AW.ct hb50 rfl ?_
    refine zz ?_
    refine AW.regionD (L := [9, 13]) (Lt := [15, 17]) (k := .light 0 false (.light 1 false (.light 2 false (.light 3 false (.light 4 false (.light 5 false (.light 6 false (.light 7 false (.light 8 false (.light 9 true (.light 10 false (.light 11 false (.light 12 false (.light 13 true (.light 14 false (.late 15 (.light 16 false (.late 17 (.done))))))))))))))))))) (ns := [0, 0]) (by kernel_rfl) (by kernel_rfl) (by kernel_rfl) (by kernel_rfl) rfl ?_
    refine zz ?_
    refine ob' h fun e51 g52 h => ?_
    refine OpsD.v rfl rfl (op_indexAddr_arr (p := 0) sl_170.h rfl rfl rfl g52 rfl) ?_
    refine OpsD.v rfl rfl (op_load_arr (p := 0) ld_3.h rfl rfl (getI_lt g52).2.2 rfl rfl) ?_
    refine zz ?_
    refine ob' h fun e53 g54 h => ?_
    refine OpsD.v rfl rfl (op_indexAddr_arr (p := 0) sl_170.h rfl rfl rfl g54 rfl) ?_
    refine OpsD.v rfl rfl (op_load_arr (p := 0) ld_3.h rfl rfl (getI_lt g54).2.2 rfl rfl) ?_
    refine OpsD.v rfl rfl (op_indexAddr_arr (p := 0) sl_170.h rfl rfl rfl g54 rfl) ?_
    refine OpsD.late (ns := [0]) rfl rfl rfl (op_store_arr (e' := e51) ld_3.h rfl rfl (One.val rfl) (getI_lt g54).2.2 rfl rfl) ?_
    rintro _ _ ⟨rfl, rfl⟩
    refine ob' h fun e59 g60 h => ?_
    refine OpsD.rest (ns := [0, 0]) rfl ?_
    refine OpsD.v rfl rfl (op_indexAddr_arr (p := 0) sl_170.h rfl rfl rfl g60 rfl) ?_
    refine OpsD.late (ns := [0]) rfl rfl rfl (op_store_arr (e' := e53) ld_3.h rfl rfl (One.val rfl) (getI_lt g60).2.2 rfl rfl) ?_
    rintro _ _ ⟨rfl, rfl⟩
    refine zz ?_
    obtain rfl := Option.some.inj h
    exact ⟨k191, ((List.set (List.set l48 (Int.toNat x49) e51) (Int.toNat (IntKind.i64.wrap (x49 + 1))) e53), (IntKind.i64.wrap (x49 + 1))), hlt_k191, h194, Ghost.both (ns := [0, 0]) rfl rfl⟩
   refine AW.cf hb50 rfl ?_
   refine AW.exit ?_
   obtain rfl := Option.some.inj h
   obtain rfl := Option.some.inj h194
   replace h := q190
   exact ⟨l48, h, Ghost.both (ns := [0, 0]) rfl rfl⟩
  intro l61 h
  replace h : Zat l61 = some r := h
  unfold Zat at h
  refine AW.ret ?_
  rw [← Option.some.inj h]
  exact ⟨[], _, Ghost.refl _, .nil, [0, 0], _, _, rfl, ⟨rfl, rfl⟩⟩
 refine AW.cf hb1 rfl ?_
 refine zz ?_
 refine cnd h (fun hb62 h => ?_) fun hb62 h => ?_
 ·
  refine AW.ct hb62 rfl ?_
  refine AW.seq ?_
  refine AW.region ?_
  refine Ops.v rfl (op_move rfl rfl) ?_
  refine Ops.v rfl (op_assign rfl rfl) ?_
  refine Ops.nil ?_
  refine AW.seq ?_
  refine AW.region ?_
  refine Ops.v rfl (op_move rfl rfl) ?_
  refine Ops.v rfl (op_assign rfl rfl) ?_
  refine Ops.nil ?_
  refine AW.seq ?_
  refine AW.cut (τ := Int) (fun x97 => ⟨[(0, C.val w00), (2, C.int p2), (14, C.int x97)], [Obj.arr w00 3 kI64 1 p0, Obj.box b01 26 [C.im kI64 1 p4_0]]⟩) (fun x97 => Z65 p0 p2 x97 = some r) ?_ ?_
  ·
   refine zz ?_
   refine ob' h fun o209 g210 q211 => ?_
   refine AW.loop (τ := Int × Int) (x := (p1, p2)) (fun (x79, x80) => ⟨[(0, C.val w00), (2, C.int p2), (4, C.clo 171 [C.val (.pointer (some ⟨b01, 0, none⟩))]), (14, C.int x79), (15, C.int x80)], [Obj.arr w00 3 kI64 1 p0, Obj.box b01 26 [C.im kI64 1 p4_0]]⟩) (fun k (x79, x80) => iter (fun z184 => Z28 p0 p2 p4_0 z184.1 z184.2) k (x79, x80) = some o209) g210 (Ghost.both (ns := [0, 0]) rfl rfl) ?_
   rintro k ⟨x79, x80⟩ i213
   refine iter_succ' (show iter (fun z184 => Z28 p0 p2 p4_0 z184.1 z184.2) k (x79, x80) = some o209 from i213) fun k212 y214 hlt_k212 h h215 => ?_
   replace h : Z28 p0 p2 p4_0 x79 x80 = some y214 := h
   unfold Z28 at h
   refine zz ?_
   refine cnd h (fun hb81 h => ?_) fun hb81 h => ?_
   ·
    refine AW.ct hb81 rfl ?_
    refine zz ?_
    refine Ops.v rfl (op_conv un_3 un_138 rfl rfl) ?_
    refine Ops.v rfl (op_shift rfl rfl rfl rfl) ?_
    refine Ops.v rfl (op_conv un_138 un_3 rfl rfl) ?_
    refine zz ?_
    refine AW.regionD (L := [4, 8]) (Lt := []) (k := .light 0 false (.light 1 false (.light 2 false (.light 3 false (.light 4 true (.light 5 false (.light 6 false (.light 7 false (.light 8 true (.one 9 (.light 10 false (.light 11 false .done)))))))))))) (ns := [0]) (by kernel_rfl) (by kernel_rfl) (by kernel_rfl) (by kernel_rfl) rfl ?_
    refine zz ?_
    refine ob' h fun e90 g91 h => ?_
    refine OpsD.v rfl rfl (op_indexAddr_arr (p := 0) sl_170.h rfl rfl rfl g91 rfl) ?_
    refine OpsD.v rfl rfl (op_load_arr (p := 0) ld_3.h rfl rfl (getI_lt g91).2.2 rfl rfl) ?_
    refine zz ?_
    refine ob' h fun e92 g93 h => ?_
    refine OpsD.v rfl rfl (op_indexAddr_arr (p := 0) sl_170.h rfl rfl rfl g93 rfl) ?_
    refine OpsD.v rfl rfl (op_load_arr (p := 0) ld_3.h rfl rfl (getI_lt g93).2.2 rfl rfl) ?_
    refine zz ?_
    refine ob' h fun r94 g95 h => ?_
    refine StepD.h (ns := [0]) rfl rfl rfl (op_callCE (cs := [_, _]) (ds := [_]) rfl (Za2 e90 e92 p4_0 _ g95) rfl rfl) ?_
    rintro _ _ ⟨rfl, rfl⟩
    refine zz ?_
    refine cnd h (fun hb96 h => ?_) fun hb96 h => ?_
    ·
     refine AW.cond rfl (fun hn => absurd ((not_t hb96).symm.trans hn) (by decide)) (fun _ => ?_)
     refine zz ?_
     obtain rfl := Option.some.inj h
     exact ⟨k212, (x79, (IntKind.i64.wrap (shrI .u64 (IntKind.u64.wrap (IntKind.i64.wrap (x79 + x80))) 1))), hlt_k212, h215, Ghost.both (ns := [0, 0]) rfl rfl⟩
    refine AW.cond rfl (fun _ => ?_) (fun hn => absurd ((not_f hb96).symm.trans hn) (by decide))
    refine zz ?_
    obtain rfl := Option.some.inj h
    exact ⟨k212, ((IntKind.i64.wrap ((IntKind.i64.wrap (shrI .u64 (IntKind.u64.wrap (IntKind.i64.wrap (x79 + x80))) 1)) + 1)), x80), hlt_k212, h215, Ghost.both (ns := [0, 0]) rfl rfl⟩
   refine AW.cf hb81 rfl ?_
   refine AW.exit ?_
   obtain rfl := Option.some.inj h
   obtain rfl := Option.some.inj h215
   replace h := q211
   exact ⟨x79, h, Ghost.both (ns := [0, 0]) rfl rfl⟩
  intro x97 h
  replace h : Z65 p0 p2 x97 = some r := h
  unfold Z65 at h
  refine AW.seq ?_
  refine AW.cut (τ := List Int) (fun l122 => ⟨[], [Obj.arr w00 3 kI64 1 l122, Obj.box b01 26 [C.im kI64 1 p4_0]]⟩) (fun l122 => Zau l122 = some r) ?_ ?_
  ·
   refine zz ?_
   refine ob' h fun o202 g203 q204 => ?_
   refine AW.loop (τ := List Int × Int) (x := (p0, p2)) (fun (l109, x110) => ⟨[(0, C.val w00), (14, C.int x97), (17, C.int x110)], [Obj.arr w00 3 kI64 1 l109, Obj.box b01 26 [C.im kI64 1 p4_0]]⟩) (fun k (l109, x110) => iter (fun z182 => Z41 x97 z182.1 z182.2) k (l109, x110) = some o202) g203 (Ghost.both (ns := [0, 0]) rfl rfl) ?_
   rintro k ⟨l109, x110⟩ i206
   refine iter_succ' (show iter (fun z182 => Z41 x97 z182.1 z182.2) k (l109, x110) = some o202 from i206) fun k205 y207 hlt_k205 h h208 => ?_
   replace h : Z41 x97 l109 x110 = some y207 := h
   unfold Z41 at h
   refine zz ?_
   refine cnd h (fun hb111 h => ?_) fun hb111 h => ?_
   ·
    refine AW.ct hb111 rfl ?_
    refine zz ?_
    refine AW.regionD (L := [9, 13]) (Lt := [15, 17]) (k := .light 0 false (.light 1 false (.light 2 false (.light 3 false (.light 4 false (.light 5 false (.light 6 false (.light 7 false (.light 8 false (.light 9 true (.light 10 false (.light 11 false (.light 12 false (.light 13 true (.light 14 false (.late 15 (.light 16 false (.late 17 (.done))))))))))))))))))) (ns := [0, 0]) (by kernel_rfl) (by kernel_rfl) (by kernel_rfl) (by kernel_rfl) rfl ?_
    refine zz ?_
    refine ob' h fun e112 g113 h => ?_
    refine OpsD.v rfl rfl (op_indexAddr_arr (p := 0) sl_170.h rfl rfl rfl g113 rfl) ?_
    refine OpsD.v rfl rfl (op_load_arr (p := 0) ld_3.h rfl rfl (getI_lt g113).2.2 rfl rfl) ?_
    refine zz ?_
    refine ob' h fun e114 g115 h => ?_
    refine OpsD.v rfl rfl (op_indexAddr_arr (p := 0) sl_170.h rfl rfl rfl g115 rfl) ?_
    refine OpsD.v rfl rfl (op_load_arr (p := 0) ld_3.h rfl rfl (getI_lt g115).2.2 rfl rfl) ?_
    refine OpsD.v rfl rfl (op_indexAddr_arr (p := 0) sl_170.h rfl rfl rfl g115 rfl) ?_
    refine OpsD.late (ns := [0]) rfl rfl rfl (op_store_arr (e' := e112) ld_3.h rfl rfl (One.val rfl) (getI_lt g115).2.2 rfl rfl) ?_
    rintro _ _ ⟨rfl, rfl⟩
    refine ob' h fun e120 g121 h => ?_
    refine OpsD.rest (ns := [0, 0]) rfl ?_
    refine OpsD.v rfl rfl (op_indexAddr_arr (p := 0) sl_170.h rfl rfl rfl g121 rfl) ?_
    refine OpsD.late (ns := [0]) rfl rfl rfl (op_store_arr (e' := e114) ld_3.h rfl rfl (One.val rfl) (getI_lt g121).2.2 rfl rfl) ?_
    rintro _ _ ⟨rfl, rfl⟩
    refine zz ?_
    obtain rfl := Option.some.inj h
    exact ⟨k205, ((List.set (List.set l109 (Int.toNat x110) e112) (Int.toNat (IntKind.i64.wrap (x110 - 1))) e114), (IntKind.i64.wrap (x110 - 1))), hlt_k205, h208, Ghost.both (ns := [0, 0]) rfl rfl⟩
   refine AW.cf hb111 rfl ?_
   refine AW.exit ?_
   obtain rfl := Option.some.inj h
   obtain rfl := Option.some.inj h208
   replace h := q204
   exact ⟨l109, h, Ghost.both (ns := [0, 0]) rfl rfl⟩
  intro l122 h
  replace h : Zau l122 = some r := h
  unfold Zau at h
  refine AW.ret ?_
  rw [← Option.some.inj h]
  exact ⟨[], _, Ghost.refl _, .nil, [0, 0], _, _, rfl, ⟨rfl, rfl⟩⟩
 refine AW.cf hb62 rfl ?_
 refine zz ?_
 refine Ops.v rfl (op_conv un_3 un_138 rfl rfl) ?_
 refine Ops.v rfl (op_shift rfl rfl rfl rfl) ?_
 refine Ops.v rfl (op_conv un_138 un_3 rfl rfl) ?_
 refine Ops.v rfl (op_assign rfl rfl) ?_
 refine Ops.nil ?_
 refine AW.seq ?_
 refine AW.region ?_
 refine Ops.v rfl (op_move rfl rfl) ?_
 refine Ops.v rfl (op_move rfl rfl) ?_
 refine Ops.v rfl (op_bin rfl rfl rfl rfl) ?_
 refine Ops.v rfl (op_assign rfl rfl) ?_
 refine Ops.nil ?_
 refine AW.seq ?_
 refine AW.region ?_
 refine Ops.v rfl (op_assign rfl rfl) ?_
 refine Ops.v rfl (op_assign rfl rfl) ?_
 refine Ops.nil ?_
 refine AW.seq ?_
 refine AW.cut (τ := Int × Int) (fun (x124, x125) => ⟨[(0, C.val w00), (1, C.int p1), (2, C.int p2), (3, C.int p3), (4, C.clo 171 [C.val (.pointer (some ⟨b01, 0, none⟩))]), (18, C.int (IntKind.i64.wrap (shrI .u64 (IntKind.u64.wrap (IntKind.i64.wrap (p1 + p3))) 1))), (19, C.int (IntKind.i64.wrap ((IntKind.i64.wrap (shrI .u64 (IntKind.u64.wrap (IntKind.i64.wrap (p1 + p3))) 1)) + p2))), (20, C.int x124), (21, C.int x125)], [Obj.arr w00 3 kI64 1 p0, Obj.box b01 26 [C.im kI64 1 p4_0]]⟩) (fun (x124, x125) => Zs p0 p1 p2 p3 p4_0 self_ x124 x125 = some r) ?_ ?_
 ·
  refine zz ?_
  refine cnd h (fun hb123 h => ?_) fun hb123 h => ?_
  ·
   refine AW.ct hb123 rfl ?_
   refine zz ?_
   exact ⟨((IntKind.i64.wrap ((IntKind.i64.wrap ((IntKind.i64.wrap (shrI .u64 (IntKind.u64.wrap (IntKind.i64.wrap (p1 + p3))) 1)) + p2)) - p3)), (IntKind.i64.wrap (shrI .u64 (IntKind.u64.wrap (IntKind.i64.wrap (p1 + p3))) 1))), h, Ghost.both (ns := [0, 0]) rfl rfl⟩
  refine AW.cf hb123 rfl ?_
  refine zz ?_
  exact ⟨(p1, p2), h, Ghost.both (ns := [0, 0]) rfl rfl⟩
 rintro ⟨x124, x125⟩ h
 replace h : Zs p0 p1 p2 p3 p4_0 self_ x124 x125 = some r := h
 unfold Zs at h
 refine AW.seq ?_
 refine AW.region ?_
 refine Ops.v rfl (op_move rfl rfl) ?_
 refine Ops.v rfl (op_bin rfl rfl rfl rfl) ?_
 refine Ops.v rfl (op_assign rfl rfl) ?_
 refine Ops.nil ?_
 refine AW.seq ?_
 refine AW.cut (τ := Int) (fun x160 => ⟨[(0, C.val w00), (1, C.int p1), (2, C.int p2), (3, C.int p3), (4, C.clo 171 [C.val (.pointer (some ⟨b01, 0, none⟩))]), (18, C.int (IntKind.i64.wrap (shrI .u64 (IntKind.u64.wrap (IntKind.i64.wrap (p1 + p3))) 1))), (19, C.int (IntKind.i64.wrap ((IntKind.i64.wrap (shrI .u64 (IntKind.u64.wrap (IntKind.i64.wrap (p1 + p3))) 1)) + p2))), (20, C.int x160)], [Obj.arr w00 3 kI64 1 p0, Obj.box b01 26 [C.im kI64 1 p4_0]]⟩) (fun x160 => Z8m p0 p1 p2 p3 p4_0 self_ x160 = some r) ?_ ?_
 ·
  refine zz ?_
  refine ob' h fun o216 g217 q218 => ?_
  refine AW.loop (τ := Int × Int) (x := (x124, x125)) (fun (x142, x143) => ⟨[(0, C.val w00), (1, C.int p1), (2, C.int p2), (3, C.int p3), (4, C.clo 171 [C.val (.pointer (some ⟨b01, 0, none⟩))]), (18, C.int (IntKind.i64.wrap (shrI .u64 (IntKind.u64.wrap (IntKind.i64.wrap (p1 + p3))) 1))), (19, C.int (IntKind.i64.wrap ((IntKind.i64.wrap (shrI .u64 (IntKind.u64.wrap (IntKind.i64.wrap (p1 + p3))) 1)) + p2))), (20, C.int x142), (21, C.int x143), (22, C.int (IntKind.i64.wrap ((IntKind.i64.wrap ((IntKind.i64.wrap (shrI .u64 (IntKind.u64.wrap (IntKind.i64.wrap (p1 + p3))) 1)) + p2)) - 1)))], [Obj.arr w00 3 kI64 1 p0, Obj.box b01 26 [C.im kI64 1 p4_0]]⟩) (fun k (x142, x143) => iter (fun z186 => Z3z p0 p1 p2 p3 p4_0 z186.1 z186.2) k (x142, x143) = some o216) g217 (Ghost.both (ns := [0, 0]) rfl rfl) ?_
  rintro k ⟨x142, x143⟩ i220
  refine iter_succ' (show iter (fun z186 => Z3z p0 p1 p2 p3 p4_0 z186.1 z186.2) k (x142, x143) = some o216 from i220) fun k219 y221 hlt_k219 h h222 => ?_
  replace h : Z3z p0 p1 p2 p3 p4_0 x142 x143 = some y221 := h
  unfold Z3z at h
  refine zz ?_
  refine cnd h (fun hb144 h => ?_) fun hb144 h => ?_
  ·
   refine AW.ct hb144 rfl ?_
   refine zz ?_
   refine Ops.v rfl (op_conv un_3 un_138 rfl rfl) ?_
   refine Ops.v rfl (op_shift rfl rfl rfl rfl) ?_
   refine Ops.v rfl (op_conv un_138 un_3 rfl rfl) ?_
   refine zz ?_
   refine AW.regionD (L := [6, 10]) (Lt := []) (k := .light 0 false (.light 1 false (.light 2 false (.light 3 false (.light 4 false (.light 5 false (.light 6 true (.light 7 false (.light 8 false (.light 9 false (.light 10 true (.one 11 (.light 12 false (.light 13 false .done)))))))))))))) (ns := [0]) (by kernel_rfl) (by kernel_rfl) (by kernel_rfl) (by kernel_rfl) rfl ?_
   refine zz ?_
   refine ob' h fun e153 g154 h => ?_
   refine OpsD.v rfl rfl (op_indexAddr_arr (p := 0) sl_170.h rfl rfl rfl g154 rfl) ?_
   refine OpsD.v rfl rfl (op_load_arr (p := 0) ld_3.h rfl rfl (getI_lt g154).2.2 rfl rfl) ?_
   refine zz ?_
   refine ob' h fun e155 g156 h => ?_
   refine OpsD.v rfl rfl (op_indexAddr_arr (p := 0) sl_170.h rfl rfl rfl g156 rfl) ?_
   refine OpsD.v rfl rfl (op_load_arr (p := 0) ld_3.h rfl rfl (getI_lt g156).2.2 rfl rfl) ?_
   refine zz ?_
   refine ob' h fun r157 g158 h => ?_
   refine StepD.h (ns := [0]) rfl rfl rfl (op_callCE (cs := [_, _]) (ds := [_]) rfl (Za2 e153 e155 p4_0 _ g158) rfl rfl) ?_
   rintro _ _ ⟨rfl, rfl⟩
   refine zz ?_
   refine cnd h (fun hb159 h => ?_) fun hb159 h => ?_
   ·
    refine AW.cond rfl (fun hn => absurd ((not_t hb159).symm.trans hn) (by decide)) (fun _ => ?_)
    refine zz ?_
    obtain rfl := Option.some.inj h
    exact ⟨k219, (x142, (IntKind.i64.wrap (shrI .u64 (IntKind.u64.wrap (IntKind.i64.wrap (x142 + x143))) 1))), hlt_k219, h222, Ghost.both (ns := [0, 0]) rfl rfl⟩
   refine AW.cond rfl (fun _ => ?_) (fun hn => absurd ((not_f hb159).symm.trans hn) (by decide))
   refine zz ?_
   obtain rfl := Option.some.inj h
   exact ⟨k219, ((IntKind.i64.wrap ((IntKind.i64.wrap (shrI .u64 (IntKind.u64.wrap (IntKind.i64.wrap (x142 + x143))) 1)) + 1)), x143), hlt_k219, h222, Ghost.both (ns := [0, 0]) rfl rfl⟩
  refine AW.cf hb144 rfl ?_
  refine AW.exit ?_
  obtain rfl := Option.some.inj h
  obtain rfl := Option.some.inj h222
  replace h := q218
  exact ⟨x142, h, Ghost.both (ns := [0, 0]) rfl rfl⟩
 intro x160 h
 replace h : Z8m p0 p1 p2 p3 p4_0 self_ x160 = some r := h
 unfold Z8m at h
 refine AW.seq ?_
 refine AW.region ?_
 refine Ops.v rfl (op_move rfl rfl) ?_
 refine Ops.v rfl (op_move rfl rfl) ?_
 refine Ops.v rfl (op_bin rfl rfl rfl rfl) ?_
 refine Ops.v rfl (op_assign rfl rfl) ?_
 refine Ops.nil ?_
 refine AW.seq ?_
 refine AW.cut (τ := List Int) (fun l166 => ⟨[(0, C.val w00), (1, C.int p1), (3, C.int p3), (4, C.clo 171 [C.val (.pointer (some ⟨b01, 0, none⟩))]), (18, C.int (IntKind.i64.wrap (shrI .u64 (IntKind.u64.wrap (IntKind.i64.wrap (p1 + p3))) 1))), (20, C.int x160), (24, C.int (IntKind.i64.wrap ((IntKind.i64.wrap ((IntKind.i64.wrap (shrI .u64 (IntKind.u64.wrap (IntKind.i64.wrap (p1 + p3))) 1)) + p2)) - x160)))], [Obj.arr w00 3 kI64 1 l166, Obj.box b01 26 [C.im kI64 1 p4_0]]⟩) (fun l166 => Z26 p1 p2 p3 p4_0 self_ x160 l166 = some r) ?_ ?_
 ·
  refine AW.seq ?_
  refine AW.cut (τ := Bool) (fun x162 => ⟨[(0, C.val w00), (1, C.int p1), (2, C.int p2), (3, C.int p3), (4, C.clo 171 [C.val (.pointer (some ⟨b01, 0, none⟩))]), (18, C.int (IntKind.i64.wrap (shrI .u64 (IntKind.u64.wrap (IntKind.i64.wrap (p1 + p3))) 1))), (20, C.int x160), (24, C.int (IntKind.i64.wrap ((IntKind.i64.wrap ((IntKind.i64.wrap (shrI .u64 (IntKind.u64.wrap (IntKind.i64.wrap (p1 + p3))) 1)) + p2)) - x160))), (185, C.bool x162)], [Obj.arr w00 3 kI64 1 p0, Obj.box b01 26 [C.im kI64 1 p4_0]]⟩) (fun x162 => Z63 p0 p1 p2 p3 p4_0 self_ x160 x162 = some r) ?_ ?_
  ·
   refine zz ?_
   refine cnd h (fun hb161 h => ?_) fun hb161 h => ?_
   ·
    refine zz ?_
    exact ⟨decide (p2 < (IntKind.i64.wrap ((IntKind.i64.wrap ((IntKind.i64.wrap (shrI .u64 (IntKind.u64.wrap (IntKind.i64.wrap (p1 + p3))) 1)) + p2)) - x160))), h, Ghost.both (ns := [0, 0]) rfl rfl⟩
   refine zz ?_
   exact ⟨false, h, Ghost.both (ns := [0, 0]) rfl rfl⟩
  intro x162 h
  replace h : Z63 p0 p1 p2 p3 p4_0 self_ x160 x162 = some r := h
  unfold Z63 at h
  refine cnd h (fun hb163 h => ?_) fun hb163 h => ?_
  ·
   refine AW.ct hb163 rfl ?_
   refine zz ?_
   refine ob' h fun r164 g165 h => ?_
   refine Ops.hd (ns := [0, 0]) rfl rfl (op_callE (Ze1 p0 x160 p2 (IntKind.i64.wrap ((IntKind.i64.wrap ((IntKind.i64.wrap (shrI .u64 (IntKind.u64.wrap (IntKind.i64.wrap (p1 + p3))) 1)) + p2)) - x160)) p4_0 _ g165) rfl rfl) ?_
   refine zz ?_
   exact ⟨r164, h, Ghost.both (ns := [0, 0]) rfl rfl⟩
  refine AW.cf hb163 rfl ?_
  refine zz ?_
  exact ⟨p0, h, Ghost.both (ns := [0, 0]) rfl rfl⟩
 intro l166 h
 replace h : Z26 p1 p2 p3 p4_0 self_ x160 l166 = some r := h
 unfold Z26 at h
 refine AW.seq ?_
 refine AW.cut (τ := List Int) (fun l172 => ⟨[(0, C.val w00), (3, C.int p3), (4, C.clo 171 [C.val (.pointer (some ⟨b01, 0, none⟩))]), (18, C.int (IntKind.i64.wrap (shrI .u64 (IntKind.u64.wrap (IntKind.i64.wrap (p1 + p3))) 1))), (24, C.int (IntKind.i64.wrap ((IntKind.i64.wrap ((IntKind.i64.wrap (shrI .u64 (IntKind.u64.wrap (IntKind.i64.wrap (p1 + p3))) 1)) + p2)) - x160)))], [Obj.arr w00 3 kI64 1 l172, Obj.box b01 26 [C.im kI64 1 p4_0]]⟩) (fun l172 => Z61 p1 p2 p3 p4_0 self_ x160 l172 = some r) ?_ ?_
 ·
  refine AW.seq ?_
  refine AW.cut (τ := Bool) (fun x168 => ⟨[(0, C.val w00), (1, C.int p1), (3, C.int p3), (4, C.clo 171 [C.val (.pointer (some ⟨b01, 0, none⟩))]), (18, C.int (IntKind.i64.wrap (shrI .u64 (IntKind.u64.wrap (IntKind.i64.wrap (p1 + p3))) 1))), (20, C.int x160), (24, C.int (IntKind.i64.wrap ((IntKind.i64.wrap ((IntKind.i64.wrap (shrI .u64 (IntKind.u64.wrap (IntKind.i64.wrap (p1 + p3))) 1)) + p2)) - x160))), (199, C.bool x168)], [Obj.arr w00 3 kI64 1 l166, Obj.box b01 26 [C.im kI64 1 p4_0]]⟩) (fun x168 => Z62 p1 p2 p3 p4_0 self_ x160 l166 x168 = some r) ?_ ?_
  ·
   refine zz ?_
   refine cnd h (fun hb167 h => ?_) fun hb167 h => ?_
   ·
    refine zz ?_
    exact ⟨decide (x160 < (IntKind.i64.wrap (shrI .u64 (IntKind.u64.wrap (IntKind.i64.wrap (p1 + p3))) 1))), h, Ghost.both (ns := [0, 0]) rfl rfl⟩
   refine zz ?_
   exact ⟨false, h, Ghost.both (ns := [0, 0]) rfl rfl⟩
  intro x168 h
  replace h : Z62 p1 p2 p3 p4_0 self_ x160 l166 x168 = some r := h
  unfold Z62 at h
  refine cnd h (fun hb169 h => ?_) fun hb169 h => ?_
  ·
   refine AW.ct hb169 rfl ?_
   refine zz ?_
   refine ob' h fun r170 g171 h => ?_
   refine Ops.hd (ns := [0, 0]) rfl rfl (op_callE (hself_ l166 p1 x160 (IntKind.i64.wrap (shrI .u64 (IntKind.u64.wrap (IntKind.i64.wrap (p1 + p3))) 1)) p4_0 _ g171) rfl rfl) ?_
   refine zz ?_
   exact ⟨r170, h, Ghost.both (ns := [0, 0]) rfl rfl⟩
  refine AW.cf hb169 rfl ?_
  refine zz ?_
  exact ⟨l166, h, Ghost.both (ns := [0, 0]) rfl rfl⟩
 intro l172 h
 replace h : Z61 p1 p2 p3 p4_0 self_ x160 l172 = some r := h
 unfold Z61 at h
 refine AW.seq ?_
 refine AW.cut (τ := Bool) (fun x174 => ⟨[(0, C.val w00), (3, C.int p3), (4, C.clo 171 [C.val (.pointer (some ⟨b01, 0, none⟩))]), (18, C.int (IntKind.i64.wrap (shrI .u64 (IntKind.u64.wrap (IntKind.i64.wrap (p1 + p3))) 1))), (24, C.int (IntKind.i64.wrap ((IntKind.i64.wrap ((IntKind.i64.wrap (shrI .u64 (IntKind.u64.wrap (IntKind.i64.wrap (p1 + p3))) 1)) + p2)) - x160))), (213, C.bool x174)], [Obj.arr w00 3 kI64 1 l172, Obj.box b01 26 [C.im kI64 1 p4_0]]⟩) (fun x174 => Z66 p1 p2 p3 p4_0 self_ x160 l172 x174 = some r) ?_ ?_
 ·
  refine zz ?_
  refine cnd h (fun hb173 h => ?_) fun hb173 h => ?_
  ·
   refine zz ?_
   exact ⟨decide ((IntKind.i64.wrap ((IntKind.i64.wrap ((IntKind.i64.wrap (shrI .u64 (IntKind.u64.wrap (IntKind.i64.wrap (p1 + p3))) 1)) + p2)) - x160)) < p3), h, Ghost.both (ns := [0, 0]) rfl rfl⟩
  refine zz ?_
  exact ⟨false, h, Ghost.both (ns := [0, 0]) rfl rfl⟩
 intro x174 h
 replace h : Z66 p1 p2 p3 p4_0 self_ x160 l172 x174 = some r := h
 unfold Z66 at h
 refine cnd h (fun hb175 h => ?_) fun hb175 h => ?_
 ·
  refine AW.ct hb175 rfl ?_
  refine zz ?_
  refine ob' h fun r176 g177 h => ?_
  refine Ops.hd (ns := [0, 0]) rfl rfl (op_callE (hself_ l172 (IntKind.i64.wrap (shrI .u64 (IntKind.u64.wrap (IntKind.i64.wrap (p1 + p3))) 1)) (IntKind.i64.wrap ((IntKind.i64.wrap ((IntKind.i64.wrap (shrI .u64 (IntKind.u64.wrap (IntKind.i64.wrap (p1 + p3))) 1)) + p2)) - x160)) p3 p4_0 _ g177) rfl rfl) ?_
  refine zz ?_
  rw [← Option.some.inj h]
  exact ⟨[], _, Ghost.refl _, .nil, [0, 0], _, _, rfl, ⟨rfl, rfl⟩⟩
 refine AW.cf hb175 rfl ?_
 refine zz ?_
 rw [← Option.some.inj h]
 exact ⟨[], _, Ghost.refl _, .nil, [0, 0], _, _, rfl, ⟨rfl, rfl⟩⟩
def Zr : Nat → (List Int) → Int → Int → Int → (List Int) → Option (List Int)
  | 0 => fun _ _ _ _ _ => none
  | n_ + 1 => Z8l (Zr n_)
theorem Ze4 : ∀ (n_ : Nat) {w00 : Value} {b01 : Nat} (p0 : List Int) (p1 : Int) (p2 : Int) (p3 : Int) (p4_0 : List Int) (r : List Int), Zr n_ p0 p1 p2 p3 p4_0 = some r → Ok Tryz.prog 223 [C.val w00, C.int p1, C.int p2, C.int p3, C.clo 171 [C.val (.pointer (some ⟨b01, 0, none⟩))]] [Obj.arr w00 3 kI64 1 p0, Obj.box b01 26 [C.im kI64 1 p4_0]] (fun c qs => c = C.tup [] ∧ qs = [Obj.arr w00 3 kI64 1 r, Obj.box b01 26 [C.im kI64 1 p4_0]]) := by
  intro n_
  induction n_ with
  | zero => intro w00 b01 p0 p1 p2 p3 p4_0 r h; cases h
  | succ n_ ih => intro w00 b01 p0 p1 p2 p3 p4_0 r h; unfold Zr at h; exact Ze3 (Zr n_) @ih p0 p1 p2 p3 p4_0 r h
def Z8k (p0 : List Int) (p1 : Int) (p2 : Int) (p3 : Int) (p4_0 : List Int) : Option (List Int) := Zr big p0 p1 p2 p3 p4_0
theorem Zc6 {w00 : Value} {b01 : Nat} (p0 : List Int) (p1 : Int) (p2 : Int) (p3 : Int) (p4_0 : List Int) (r : List Int) (h : Z8k p0 p1 p2 p3 p4_0 = some r) : Ok Tryz.prog 223 [C.val w00, C.int p1, C.int p2, C.int p3, C.clo 171 [C.val (.pointer (some ⟨b01, 0, none⟩))]] [Obj.arr w00 3 kI64 1 p0, Obj.box b01 26 [C.im kI64 1 p4_0]] (fun c qs => c = C.tup [] ∧ qs = [Obj.arr w00 3 kI64 1 r, Obj.box b01 26 [C.im kI64 1 p4_0]]) := Ze4 big p0 p1 p2 p3 p4_0 r h

end Go.Proofs.YtnndihmamfomcaaGreat
