/- Printed by gen.py: plain functions for Go functions, and that the walks keep to them. -/
import Derived.Test.YtnoknphekhclcaaGreatDoorFQ5
set_option autoImplicit false
set_option linter.unusedVariables false
set_option linter.unusedSimpArgs false
set_option maxHeartbeats 8000000
set_option maxRecDepth 100000
namespace Go.Proofs.YtnoknphekhclcaaGreatDoor
open Go Go.Abs
attribute [local irreducible] AW Ops OpsD Y3z VoK HoK GhF UsC Go.Abs.Fin PkK LenT LenL Y9l BldK FzK FzLK
def Zl6 (x52 : Int) (l53 : List Y9z) : Option (Int × List Y9z) := some (x52, l53)
def Zl7 (l25 : List Y9z) (x26 : Int) (x27 : Int) : Option ((List Y9z × Int × Int) ⊕ ((Int × List Y9z))) := cond (decide (x27 < (l25.length : Int))) ((getI l25 x27).bind fun e29 => (getI (List.set l25 (Int.toNat x27) (Y9z.mk x26 e29.room e29.author e29.kind e29.key e29.n e29.text e29.prev e29.time)) x27).bind fun e31 => (getI (List.set (List.set l25 (Int.toNat x27) (Y9z.mk x26 e29.room e29.author e29.kind e29.key e29.n e29.text e29.prev e29.time)) (Int.toNat x27) (Y9z.mk e31.id (IntKind.i64.wrap (x26 + 1)) e31.author e31.kind e31.key e31.n e31.text e31.prev e31.time)) x27).bind fun e33 => (getI (List.set (List.set (List.set l25 (Int.toNat x27) (Y9z.mk x26 e29.room e29.author e29.kind e29.key e29.n e29.text e29.prev e29.time)) (Int.toNat x27) (Y9z.mk e31.id (IntKind.i64.wrap (x26 + 1)) e31.author e31.kind e31.key e31.n e31.text e31.prev e31.time)) (Int.toNat x27) (Y9z.mk e33.id e33.room (IntKind.i64.wrap ((IntKind.i64.wrap (x26 + 1)) + 1)) e33.kind e33.key e33.n e33.text e33.prev e33.time)) x27).bind fun e35 => (getI (List.set (List.set (List.set (List.set l25 (Int.toNat x27) (Y9z.mk x26 e29.room e29.author e29.kind e29.key e29.n e29.text e29.prev e29.time)) (Int.toNat x27) (Y9z.mk e31.id (IntKind.i64.wrap (x26 + 1)) e31.author e31.kind e31.key e31.n e31.text e31.prev e31.time)) (Int.toNat x27) (Y9z.mk e33.id e33.room (IntKind.i64.wrap ((IntKind.i64.wrap (x26 + 1)) + 1)) e33.kind e33.key e33.n e33.text e33.prev e33.time)) (Int.toNat x27) (Y9z.mk e35.id e35.room e35.author (IntKind.i64.wrap ((IntKind.i64.wrap ((IntKind.i64.wrap (x26 + 1)) + 1)) + 1)) e35.key e35.n e35.text e35.prev e35.time)) x27).bind fun e37 => (getI (List.set (List.set (List.set (List.set (List.set l25 (Int.toNat x27) (Y9z.mk x26 e29.room e29.author e29.kind e29.key e29.n e29.text e29.prev e29.time)) (Int.toNat x27) (Y9z.mk e31.id (IntKind.i64.wrap (x26 + 1)) e31.author e31.kind e31.key e31.n e31.text e31.prev e31.time)) (Int.toNat x27) (Y9z.mk e33.id e33.room (IntKind.i64.wrap ((IntKind.i64.wrap (x26 + 1)) + 1)) e33.kind e33.key e33.n e33.text e33.prev e33.time)) (Int.toNat x27) (Y9z.mk e35.id e35.room e35.author (IntKind.i64.wrap ((IntKind.i64.wrap ((IntKind.i64.wrap (x26 + 1)) + 1)) + 1)) e35.key e35.n e35.text e35.prev e35.time)) (Int.toNat x27) (Y9z.mk e37.id e37.room e37.author e37.kind (IntKind.i64.wrap ((IntKind.i64.wrap ((IntKind.i64.wrap ((IntKind.i64.wrap (x26 + 1)) + 1)) + 1)) + 1)) e37.n e37.text e37.prev e37.time)) x27).bind fun e39 => (Zl0 (IntKind.i64.wrap ((IntKind.i64.wrap ((IntKind.i64.wrap ((IntKind.i64.wrap ((IntKind.i64.wrap ((IntKind.i64.wrap (x26 + 1)) + 1)) + 1)) + 1)) + 1)) + 1))).bind fun r41 => (getI (List.set (List.set (List.set (List.set (List.set (List.set l25 (Int.toNat x27) (Y9z.mk x26 e29.room e29.author e29.kind e29.key e29.n e29.text e29.prev e29.time)) (Int.toNat x27) (Y9z.mk e31.id (IntKind.i64.wrap (x26 + 1)) e31.author e31.kind e31.key e31.n e31.text e31.prev e31.time)) (Int.toNat x27) (Y9z.mk e33.id e33.room (IntKind.i64.wrap ((IntKind.i64.wrap (x26 + 1)) + 1)) e33.kind e33.key e33.n e33.text e33.prev e33.time)) (Int.toNat x27) (Y9z.mk e35.id e35.room e35.author (IntKind.i64.wrap ((IntKind.i64.wrap ((IntKind.i64.wrap (x26 + 1)) + 1)) + 1)) e35.key e35.n e35.text e35.prev e35.time)) (Int.toNat x27) (Y9z.mk e37.id e37.room e37.author e37.kind (IntKind.i64.wrap ((IntKind.i64.wrap ((IntKind.i64.wrap ((IntKind.i64.wrap (x26 + 1)) + 1)) + 1)) + 1)) e37.n e37.text e37.prev e37.time)) (Int.toNat x27) (Y9z.mk e39.id e39.room e39.author e39.kind e39.key (IntKind.i64.wrap ((IntKind.i64.wrap ((IntKind.i64.wrap ((IntKind.i64.wrap ((IntKind.i64.wrap (x26 + 1)) + 1)) + 1)) + 1)) + 1)) e39.text e39.prev e39.time)) x27).bind fun e43 => (getI (List.set (List.set (List.set (List.set (List.set (List.set (List.set l25 (Int.toNat x27) (Y9z.mk x26 e29.room e29.author e29.kind e29.key e29.n e29.text e29.prev e29.time)) (Int.toNat x27) (Y9z.mk e31.id (IntKind.i64.wrap (x26 + 1)) e31.author e31.kind e31.key e31.n e31.text e31.prev e31.time)) (Int.toNat x27) (Y9z.mk e33.id e33.room (IntKind.i64.wrap ((IntKind.i64.wrap (x26 + 1)) + 1)) e33.kind e33.key e33.n e33.text e33.prev e33.time)) (Int.toNat x27) (Y9z.mk e35.id e35.room e35.author (IntKind.i64.wrap ((IntKind.i64.wrap ((IntKind.i64.wrap (x26 + 1)) + 1)) + 1)) e35.key e35.n e35.text e35.prev e35.time)) (Int.toNat x27) (Y9z.mk e37.id e37.room e37.author e37.kind (IntKind.i64.wrap ((IntKind.i64.wrap ((IntKind.i64.wrap ((IntKind.i64.wrap (x26 + 1)) + 1)) + 1)) + 1)) e37.n e37.text e37.prev e37.time)) (Int.toNat x27) (Y9z.mk e39.id e39.room e39.author e39.kind e39.key (IntKind.i64.wrap ((IntKind.i64.wrap ((IntKind.i64.wrap ((IntKind.i64.wrap ((IntKind.i64.wrap (x26 + 1)) + 1)) + 1)) + 1)) + 1)) e39.text e39.prev e39.time)) (Int.toNat x27) (Y9z.mk e43.id e43.room e43.author e43.kind e43.key e43.n r41 e43.prev e43.time)) x27).bind fun e45 => (Zl4 e45.prev (IntKind.i64.wrap ((IntKind.i64.wrap ((IntKind.i64.wrap ((IntKind.i64.wrap ((IntKind.i64.wrap ((IntKind.i64.wrap ((IntKind.i64.wrap (x26 + 1)) + 1)) + 1)) + 1)) + 1)) + 1)) + 1))).bind fun r48 => (getI (List.set (List.set (List.set (List.set (List.set (List.set (List.set (List.set l25 (Int.toNat x27) (Y9z.mk x26 e29.room e29.author e29.kind e29.key e29.n e29.text e29.prev e29.time)) (Int.toNat x27) (Y9z.mk e31.id (IntKind.i64.wrap (x26 + 1)) e31.author e31.kind e31.key e31.n e31.text e31.prev e31.time)) (Int.toNat x27) (Y9z.mk e33.id e33.room (IntKind.i64.wrap ((IntKind.i64.wrap (x26 + 1)) + 1)) e33.kind e33.key e33.n e33.text e33.prev e33.time)) (Int.toNat x27) (Y9z.mk e35.id e35.room e35.author (IntKind.i64.wrap ((IntKind.i64.wrap ((IntKind.i64.wrap (x26 + 1)) + 1)) + 1)) e35.key e35.n e35.text e35.prev e35.time)) (Int.toNat x27) (Y9z.mk e37.id e37.room e37.author e37.kind (IntKind.i64.wrap ((IntKind.i64.wrap ((IntKind.i64.wrap ((IntKind.i64.wrap (x26 + 1)) + 1)) + 1)) + 1)) e37.n e37.text e37.prev e37.time)) (Int.toNat x27) (Y9z.mk e39.id e39.room e39.author e39.kind e39.key (IntKind.i64.wrap ((IntKind.i64.wrap ((IntKind.i64.wrap ((IntKind.i64.wrap ((IntKind.i64.wrap (x26 + 1)) + 1)) + 1)) + 1)) + 1)) e39.text e39.prev e39.time)) (Int.toNat x27) (Y9z.mk e43.id e43.room e43.author e43.kind e43.key e43.n r41 e43.prev e43.time)) (Int.toNat x27) (Y9z.mk e45.id e45.room e45.author e45.kind e45.key e45.n e45.text r48.2 e45.time)) x27).bind fun e50 => some (.inl ((List.set (List.set (List.set (List.set (List.set (List.set (List.set (List.set (List.set l25 (Int.toNat x27) (Y9z.mk x26 e29.room e29.author e29.kind e29.key e29.n e29.text e29.prev e29.time)) (Int.toNat x27) (Y9z.mk e31.id (IntKind.i64.wrap (x26 + 1)) e31.author e31.kind e31.key e31.n e31.text e31.prev e31.time)) (Int.toNat x27) (Y9z.mk e33.id e33.room (IntKind.i64.wrap ((IntKind.i64.wrap (x26 + 1)) + 1)) e33.kind e33.key e33.n e33.text e33.prev e33.time)) (Int.toNat x27) (Y9z.mk e35.id e35.room e35.author (IntKind.i64.wrap ((IntKind.i64.wrap ((IntKind.i64.wrap (x26 + 1)) + 1)) + 1)) e35.key e35.n e35.text e35.prev e35.time)) (Int.toNat x27) (Y9z.mk e37.id e37.room e37.author e37.kind (IntKind.i64.wrap ((IntKind.i64.wrap ((IntKind.i64.wrap ((IntKind.i64.wrap (x26 + 1)) + 1)) + 1)) + 1)) e37.n e37.text e37.prev e37.time)) (Int.toNat x27) (Y9z.mk e39.id e39.room e39.author e39.kind e39.key (IntKind.i64.wrap ((IntKind.i64.wrap ((IntKind.i64.wrap ((IntKind.i64.wrap ((IntKind.i64.wrap (x26 + 1)) + 1)) + 1)) + 1)) + 1)) e39.text e39.prev e39.time)) (Int.toNat x27) (Y9z.mk e43.id e43.room e43.author e43.kind e43.key e43.n r41 e43.prev e43.time)) (Int.toNat x27) (Y9z.mk e45.id e45.room e45.author e45.kind e45.key e45.n e45.text r48.2 e45.time)) (Int.toNat x27) (Y9z.mk e50.id e50.room e50.author e50.kind e50.key e50.n e50.text e50.prev r48.1)), (IntKind.i64.wrap (r48.1 + 1)), (IntKind.i64.wrap (x27 + 1))))) (some (.inr (x26, l25)))
def Zl8 (p0 : List Y9z) (p1 : Int) : Option (Int × List Y9z) := (iter (fun z54 => Zl7 z54.1 z54.2.1 z54.2.2) big (p0, p1, 0)).bind fun (y55, y56) => Zl6 y55 y56
theorem Zl9 {w00 : Value} (p0 : List Y9z) (p1 : Int) (r : Int × List Y9z) (h : Zl8 p0 p1 = some r) : Ok Tryz.prog 99 [cV w00, cI p1] [Obj.deep w00 82 Yae Yaf 9 p0] (fun c qs => c = cI r.1 ∧ qs = [Obj.deep w00 82 Yae Yaf 9 r.2]) := by
 refine Ok.of_body (rs := [.tmp 4]) Tryz.func99 rfl rfl rfl rfl rfl fun X => ?_
 unfold Zl8 at h
 refine AW.seq ?_
 refine AW.region ?_
 refine Ops.v rfl (Ys rfl rfl) ?_
 refine Ops.nil ?_
 refine AW.seq ?_
 refine AW.cut (τ := Int × List Y9z) (fun (x52, l53) => ⟨[(1, cI x52)], [Obj.deep w00 82 Yae Yaf 9 l53]⟩) (fun (x52, l53) => Zl6 x52 l53 = some r) ?_ ?_
 ·
  refine zw ?_
  refine ob' h fun o57 g58 q59 => ?_
  refine AW.loop (τ := List Y9z × Int × Int) (x := (p0, p1, 0)) (fun (l25, x26, x27) => ⟨[(0, cV w00), (1, cI x26), (5, cI x27)], [Obj.deep w00 82 Yae Yaf 9 l25]⟩) (fun k (l25, x26, x27) => iter (fun z54 => Zl7 z54.1 z54.2.1 z54.2.2) k (l25, x26, x27) = some o57) g58 (Y25.both (ns := [0]) rfl rfl) ?_
  rintro k ⟨l25, x26, x27⟩ i61
  refine Y4d (show iter (fun z54 => Zl7 z54.1 z54.2.1 z54.2.2) k (l25, x26, x27) = some o57 from i61) fun k60 y62 hlt_k60 h h63 => ?_
  replace h : Zl7 l25 x26 x27 = some y62 := h
  unfold Zl7 at h
  refine zw ?_
  refine Ops.v rfl (Y6b (p := 0) Yc4.h rfl rfl rfl) ?_
  refine zw ?_
  refine cnd h (fun hb28 h => ?_) fun hb28 h => ?_
  ·
   refine AW.ct hb28 rfl ?_
   refine zw ?_
   refine ob' h fun e29 g30 h => ?_
   refine Ops.v rfl (Y6d (p := 0) Yc4.h rfl rfl rfl g30 rfl) ?_
   refine Ops.v rfl (Y6e (p := 0) Ybj.h rfl rfl (Y2f g30).2.2 rfl) ?_
   refine Ops.hd (ns := [0]) rfl rfl (Y6g (e' := (Y9z.mk x26 e29.room e29.author e29.kind e29.key e29.n e29.text e29.prev e29.time)) ld_2.h rfl rfl (One.val rfl) (Y2f g30).2.2 (fun _ => rfl) (fun _ => rfl) (fun _ => rfl)) ?_
   refine zw ?_
   refine ob' h fun e31 g32 h => ?_
   refine Ops.v rfl (Y6d (p := 0) Yc4.h rfl rfl rfl g32 rfl) ?_
   refine Ops.v rfl (Y6e (p := 0) Ybl.h rfl rfl (Y2f g32).2.2 rfl) ?_
   refine Ops.hd (ns := [0]) rfl rfl (Y6g (e' := (Y9z.mk e31.id (IntKind.i64.wrap (x26 + 1)) e31.author e31.kind e31.key e31.n e31.text e31.prev e31.time)) ld_2.h rfl rfl (One.val rfl) (Y2f g32).2.2 (fun _ => rfl) (fun _ => rfl) (fun _ => rfl)) ?_
   refine zw ?_
   refine ob' h fun e33 g34 h => ?_
   refine Ops.v rfl (Y6d (p := 0) Yc4.h rfl rfl rfl g34 rfl) ?_
   refine Ops.v rfl (Y6e (p := 0) Ybn.h rfl rfl (Y2f g34).2.2 rfl) ?_
   refine Ops.hd (ns := [0]) rfl rfl (Y6g (e' := (Y9z.mk e33.id e33.room (IntKind.i64.wrap ((IntKind.i64.wrap (x26 + 1)) + 1)) e33.kind e33.key e33.n e33.text e33.prev e33.time)) ld_2.h rfl rfl (One.val rfl) (Y2f g34).2.2 (fun _ => rfl) (fun _ => rfl) (fun _ => rfl)) ?_
   refine zw ?_
   refine ob' h fun e35 g36 h => ?_
   refine Ops.v rfl (Y6d (p := 0) Yc4.h rfl rfl rfl g36 rfl) ?_
   refine Ops.v rfl (Y6e (p := 0) Ybp.h rfl rfl (Y2f g36).2.2 rfl) ?_
   refine Ops.hd (ns := [0]) rfl rfl (Y6g (e' := (Y9z.mk e35.id e35.room e35.author (IntKind.i64.wrap ((IntKind.i64.wrap ((IntKind.i64.wrap (x26 + 1)) + 1)) + 1)) e35.key e35.n e35.text e35.prev e35.time)) ld_2.h rfl rfl (One.val rfl) (Y2f g36).2.2 (fun _ => rfl) (fun _ => rfl) (fun _ => rfl)) ?_
   refine zw ?_
   refine ob' h fun e37 g38 h => ?_
   refine Ops.v rfl (Y6d (p := 0) Yc4.h rfl rfl rfl g38 rfl) ?_
   refine Ops.v rfl (Y6e (p := 0) Ybr.h rfl rfl (Y2f g38).2.2 rfl) ?_
   refine Ops.hd (ns := [0]) rfl rfl (Y6g (e' := (Y9z.mk e37.id e37.room e37.author e37.kind (IntKind.i64.wrap ((IntKind.i64.wrap ((IntKind.i64.wrap ((IntKind.i64.wrap (x26 + 1)) + 1)) + 1)) + 1)) e37.n e37.text e37.prev e37.time)) ld_2.h rfl rfl (One.val rfl) (Y2f g38).2.2 (fun _ => rfl) (fun _ => rfl) (fun _ => rfl)) ?_
   refine zw ?_
   refine ob' h fun e39 g40 h => ?_
   refine Ops.v rfl (Y6d (p := 0) Yc4.h rfl rfl rfl g40 rfl) ?_
   refine Ops.v rfl (Y6e (p := 0) Ybt.h rfl rfl (Y2f g40).2.2 rfl) ?_
   refine Ops.hd (ns := [0]) rfl rfl (Y6g (e' := (Y9z.mk e39.id e39.room e39.author e39.kind e39.key (IntKind.i64.wrap ((IntKind.i64.wrap ((IntKind.i64.wrap ((IntKind.i64.wrap ((IntKind.i64.wrap (x26 + 1)) + 1)) + 1)) + 1)) + 1)) e39.text e39.prev e39.time)) ld_2.h rfl rfl (One.val rfl) (Y2f g40).2.2 (fun _ => rfl) (fun _ => rfl) (fun _ => rfl)) ?_
   refine zw ?_
   refine oc h fun r41 g42 h => ?_
   refine ob' h fun e43 g44 h => ?_
   refine Ops.v rfl (Y6d (p := 0) Yc4.h rfl rfl rfl g44 rfl) ?_
   refine Ops.v rfl (Y6e (p := 0) Ybu.h rfl rfl (Y2f g44).2.2 rfl) ?_
   refine Ops.hd (ns := [0]) rfl rfl (Y6g (e' := (Y9z.mk e43.id e43.room e43.author e43.kind e43.key e43.n r41 e43.prev e43.time)) ld_9.h rfl rfl (One.val rfl) (Y2f g44).2.2 (fun _ => rfl) (fun _ => rfl) (fun _ => rfl)) ?_
   refine zw ?_
   refine ob' h fun e45 g46 h => ?_
   refine Ops.v rfl (Y6d (p := 0) Yc4.h rfl rfl rfl g46 rfl) ?_
   refine Ops.v rfl (Y6e (p := 0) Ybv.h rfl rfl (Y2f g46).2.2 rfl) ?_
   refine Ops.take (p := 0) rfl (Y2f g46).2.2 fun q47 => ?_
   refine Ops.v rfl (Y6f (p := 1) Yb2.h rfl rfl (Y2f g46).2.2 rfl rfl) ?_
   refine zw ?_
   refine ob' h fun r48 g49 h => ?_
   refine Ops.hd (ns := [0]) rfl rfl (Y28 ((Zl5 e45.prev (IntKind.i64.wrap ((IntKind.i64.wrap ((IntKind.i64.wrap ((IntKind.i64.wrap ((IntKind.i64.wrap ((IntKind.i64.wrap ((IntKind.i64.wrap (x26 + 1)) + 1)) + 1)) + 1)) + 1)) + 1)) + 1))).h _ _ g49) rfl rfl) ?_
   refine Ops.ghost (Y25.back (x' := (Y9z.mk e45.id e45.room e45.author e45.kind e45.key e45.n e45.text r48.2 e45.time)) (ns := [1, 0]) rfl (Y2f g46).2.2 rfl rfl) ?_
   refine zw ?_
   refine ob' h fun e50 g51 h => ?_
   refine Ops.v rfl (Y6d (p := 0) Yc4.h rfl rfl rfl g51 rfl) ?_
   refine Ops.v rfl (Y6e (p := 0) Ybx.h rfl rfl (Y2f g51).2.2 rfl) ?_
   refine Ops.hd (ns := [0]) rfl rfl (Y6g (e' := (Y9z.mk e50.id e50.room e50.author e50.kind e50.key e50.n e50.text e50.prev r48.1)) ld_2.h rfl rfl (One.val rfl) (Y2f g51).2.2 (fun _ => rfl) (fun _ => rfl) (fun _ => rfl)) ?_
   refine zw ?_
   obtain rfl := Wj h
   exact ⟨k60, ((List.set (List.set (List.set (List.set (List.set (List.set (List.set (List.set (List.set l25 (Int.toNat x27) (Y9z.mk x26 e29.room e29.author e29.kind e29.key e29.n e29.text e29.prev e29.time)) (Int.toNat x27) (Y9z.mk e31.id (IntKind.i64.wrap (x26 + 1)) e31.author e31.kind e31.key e31.n e31.text e31.prev e31.time)) (Int.toNat x27) (Y9z.mk e33.id e33.room (IntKind.i64.wrap ((IntKind.i64.wrap (x26 + 1)) + 1)) e33.kind e33.key e33.n e33.text e33.prev e33.time)) (Int.toNat x27) (Y9z.mk e35.id e35.room e35.author (IntKind.i64.wrap ((IntKind.i64.wrap ((IntKind.i64.wrap (x26 + 1)) + 1)) + 1)) e35.key e35.n e35.text e35.prev e35.time)) (Int.toNat x27) (Y9z.mk e37.id e37.room e37.author e37.kind (IntKind.i64.wrap ((IntKind.i64.wrap ((IntKind.i64.wrap ((IntKind.i64.wrap (x26 + 1)) + 1)) + 1)) + 1)) e37.n e37.text e37.prev e37.time)) (Int.toNat x27) (Y9z.mk e39.id e39.room e39.author e39.kind e39.key (IntKind.i64.wrap ((IntKind.i64.wrap ((IntKind.i64.wrap ((IntKind.i64.wrap ((IntKind.i64.wrap (x26 + 1)) + 1)) + 1)) + 1)) + 1)) e39.text e39.prev e39.time)) (Int.toNat x27) (Y9z.mk e43.id e43.room e43.author e43.kind e43.key e43.n r41 e43.prev e43.time)) (Int.toNat x27) (Y9z.mk e45.id e45.room e45.author e45.kind e45.key e45.n e45.text r48.2 e45.time)) (Int.toNat x27) (Y9z.mk e50.id e50.room e50.author e50.kind e50.key e50.n e50.text e50.prev r48.1)), (IntKind.i64.wrap (r48.1 + 1)), (IntKind.i64.wrap (x27 + 1))), hlt_k60, h63, Y25.both (ns := [0]) rfl rfl⟩
  refine AW.cf hb28 rfl ?_
  refine AW.exit ?_
  obtain rfl := Wj h
  obtain rfl := Wj h63
  replace h := q59
  exact ⟨(x26, l25), h, Y25.both (ns := [0]) rfl rfl⟩
 rintro ⟨x52, l53⟩ h
 replace h : Zl6 x52 l53 = some r := h
 unfold Zl6 at h
 refine zw ?_
 refine AW.ret ?_
 rw [← Wj h]
 exact finI ⟨[cI x52], _, Y25.refl _, (.cons (.tmp rfl) .nil), [0], _, _, rfl, ⟨rfl, rfl⟩⟩
instance Zla (p0 : List Y9z) (p1 : Int) : SpO Tryz.prog 99 (Zl8 p0 p1) (.x fun (w00 : Value) => .d [cV w00, cI p1] [Obj.deep w00 82 Yae Yaf 9 p0] fun r => .d (cI r.1) [Obj.deep w00 82 Yae Yaf 9 r.2]) := ⟨fun w00 r h => Zl9 p0 p1 r h⟩

def Zlb (x30 : Int) (l31 : List Ya3) : Option (Int × List Ya3) := some (x30, l31)
def Zlc (l14 : List Ya3) (x15 : Int) (x16 : Int) : Option ((List Ya3 × Int × Int) ⊕ ((Int × List Ya3))) := cond (decide (x16 < (l14.length : Int))) ((getI l14 x16).bind fun e18 => (getI (List.set l14 (Int.toNat x16) (Ya3.mk x15 e18.events e18.parked)) x16).bind fun e20 => (Zl8 e20.events (IntKind.i64.wrap (x15 + 1))).bind fun r23 => (getI (List.set (List.set l14 (Int.toNat x16) (Ya3.mk x15 e18.events e18.parked)) (Int.toNat x16) (Ya3.mk e20.room r23.2 e20.parked)) x16).bind fun e25 => (Zl8 e25.parked r23.1).bind fun r28 => some (.inl ((List.set (List.set (List.set l14 (Int.toNat x16) (Ya3.mk x15 e18.events e18.parked)) (Int.toNat x16) (Ya3.mk e20.room r23.2 e20.parked)) (Int.toNat x16) (Ya3.mk e25.room e25.events r28.2)), r28.1, (IntKind.i64.wrap (x16 + 1))))) (some (.inr (x15, l14)))
def Zld (p0 : List Ya3) (p1 : Int) : Option (Int × List Ya3) := (iter (fun z32 => Zlc z32.1 z32.2.1 z32.2.2) big (p0, p1, 0)).bind fun (y33, y34) => Zlb y33 y34
theorem Zle {w00 : Value} (p0 : List Ya3) (p1 : Int) (r : Int × List Ya3) (h : Zld p0 p1 = some r) : Ok Tryz.prog 60 [cV w00, cI p1] [Obj.deep w00 118 Yah Yai 3 p0] (fun c qs => c = cI r.1 ∧ qs = [Obj.deep w00 118 Yah Yai 3 r.2]) := by
 refine Ok.of_body (rs := [.tmp 4]) Tryz.func60 rfl rfl rfl rfl rfl fun X => ?_
 unfold Zld at h
 refine AW.seq ?_
 refine AW.region ?_
 refine Ops.v rfl (Ys rfl rfl) ?_
 refine Ops.nil ?_
 refine AW.seq ?_
 refine AW.cut (τ := Int × List Ya3) (fun (x30, l31) => ⟨[(1, cI x30)], [Obj.deep w00 118 Yah Yai 3 l31]⟩) (fun (x30, l31) => Zlb x30 l31 = some r) ?_ ?_
 ·
  refine zw ?_
  refine ob' h fun o35 g36 q37 => ?_
  refine AW.loop (τ := List Ya3 × Int × Int) (x := (p0, p1, 0)) (fun (l14, x15, x16) => ⟨[(0, cV w00), (1, cI x15), (5, cI x16)], [Obj.deep w00 118 Yah Yai 3 l14]⟩) (fun k (l14, x15, x16) => iter (fun z32 => Zlc z32.1 z32.2.1 z32.2.2) k (l14, x15, x16) = some o35) g36 (Y25.both (ns := [0]) rfl rfl) ?_
  rintro k ⟨l14, x15, x16⟩ i39
  refine Y4d (show iter (fun z32 => Zlc z32.1 z32.2.1 z32.2.2) k (l14, x15, x16) = some o35 from i39) fun k38 y40 hlt_k38 h h41 => ?_
  replace h : Zlc l14 x15 x16 = some y40 := h
  unfold Zlc at h
  refine zw ?_
  refine Ops.v rfl (Y6b (p := 0) Ycg.h rfl rfl rfl) ?_
  refine zw ?_
  refine cnd h (fun hb17 h => ?_) fun hb17 h => ?_
  ·
   refine AW.ct hb17 rfl ?_
   refine zw ?_
   refine ob' h fun e18 g19 h => ?_
   refine Ops.v rfl (Y6d (p := 0) Ycg.h rfl rfl rfl g19 rfl) ?_
   refine Ops.v rfl (Y6e (p := 0) Yc7.h rfl rfl (Y2f g19).2.2 rfl) ?_
   refine Ops.hd (ns := [0]) rfl rfl (Y6g (e' := (Ya3.mk x15 e18.events e18.parked)) ld_2.h rfl rfl (One.val rfl) (Y2f g19).2.2 (fun _ => rfl) (fun _ => rfl) (fun _ => rfl)) ?_
   refine zw ?_
   refine ob' h fun e20 g21 h => ?_
   refine Ops.v rfl (Y6d (p := 0) Ycg.h rfl rfl rfl g21 rfl) ?_
   refine Ops.v rfl (Y6e (p := 0) Yc8.h rfl rfl (Y2f g21).2.2 rfl) ?_
   refine Ops.take (p := 0) rfl (Y2f g21).2.2 fun q22 => ?_
   refine Ops.v rfl (Y6f (p := 2) Yc9.h rfl rfl (Y2f g21).2.2 rfl rfl) ?_
   refine zw ?_
   refine ob' h fun r23 g24 h => ?_
   refine Ops.hd (ns := [0]) rfl rfl (Y28 (Zl9 e20.events (IntKind.i64.wrap (x15 + 1)) _ g24) rfl rfl) ?_
   refine Ops.ghost (Y25.back (x' := (Ya3.mk e20.room r23.2 e20.parked)) (ns := [2, 0, 0]) rfl (Y2f g21).2.2 rfl rfl) ?_
   refine zw ?_
   refine ob' h fun e25 g26 h => ?_
   refine Ops.v rfl (Y6d (p := 0) Ycg.h rfl rfl rfl g26 rfl) ?_
   refine Ops.v rfl (Y6e (p := 0) Yca.h rfl rfl (Y2f g26).2.2 rfl) ?_
   refine Ops.take (p := 0) rfl (Y2f g26).2.2 fun q27 => ?_
   refine Ops.v rfl (Y6f (p := 2) Yc9.h rfl rfl (Y2f g26).2.2 rfl rfl) ?_
   refine zw ?_
   refine ob' h fun r28 g29 h => ?_
   refine Ops.hd (ns := [1]) rfl rfl (Y28 (Zl9 e25.parked r23.1 _ g29) rfl rfl) ?_
   refine Ops.ghost (Y25.back (x' := (Ya3.mk e25.room e25.events r28.2)) (ns := [2, 1, 0]) rfl (Y2f g26).2.2 rfl rfl) ?_
   refine zw ?_
   obtain rfl := Wj h
   exact ⟨k38, ((List.set (List.set (List.set l14 (Int.toNat x16) (Ya3.mk x15 e18.events e18.parked)) (Int.toNat x16) (Ya3.mk e20.room r23.2 e20.parked)) (Int.toNat x16) (Ya3.mk e25.room e25.events r28.2)), r28.1, (IntKind.i64.wrap (x16 + 1))), hlt_k38, h41, Y25.both (ns := [0]) rfl rfl⟩
  refine AW.cf hb17 rfl ?_
  refine AW.exit ?_
  obtain rfl := Wj h
  obtain rfl := Wj h41
  replace h := q37
  exact ⟨(x15, l14), h, Y25.both (ns := [0]) rfl rfl⟩
 rintro ⟨x30, l31⟩ h
 replace h : Zlb x30 l31 = some r := h
 unfold Zlb at h
 refine zw ?_
 refine AW.ret ?_
 rw [← Wj h]
 exact finI ⟨[cI x30], _, Y25.refl _, (.cons (.tmp rfl) .nil), [0], _, _, rfl, ⟨rfl, rfl⟩⟩
instance Zlf (p0 : List Ya3) (p1 : Int) : SpO Tryz.prog 60 (Zld p0 p1) (.x fun (w00 : Value) => .d [cV w00, cI p1] [Obj.deep w00 118 Yah Yai 3 p0] fun r => .d (cI r.1) [Obj.deep w00 118 Yah Yai 3 r.2]) := ⟨fun w00 r h => Zle p0 p1 r h⟩

def Zlg (x14 : Int) (l15 : List Ya1) : Option (Int × List Ya1) := some (x14, l15)
def Zlh (l6 : List Ya1) (x7 : Int) (x8 : Int) : Option ((List Ya1 × Int × Int) ⊕ ((Int × List Ya1))) := cond (decide (x8 < (l6.length : Int))) ((getI l6 x8).bind fun e10 => (getI (List.set l6 (Int.toNat x8) (Ya1.mk x7 e10.id)) x8).bind fun e12 => some (.inl ((List.set (List.set l6 (Int.toNat x8) (Ya1.mk x7 e10.id)) (Int.toNat x8) (Ya1.mk e12.room (IntKind.i64.wrap (x7 + 1)))), (IntKind.i64.wrap ((IntKind.i64.wrap (x7 + 1)) + 1)), (IntKind.i64.wrap (x8 + 1))))) (some (.inr (x7, l6)))
def Zli (p0 : List Ya1) (p1 : Int) : Option (Int × List Ya1) := (iter (fun z16 => Zlh z16.1 z16.2.1 z16.2.2) big (p0, p1, 0)).bind fun (y17, y18) => Zlg y17 y18
instance Zlj (p0 : List Ya1) (p1 : Int) : SpO Tryz.prog 61 (Zli p0 p1) (.x fun (w00 : Value) => .d [cV w00, cI p1] [oA w00 40 Yad 2 p0] fun r => .d (cI r.1) [oA w00 40 Yad 2 r.2]) := ⟨fun w00 => so Tryz.func61 rfl rfl fun r X h => gh (.q 1 (.c2 (fun x14 l15 => .d [(1, cI x14)] [oA w00 40 Yad 2 l15]) [] [] (.l3 (fun l6 x7 x8 => .d [(1, cI x7), (5, cI x8)] [oA w00 40 Yad 2 l6]) [0] [] .z) .z))⟩

def Zlk (p0 : Ya4) (p1 : Int) : Option (Int × List Ya3 × List Ya1) := (Zld p0.rooms p1).bind fun r2 => (Zli p0.stream r2.1).bind fun r4 => some (r4.1, r2.2, r4.2)
instance Zll (p0 : Ya4) (p1 : Int) : SpO Tryz.prog 21 (Zlk p0 p1) (.x fun (w00 : Value) => .x fun (w01 : Value) => .d [C.agg [cV w00, cV w01], cI p1] [Obj.deep w00 118 Yah Yai 3 p0.rooms, oA w01 40 Yad 2 p0.stream] fun r => .d (cI r.1) [Obj.deep w00 118 Yah Yai 3 r.2.1, oA w01 40 Yad 2 r.2.2]) := ⟨fun w00 w01 => so Tryz.func21 rfl rfl fun r X h => gh .z⟩

def Zlm (p0 : Ya2) (p1 : Int) : Option (Int × List Int) := (Zl4 p0.at_ p1).bind fun r2 => some (r2.1, r2.2)
instance Zln (p0 : Ya2) (p1 : Int) : SpO Tryz.prog 22 (Zlm p0 p1) (.x fun (w00 : Value) => .d [C.agg [cI p0.user, cV w00], cI p1] [oA w00 2 kI64 1 p0.at_] fun r => .d (cI r.1) [oA w00 2 kI64 1 r.2]) := ⟨fun w00 => so Tryz.func22 rfl rfl fun r X h => gh .z⟩

def Zlo (x11 : Int) : Option Int := some x11
def Zlp (p0 : List Int) (x5 : Int) (x6 : Int) : Option ((Int × Int) ⊕ (Int ⊕ Int)) := cond (decide (x6 < (p0.length : Int))) ((getI p0 x6).bind fun e8 => cond (e8 != x5) (some (.inr (.inl (-1)))) (some (.inl ((IntKind.i64.wrap (x5 + 1)), (IntKind.i64.wrap (x6 + 1)))))) (some (.inr (.inr x5)))
def Zlq (p0 : List Int) (p1 : Int) : Option Int := (iter (fun z12 => Zlp p0 z12.1 z12.2) big (p1, 0)).bind (fun z15 => match z15 with | .inl y13 => some y13 | .inr y14 => Zlo y14)
instance Zlr (p0 : List Int) (p1 : Int) : Sp Tryz.prog 24 [cM kI64 1 p0, cI p1] (Zlq p0 p1) (fun r => cI r) := Sp.of (so Tryz.func24 rfl rfl fun r X h => gh (.q 1 (.c1 (fun x11 => .d [(1, cI x11)] []) [] [] (.l2 (fun x5 x6 => .d [(1, cI x5), (5, cI x6)] []) [0] [] .z) .z)))

def Zls (p0 : THub) (p1 : Ya2) (p2 : Int) (r13 : List Int) (r24 : List Int) (x66 : Bool) : Option Bool := cond x66 (some false) ((Zl4 r24 1).bind fun r68 => (Zlq r68.2 1).bind fun r70 => cond (decide (r70 < 0)) (some false) (cond (r70 != r68.1) (some false) ((Z19 p0).bind fun r74 => (Z1b p1).bind fun r76 => (Zk6 r74 r76 p2).bind fun r78 => (Zka r78 r13).bind fun r80 => cond r80 ((Zlq r68.2 1).bind fun r83 => cond (decide (r83 < 0)) (some false) (cond (r83 != r68.1) (some false) (some true))) (some false))))
def Zlt (p0 : THub) (p1 : Ya2) (p2 : Int) : Option Bool := (Zh p0 1048576).bind fun r3 => cond (decide (r3 < 0)) (some true) ((Zj p1 r3).bind fun r6 => cond (decide (r6 < 0)) (some true) ((Z19 p0).bind fun r9 => (Z1b p1).bind fun r11 => (Z8l r9 r11 p2).bind fun r13 => (Z19 p0).bind fun r15 => (Z1b p1).bind fun r20 => (Zk6 r15 r20 p2).bind fun r24 => (Zka r24 r13).bind fun r28 => cond r28 ((Z19 p0).bind fun r43 => (Zku r15 r43).bind fun r45 => cond r45 ((Z1b p1).bind fun r54 => (Zkw r20 r54).bind fun r56 => cond r56 ((Zlk r15 1).bind fun r59 => (Zlm r20 r59.1).bind fun r61 => cond (decide (r61.1 < 0)) (Zls p0 p1 p2 r13 r24 true) ((Zka r24 r13).bind fun r64 => Zls p0 p1 p2 r13 r24 (!r64))) (some false)) (some false)) (some false)))
instance Zlu (p0 : THub) (p1 : Ya2) (p2 : Int) : Sp Tryz.prog 4 [C.agg [cM Yac 3 p0.rooms, cM Yad 2 p0.stream], C.agg [cI p1.user, cM kI64 1 p1.at_], cI p2] (Zlt p0 p1 p2) (fun r => C.bool r) := Sp.of (so Tryz.func4 rfl rfl fun r X h => gh (.b .z (.b .z (.r [0,0] [0,2] [] [1,9,16,6,14,22,24] (.p (.p (.p (.k (.k (.k (.b (.r [0,2,2,2,2,2] [0,1] [] [1,5,10,14,16] (.b (.r [0,1,1,1,1,1,1] [0,1] [] [1,5,10,14,16] (.b (.q 4 (.c1 (fun x66 => .d [(67, C.bool x66)] []) [2,3,4,8,11] [7,6,3] .z (.b .z (.b .z (.b .z (.r [0,0,0] [0,2] [] [1,9,16,6,14,22,24] .z)))))) .z)) .z)) .z)))))))))))

end Go.Proofs.YtnoknphekhclcaaGreatDoor
