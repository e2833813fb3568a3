/- Printed by gen.py: plain functions for Go functions, and that the walks keep to them. -/
import Derived.Test.YtbgichfjcnibpaaGreatCQ6
set_option autoImplicit false
set_option linter.unusedVariables false
set_option linter.unusedSimpArgs false
set_option maxRecDepth 100000
namespace Go.Proofs.YtbgichfjcnibpaaGreat
open Go Go.Abs
attribute [local irreducible] AW Ops OpsD Y3o
def Zhr (x52 : Int) (l53 : List Y8x) : Option (Int × List Y8x) := some (x52, l53)
def Zhs (l25 : List Y8x) (x26 : Int) (x27 : Int) : Option ((List Y8x × Int × Int) ⊕ ((Int × List Y8x))) := cond (decide (x27 < (l25.length : Int))) ((getI l25 x27).bind fun e29 => (getI (List.set l25 (Int.toNat x27) (Y8x.mk x26 e29.room e29.author e29.kind e29.key e29.n e29.text e29.prev e29.time)) x27).bind fun e31 => (getI (List.set (List.set l25 (Int.toNat x27) (Y8x.mk x26 e29.room e29.author e29.kind e29.key e29.n e29.text e29.prev e29.time)) (Int.toNat x27) (Y8x.mk e31.id (IntKind.i64.wrap (x26 + 1)) e31.author e31.kind e31.key e31.n e31.text e31.prev e31.time)) x27).bind fun e33 => (getI (List.set (List.set (List.set l25 (Int.toNat x27) (Y8x.mk x26 e29.room e29.author e29.kind e29.key e29.n e29.text e29.prev e29.time)) (Int.toNat x27) (Y8x.mk e31.id (IntKind.i64.wrap (x26 + 1)) e31.author e31.kind e31.key e31.n e31.text e31.prev e31.time)) (Int.toNat x27) (Y8x.mk e33.id e33.room (IntKind.i64.wrap ((IntKind.i64.wrap (x26 + 1)) + 1)) e33.kind e33.key e33.n e33.text e33.prev e33.time)) x27).bind fun e35 => (getI (List.set (List.set (List.set (List.set l25 (Int.toNat x27) (Y8x.mk x26 e29.room e29.author e29.kind e29.key e29.n e29.text e29.prev e29.time)) (Int.toNat x27) (Y8x.mk e31.id (IntKind.i64.wrap (x26 + 1)) e31.author e31.kind e31.key e31.n e31.text e31.prev e31.time)) (Int.toNat x27) (Y8x.mk e33.id e33.room (IntKind.i64.wrap ((IntKind.i64.wrap (x26 + 1)) + 1)) e33.kind e33.key e33.n e33.text e33.prev e33.time)) (Int.toNat x27) (Y8x.mk e35.id e35.room e35.author (IntKind.i64.wrap ((IntKind.i64.wrap ((IntKind.i64.wrap (x26 + 1)) + 1)) + 1)) e35.key e35.n e35.text e35.prev e35.time)) x27).bind fun e37 => (getI (List.set (List.set (List.set (List.set (List.set l25 (Int.toNat x27) (Y8x.mk x26 e29.room e29.author e29.kind e29.key e29.n e29.text e29.prev e29.time)) (Int.toNat x27) (Y8x.mk e31.id (IntKind.i64.wrap (x26 + 1)) e31.author e31.kind e31.key e31.n e31.text e31.prev e31.time)) (Int.toNat x27) (Y8x.mk e33.id e33.room (IntKind.i64.wrap ((IntKind.i64.wrap (x26 + 1)) + 1)) e33.kind e33.key e33.n e33.text e33.prev e33.time)) (Int.toNat x27) (Y8x.mk e35.id e35.room e35.author (IntKind.i64.wrap ((IntKind.i64.wrap ((IntKind.i64.wrap (x26 + 1)) + 1)) + 1)) e35.key e35.n e35.text e35.prev e35.time)) (Int.toNat x27) (Y8x.mk e37.id e37.room e37.author e37.kind (IntKind.i64.wrap ((IntKind.i64.wrap ((IntKind.i64.wrap ((IntKind.i64.wrap (x26 + 1)) + 1)) + 1)) + 1)) e37.n e37.text e37.prev e37.time)) x27).bind fun e39 => (Zhl (IntKind.i64.wrap ((IntKind.i64.wrap ((IntKind.i64.wrap ((IntKind.i64.wrap ((IntKind.i64.wrap ((IntKind.i64.wrap (x26 + 1)) + 1)) + 1)) + 1)) + 1)) + 1))).bind fun r41 => (getI (List.set (List.set (List.set (List.set (List.set (List.set l25 (Int.toNat x27) (Y8x.mk x26 e29.room e29.author e29.kind e29.key e29.n e29.text e29.prev e29.time)) (Int.toNat x27) (Y8x.mk e31.id (IntKind.i64.wrap (x26 + 1)) e31.author e31.kind e31.key e31.n e31.text e31.prev e31.time)) (Int.toNat x27) (Y8x.mk e33.id e33.room (IntKind.i64.wrap ((IntKind.i64.wrap (x26 + 1)) + 1)) e33.kind e33.key e33.n e33.text e33.prev e33.time)) (Int.toNat x27) (Y8x.mk e35.id e35.room e35.author (IntKind.i64.wrap ((IntKind.i64.wrap ((IntKind.i64.wrap (x26 + 1)) + 1)) + 1)) e35.key e35.n e35.text e35.prev e35.time)) (Int.toNat x27) (Y8x.mk e37.id e37.room e37.author e37.kind (IntKind.i64.wrap ((IntKind.i64.wrap ((IntKind.i64.wrap ((IntKind.i64.wrap (x26 + 1)) + 1)) + 1)) + 1)) e37.n e37.text e37.prev e37.time)) (Int.toNat x27) (Y8x.mk e39.id e39.room e39.author e39.kind e39.key (IntKind.i64.wrap ((IntKind.i64.wrap ((IntKind.i64.wrap ((IntKind.i64.wrap ((IntKind.i64.wrap (x26 + 1)) + 1)) + 1)) + 1)) + 1)) e39.text e39.prev e39.time)) x27).bind fun e43 => (getI (List.set (List.set (List.set (List.set (List.set (List.set (List.set l25 (Int.toNat x27) (Y8x.mk x26 e29.room e29.author e29.kind e29.key e29.n e29.text e29.prev e29.time)) (Int.toNat x27) (Y8x.mk e31.id (IntKind.i64.wrap (x26 + 1)) e31.author e31.kind e31.key e31.n e31.text e31.prev e31.time)) (Int.toNat x27) (Y8x.mk e33.id e33.room (IntKind.i64.wrap ((IntKind.i64.wrap (x26 + 1)) + 1)) e33.kind e33.key e33.n e33.text e33.prev e33.time)) (Int.toNat x27) (Y8x.mk e35.id e35.room e35.author (IntKind.i64.wrap ((IntKind.i64.wrap ((IntKind.i64.wrap (x26 + 1)) + 1)) + 1)) e35.key e35.n e35.text e35.prev e35.time)) (Int.toNat x27) (Y8x.mk e37.id e37.room e37.author e37.kind (IntKind.i64.wrap ((IntKind.i64.wrap ((IntKind.i64.wrap ((IntKind.i64.wrap (x26 + 1)) + 1)) + 1)) + 1)) e37.n e37.text e37.prev e37.time)) (Int.toNat x27) (Y8x.mk e39.id e39.room e39.author e39.kind e39.key (IntKind.i64.wrap ((IntKind.i64.wrap ((IntKind.i64.wrap ((IntKind.i64.wrap ((IntKind.i64.wrap (x26 + 1)) + 1)) + 1)) + 1)) + 1)) e39.text e39.prev e39.time)) (Int.toNat x27) (Y8x.mk e43.id e43.room e43.author e43.kind e43.key e43.n r41 e43.prev e43.time)) x27).bind fun e45 => (Zhp e45.prev (IntKind.i64.wrap ((IntKind.i64.wrap ((IntKind.i64.wrap ((IntKind.i64.wrap ((IntKind.i64.wrap ((IntKind.i64.wrap ((IntKind.i64.wrap (x26 + 1)) + 1)) + 1)) + 1)) + 1)) + 1)) + 1))).bind fun r48 => (getI (List.set (List.set (List.set (List.set (List.set (List.set (List.set (List.set l25 (Int.toNat x27) (Y8x.mk x26 e29.room e29.author e29.kind e29.key e29.n e29.text e29.prev e29.time)) (Int.toNat x27) (Y8x.mk e31.id (IntKind.i64.wrap (x26 + 1)) e31.author e31.kind e31.key e31.n e31.text e31.prev e31.time)) (Int.toNat x27) (Y8x.mk e33.id e33.room (IntKind.i64.wrap ((IntKind.i64.wrap (x26 + 1)) + 1)) e33.kind e33.key e33.n e33.text e33.prev e33.time)) (Int.toNat x27) (Y8x.mk e35.id e35.room e35.author (IntKind.i64.wrap ((IntKind.i64.wrap ((IntKind.i64.wrap (x26 + 1)) + 1)) + 1)) e35.key e35.n e35.text e35.prev e35.time)) (Int.toNat x27) (Y8x.mk e37.id e37.room e37.author e37.kind (IntKind.i64.wrap ((IntKind.i64.wrap ((IntKind.i64.wrap ((IntKind.i64.wrap (x26 + 1)) + 1)) + 1)) + 1)) e37.n e37.text e37.prev e37.time)) (Int.toNat x27) (Y8x.mk e39.id e39.room e39.author e39.kind e39.key (IntKind.i64.wrap ((IntKind.i64.wrap ((IntKind.i64.wrap ((IntKind.i64.wrap ((IntKind.i64.wrap (x26 + 1)) + 1)) + 1)) + 1)) + 1)) e39.text e39.prev e39.time)) (Int.toNat x27) (Y8x.mk e43.id e43.room e43.author e43.kind e43.key e43.n r41 e43.prev e43.time)) (Int.toNat x27) (Y8x.mk e45.id e45.room e45.author e45.kind e45.key e45.n e45.text r48.2 e45.time)) x27).bind fun e50 => some (.inl ((List.set (List.set (List.set (List.set (List.set (List.set (List.set (List.set (List.set l25 (Int.toNat x27) (Y8x.mk x26 e29.room e29.author e29.kind e29.key e29.n e29.text e29.prev e29.time)) (Int.toNat x27) (Y8x.mk e31.id (IntKind.i64.wrap (x26 + 1)) e31.author e31.kind e31.key e31.n e31.text e31.prev e31.time)) (Int.toNat x27) (Y8x.mk e33.id e33.room (IntKind.i64.wrap ((IntKind.i64.wrap (x26 + 1)) + 1)) e33.kind e33.key e33.n e33.text e33.prev e33.time)) (Int.toNat x27) (Y8x.mk e35.id e35.room e35.author (IntKind.i64.wrap ((IntKind.i64.wrap ((IntKind.i64.wrap (x26 + 1)) + 1)) + 1)) e35.key e35.n e35.text e35.prev e35.time)) (Int.toNat x27) (Y8x.mk e37.id e37.room e37.author e37.kind (IntKind.i64.wrap ((IntKind.i64.wrap ((IntKind.i64.wrap ((IntKind.i64.wrap (x26 + 1)) + 1)) + 1)) + 1)) e37.n e37.text e37.prev e37.time)) (Int.toNat x27) (Y8x.mk e39.id e39.room e39.author e39.kind e39.key (IntKind.i64.wrap ((IntKind.i64.wrap ((IntKind.i64.wrap ((IntKind.i64.wrap ((IntKind.i64.wrap (x26 + 1)) + 1)) + 1)) + 1)) + 1)) e39.text e39.prev e39.time)) (Int.toNat x27) (Y8x.mk e43.id e43.room e43.author e43.kind e43.key e43.n r41 e43.prev e43.time)) (Int.toNat x27) (Y8x.mk e45.id e45.room e45.author e45.kind e45.key e45.n e45.text r48.2 e45.time)) (Int.toNat x27) (Y8x.mk e50.id e50.room e50.author e50.kind e50.key e50.n e50.text e50.prev r48.1)), (IntKind.i64.wrap (r48.1 + 1)), (IntKind.i64.wrap (x27 + 1))))) (some (.inr (x26, l25)))
def Zht (p0 : List Y8x) (p1 : Int) : Option (Int × List Y8x) := (iter (fun z54 => Zhs z54.1 z54.2.1 z54.2.2) big (p0, p1, 0)).bind fun (y55, y56) => Zhr y55 y56
set_option maxHeartbeats 1000000 in
theorem Zhu {w00 : Value} (p0 : List Y8x) (p1 : Int) (r : Int × List Y8x) (h : Zht p0 p1 = some r) : Ok Tryz.prog 146 [C.val w00, C.int p1] [Obj.deep w00 136 Y9a Y9b 9 p0] (fun c qs => c = C.int r.1 ∧ qs = [Obj.deep w00 136 Y9a Y9b 9 r.2]) := by
 refine Ok.of_body (rs := [.tmp 4]) Tryz.func146 rfl rfl rfl rfl rfl fun X => ?_
 unfold Zht at h
 refine AW.seq ?_
 refine AW.region ?_
 refine Ops.v rfl (Yr rfl rfl) ?_
 refine Ops.nil ?_
 refine AW.seq ?_
 refine AW.cut (τ := Int × List Y8x) (fun (x52, l53) => ⟨[(1, C.int x52)], [Obj.deep w00 136 Y9a Y9b 9 l53]⟩) (fun (x52, l53) => Zhr x52 l53 = some r) ?_ ?_
 ·
  refine zw ?_
  refine AW.lp (v := ()) h (fun (l25, x26, x27) (_ : Unit) => ⟨[(0, C.val w00), (1, C.int x26), (5, C.int x27)], [Obj.deep w00 136 Y9a Y9b 9 l25]⟩) (gb [0]) ?_
  rintro ⟨l25, x26, x27⟩ _ y62 h
  refine zw ?_
  refine Ops.v rfl (Y5x (p := 0) Yaq.h rfl rfl rfl) ?_
  refine zw ?_
  refine cnd h (fun hb28 h => ?_) fun hb28 h => ?_
  ·
   refine AW.ct hb28 rfl ?_
   refine zw ?_
   refine ob' h fun e29 g30 h => ?_
   refine Ops.v rfl (Y5z (p := 0) Yaq.h rfl rfl rfl g30 rfl) ?_
   refine Ops.v rfl (Y60 (p := 0) Ya7.h rfl rfl (Y29 g30).2.2 rfl) ?_
   refine Ops.hd (ns := [0]) rfl rfl (Y62 (e' := (Y8x.mk x26 e29.room e29.author e29.kind e29.key e29.n e29.text e29.prev e29.time)) ld_2.h rfl rfl (One.val rfl) (Y29 g30).2.2 (fun _ => rfl) (fun _ => rfl) (fun _ => rfl)) ?_
   refine zw ?_
   refine ob' h fun e31 g32 h => ?_
   refine Ops.v rfl (Y5z (p := 0) Yaq.h rfl rfl rfl g32 rfl) ?_
   refine Ops.v rfl (Y60 (p := 0) Ya9.h rfl rfl (Y29 g32).2.2 rfl) ?_
   refine Ops.hd (ns := [0]) rfl rfl (Y62 (e' := (Y8x.mk e31.id (IntKind.i64.wrap (x26 + 1)) e31.author e31.kind e31.key e31.n e31.text e31.prev e31.time)) ld_2.h rfl rfl (One.val rfl) (Y29 g32).2.2 (fun _ => rfl) (fun _ => rfl) (fun _ => rfl)) ?_
   refine zw ?_
   refine ob' h fun e33 g34 h => ?_
   refine Ops.v rfl (Y5z (p := 0) Yaq.h rfl rfl rfl g34 rfl) ?_
   refine Ops.v rfl (Y60 (p := 0) Yab.h rfl rfl (Y29 g34).2.2 rfl) ?_
   refine Ops.hd (ns := [0]) rfl rfl (Y62 (e' := (Y8x.mk e33.id e33.room (IntKind.i64.wrap ((IntKind.i64.wrap (x26 + 1)) + 1)) e33.kind e33.key e33.n e33.text e33.prev e33.time)) ld_2.h rfl rfl (One.val rfl) (Y29 g34).2.2 (fun _ => rfl) (fun _ => rfl) (fun _ => rfl)) ?_
   refine zw ?_
   refine ob' h fun e35 g36 h => ?_
   refine Ops.v rfl (Y5z (p := 0) Yaq.h rfl rfl rfl g36 rfl) ?_
   refine Ops.v rfl (Y60 (p := 0) Yad.h rfl rfl (Y29 g36).2.2 rfl) ?_
   refine Ops.hd (ns := [0]) rfl rfl (Y62 (e' := (Y8x.mk e35.id e35.room e35.author (IntKind.i64.wrap ((IntKind.i64.wrap ((IntKind.i64.wrap (x26 + 1)) + 1)) + 1)) e35.key e35.n e35.text e35.prev e35.time)) ld_2.h rfl rfl (One.val rfl) (Y29 g36).2.2 (fun _ => rfl) (fun _ => rfl) (fun _ => rfl)) ?_
   refine zw ?_
   refine ob' h fun e37 g38 h => ?_
   refine Ops.v rfl (Y5z (p := 0) Yaq.h rfl rfl rfl g38 rfl) ?_
   refine Ops.v rfl (Y60 (p := 0) Yaf.h rfl rfl (Y29 g38).2.2 rfl) ?_
   refine Ops.hd (ns := [0]) rfl rfl (Y62 (e' := (Y8x.mk e37.id e37.room e37.author e37.kind (IntKind.i64.wrap ((IntKind.i64.wrap ((IntKind.i64.wrap ((IntKind.i64.wrap (x26 + 1)) + 1)) + 1)) + 1)) e37.n e37.text e37.prev e37.time)) ld_2.h rfl rfl (One.val rfl) (Y29 g38).2.2 (fun _ => rfl) (fun _ => rfl) (fun _ => rfl)) ?_
   refine zw ?_
   refine ob' h fun e39 g40 h => ?_
   refine Ops.v rfl (Y5z (p := 0) Yaq.h rfl rfl rfl g40 rfl) ?_
   refine Ops.v rfl (Y60 (p := 0) Yah.h rfl rfl (Y29 g40).2.2 rfl) ?_
   refine Ops.hd (ns := [0]) rfl rfl (Y62 (e' := (Y8x.mk e39.id e39.room e39.author e39.kind e39.key (IntKind.i64.wrap ((IntKind.i64.wrap ((IntKind.i64.wrap ((IntKind.i64.wrap ((IntKind.i64.wrap (x26 + 1)) + 1)) + 1)) + 1)) + 1)) e39.text e39.prev e39.time)) ld_2.h rfl rfl (One.val rfl) (Y29 g40).2.2 (fun _ => rfl) (fun _ => rfl) (fun _ => rfl)) ?_
   refine zw ?_
   refine oc h fun r41 g42 h => ?_
   refine ob' h fun e43 g44 h => ?_
   refine Ops.v rfl (Y5z (p := 0) Yaq.h rfl rfl rfl g44 rfl) ?_
   refine Ops.v rfl (Y60 (p := 0) Yai.h rfl rfl (Y29 g44).2.2 rfl) ?_
   refine Ops.hd (ns := [0]) rfl rfl (Y62 (e' := (Y8x.mk e43.id e43.room e43.author e43.kind e43.key e43.n r41 e43.prev e43.time)) ld_9.h rfl rfl (One.val rfl) (Y29 g44).2.2 (fun _ => rfl) (fun _ => rfl) (fun _ => rfl)) ?_
   refine zw ?_
   refine ob' h fun e45 g46 h => ?_
   refine Ops.v rfl (Y5z (p := 0) Yaq.h rfl rfl rfl g46 rfl) ?_
   refine Ops.v rfl (Y60 (p := 0) Yaj.h rfl rfl (Y29 g46).2.2 rfl) ?_
   refine Ops.take (p := 0) rfl (Y29 g46).2.2 fun q47 => ?_
   refine Ops.v rfl (Y61 (p := 1) Y9r.h rfl rfl (Y29 g46).2.2 rfl rfl) ?_
   refine zw ?_
   refine ob' h fun r48 g49 h => ?_
   refine Ops.hd (ns := [0]) rfl rfl (Y24 (Zhq e45.prev (IntKind.i64.wrap ((IntKind.i64.wrap ((IntKind.i64.wrap ((IntKind.i64.wrap ((IntKind.i64.wrap ((IntKind.i64.wrap ((IntKind.i64.wrap (x26 + 1)) + 1)) + 1)) + 1)) + 1)) + 1)) + 1)) _ g49) rfl rfl) ?_
   refine Ops.ghost (Y21.back (x' := (Y8x.mk e45.id e45.room e45.author e45.kind e45.key e45.n e45.text r48.2 e45.time)) (ns := [1, 0]) rfl (Y29 g46).2.2 rfl rfl) ?_
   refine zw ?_
   refine ob' h fun e50 g51 h => ?_
   refine Ops.v rfl (Y5z (p := 0) Yaq.h rfl rfl rfl g51 rfl) ?_
   refine Ops.v rfl (Y60 (p := 0) Yal.h rfl rfl (Y29 g51).2.2 rfl) ?_
   refine Ops.hd (ns := [0]) rfl rfl (Y62 (e' := (Y8x.mk e50.id e50.room e50.author e50.kind e50.key e50.n e50.text e50.prev r48.1)) ld_2.h rfl rfl (One.val rfl) (Y29 g51).2.2 (fun _ => rfl) (fun _ => rfl) (fun _ => rfl)) ?_
   exact go
  exact go
 rintro ⟨x52, l53⟩ h
 replace h : Zhr x52 l53 = some r := h
 unfold Zhr at h
 refine zw ?_
 refine AW.ret ?_
 rw [← Option.some.inj h]
 exact ⟨[C.int x52], _, Y21.refl _, (.cons (.tmp rfl) .nil), [0], _, _, rfl, ⟨rfl, rfl⟩⟩

def Zhv (x30 : Int) (l31 : List Y90) : Option (Int × List Y90) := some (x30, l31)
def Zhw (l14 : List Y90) (x15 : Int) (x16 : Int) : Option ((List Y90 × Int × Int) ⊕ ((Int × List Y90))) := cond (decide (x16 < (l14.length : Int))) ((getI l14 x16).bind fun e18 => (getI (List.set l14 (Int.toNat x16) (Y90.mk x15 e18.events e18.parked)) x16).bind fun e20 => (Zht e20.events (IntKind.i64.wrap (x15 + 1))).bind fun r23 => (getI (List.set (List.set l14 (Int.toNat x16) (Y90.mk x15 e18.events e18.parked)) (Int.toNat x16) (Y90.mk e20.room r23.2 e20.parked)) x16).bind fun e25 => (Zht e25.parked r23.1).bind fun r28 => some (.inl ((List.set (List.set (List.set l14 (Int.toNat x16) (Y90.mk x15 e18.events e18.parked)) (Int.toNat x16) (Y90.mk e20.room r23.2 e20.parked)) (Int.toNat x16) (Y90.mk e25.room e25.events r28.2)), r28.1, (IntKind.i64.wrap (x16 + 1))))) (some (.inr (x15, l14)))
def Zhx (p0 : List Y90) (p1 : Int) : Option (Int × List Y90) := (iter (fun z32 => Zhw z32.1 z32.2.1 z32.2.2) big (p0, p1, 0)).bind fun (y33, y34) => Zhv y33 y34
set_option maxHeartbeats 1000000 in
theorem Zhy {w00 : Value} (p0 : List Y90) (p1 : Int) (r : Int × List Y90) (h : Zhx p0 p1 = some r) : Ok Tryz.prog 78 [C.val w00, C.int p1] [Obj.deep w00 139 Y9d Y9e 3 p0] (fun c qs => c = C.int r.1 ∧ qs = [Obj.deep w00 139 Y9d Y9e 3 r.2]) := by
 refine Ok.of_body (rs := [.tmp 4]) Tryz.func78 rfl rfl rfl rfl rfl fun X => ?_
 unfold Zhx at h
 refine AW.seq ?_
 refine AW.region ?_
 refine Ops.v rfl (Yr rfl rfl) ?_
 refine Ops.nil ?_
 refine AW.seq ?_
 refine AW.cut (τ := Int × List Y90) (fun (x30, l31) => ⟨[(1, C.int x30)], [Obj.deep w00 139 Y9d Y9e 3 l31]⟩) (fun (x30, l31) => Zhv x30 l31 = some r) ?_ ?_
 ·
  refine zw ?_
  refine AW.lp (v := ()) h (fun (l14, x15, x16) (_ : Unit) => ⟨[(0, C.val w00), (1, C.int x15), (5, C.int x16)], [Obj.deep w00 139 Y9d Y9e 3 l14]⟩) (gb [0]) ?_
  rintro ⟨l14, x15, x16⟩ _ y40 h
  refine zw ?_
  refine Ops.v rfl (Y5x (p := 0) Yb0.h rfl rfl rfl) ?_
  refine zw ?_
  refine cnd h (fun hb17 h => ?_) fun hb17 h => ?_
  ·
   refine AW.ct hb17 rfl ?_
   refine zw ?_
   refine ob' h fun e18 g19 h => ?_
   refine Ops.v rfl (Y5z (p := 0) Yb0.h rfl rfl rfl g19 rfl) ?_
   refine Ops.v rfl (Y60 (p := 0) Yat.h rfl rfl (Y29 g19).2.2 rfl) ?_
   refine Ops.hd (ns := [0]) rfl rfl (Y62 (e' := (Y90.mk x15 e18.events e18.parked)) ld_2.h rfl rfl (One.val rfl) (Y29 g19).2.2 (fun _ => rfl) (fun _ => rfl) (fun _ => rfl)) ?_
   refine zw ?_
   refine ob' h fun e20 g21 h => ?_
   refine Ops.v rfl (Y5z (p := 0) Yb0.h rfl rfl rfl g21 rfl) ?_
   refine Ops.v rfl (Y60 (p := 0) Yau.h rfl rfl (Y29 g21).2.2 rfl) ?_
   refine Ops.take (p := 0) rfl (Y29 g21).2.2 fun q22 => ?_
   refine Ops.v rfl (Y61 (p := 2) Yav.h rfl rfl (Y29 g21).2.2 rfl rfl) ?_
   refine zw ?_
   refine ob' h fun r23 g24 h => ?_
   refine Ops.hd (ns := [0]) rfl rfl (Y24 (Zhu e20.events (IntKind.i64.wrap (x15 + 1)) _ g24) rfl rfl) ?_
   refine Ops.ghost (Y21.back (x' := (Y90.mk e20.room r23.2 e20.parked)) (ns := [2, 0, 0]) rfl (Y29 g21).2.2 rfl rfl) ?_
   refine zw ?_
   refine ob' h fun e25 g26 h => ?_
   refine Ops.v rfl (Y5z (p := 0) Yb0.h rfl rfl rfl g26 rfl) ?_
   refine Ops.v rfl (Y60 (p := 0) Yaw.h rfl rfl (Y29 g26).2.2 rfl) ?_
   refine Ops.take (p := 0) rfl (Y29 g26).2.2 fun q27 => ?_
   refine Ops.v rfl (Y61 (p := 2) Yav.h rfl rfl (Y29 g26).2.2 rfl rfl) ?_
   refine zw ?_
   refine ob' h fun r28 g29 h => ?_
   refine Ops.hd (ns := [1]) rfl rfl (Y24 (Zhu e25.parked r23.1 _ g29) rfl rfl) ?_
   refine Ops.ghost (Y21.back (x' := (Y90.mk e25.room e25.events r28.2)) (ns := [2, 1, 0]) rfl (Y29 g26).2.2 rfl rfl) ?_
   exact go
  exact go
 rintro ⟨x30, l31⟩ h
 replace h : Zhv x30 l31 = some r := h
 unfold Zhv at h
 refine zw ?_
 refine AW.ret ?_
 rw [← Option.some.inj h]
 exact ⟨[C.int x30], _, Y21.refl _, (.cons (.tmp rfl) .nil), [0], _, _, rfl, ⟨rfl, rfl⟩⟩

def Zhz (x14 : Int) (l15 : List Y8z) : Option (Int × List Y8z) := some (x14, l15)
def Zi0 (l6 : List Y8z) (x7 : Int) (x8 : Int) : Option ((List Y8z × Int × Int) ⊕ ((Int × List Y8z))) := cond (decide (x8 < (l6.length : Int))) ((getI l6 x8).bind fun e10 => (getI (List.set l6 (Int.toNat x8) (Y8z.mk x7 e10.id)) x8).bind fun e12 => some (.inl ((List.set (List.set l6 (Int.toNat x8) (Y8z.mk x7 e10.id)) (Int.toNat x8) (Y8z.mk e12.room (IntKind.i64.wrap (x7 + 1)))), (IntKind.i64.wrap ((IntKind.i64.wrap (x7 + 1)) + 1)), (IntKind.i64.wrap (x8 + 1))))) (some (.inr (x7, l6)))
def Zi1 (p0 : List Y8z) (p1 : Int) : Option (Int × List Y8z) := (iter (fun z16 => Zi0 z16.1 z16.2.1 z16.2.2) big (p0, p1, 0)).bind fun (y17, y18) => Zhz y17 y18
set_option maxHeartbeats 1000000 in
theorem Zi2 {w00 : Value} (p0 : List Y8z) (p1 : Int) (r : Int × List Y8z) (h : Zi1 p0 p1 = some r) : Ok Tryz.prog 52 [C.val w00, C.int p1] [Obj.arr w00 142 Y99 2 p0] (fun c qs => c = C.int r.1 ∧ qs = [Obj.arr w00 142 Y99 2 r.2]) := by
 refine Ok.of_body (rs := [.tmp 4]) Tryz.func52 rfl rfl rfl rfl rfl fun X => ?_
 unfold Zi1 at h
 refine AW.seq ?_
 refine AW.region ?_
 refine Ops.v rfl (Yr rfl rfl) ?_
 refine Ops.nil ?_
 refine AW.seq ?_
 refine AW.cut (τ := Int × List Y8z) (fun (x14, l15) => ⟨[(1, C.int x14)], [Obj.arr w00 142 Y99 2 l15]⟩) (fun (x14, l15) => Zhz x14 l15 = some r) ?_ ?_
 ·
  refine zw ?_
  refine AW.lp (v := ()) h (fun (l6, x7, x8) (_ : Unit) => ⟨[(0, C.val w00), (1, C.int x7), (5, C.int x8)], [Obj.arr w00 142 Y99 2 l6]⟩) (gb [0]) ?_
  rintro ⟨l6, x7, x8⟩ _ y24 h
  refine zw ?_
  refine cnd h (fun hb9 h => ?_) fun hb9 h => ?_
  ·
   refine AW.ct hb9 rfl ?_
   refine zw ?_
   refine oi h fun e10 g11 h => ?_
   refine Ops.v rfl (Y2z (p := 0) Yb3.h rfl rfl (Y29 g11).2.2 rfl) ?_
   refine Ops.hd (ns := [0]) rfl rfl (Y34 (e' := (Y8z.mk x7 e10.id)) ld_2.h rfl rfl (One.val rfl) (Y29 g11).2.2 rfl rfl) ?_
   refine zw ?_
   refine oi h fun e12 g13 h => ?_
   refine Ops.v rfl (Y2z (p := 0) Yb5.h rfl rfl (Y29 g13).2.2 rfl) ?_
   refine Ops.hd (ns := [0]) rfl rfl (Y34 (e' := (Y8z.mk e12.room (IntKind.i64.wrap (x7 + 1)))) ld_2.h rfl rfl (One.val rfl) (Y29 g13).2.2 rfl rfl) ?_
   exact go
  exact go
 rintro ⟨x14, l15⟩ h
 replace h : Zhz x14 l15 = some r := h
 unfold Zhz at h
 refine zw ?_
 refine AW.ret ?_
 rw [← Option.some.inj h]
 exact ⟨[C.int x14], _, Y21.refl _, (.cons (.tmp rfl) .nil), [0], _, _, rfl, ⟨rfl, rfl⟩⟩

def Zi3 (p0 : Y91) (p1 : Int) : Option (Int × List Y90 × List Y8z) := (Zhx p0.rooms p1).bind fun r2 => (Zi1 p0.stream r2.1).bind fun r4 => some (r4.1, r2.2, r4.2)
theorem Zi4 {w00 : Value} {w01 : Value} (p0 : Y91) (p1 : Int) (r : Int × List Y90 × List Y8z) (h : Zi3 p0 p1 = some r) : Ok Tryz.prog 19 [C.agg [C.val w00, C.val w01], C.int p1] [Obj.deep w00 139 Y9d Y9e 3 p0.rooms, Obj.arr w01 142 Y99 2 p0.stream] (fun c qs => c = C.int r.1 ∧ qs = [Obj.deep w00 139 Y9d Y9e 3 r.2.1, Obj.arr w01 142 Y99 2 r.2.2]) := by
 refine Ok.of_body (rs := [.tmp 4]) Tryz.func19 rfl rfl rfl rfl rfl fun X => ?_
 unfold Zi3 at h
 refine zw ?_
 refine ox fun b1 => ?_
 refine zw ?_
 refine ob' h fun r2 g3 h => ?_
 refine Ops.hd (ns := [1]) rfl rfl (Y24 (Zhy p0.rooms p1 _ g3) rfl rfl) ?_
 refine zw ?_
 refine ob' h fun r4 g5 h => ?_
 refine Ops.hd (ns := [2]) rfl rfl (Y24 (Zi2 p0.stream r2.1 _ g5) rfl rfl) ?_
 refine zw ?_
 refine AW.ret ?_
 rw [← Option.some.inj h]
 exact ⟨[C.int r4.1], _, Y21.refl _, (.cons (.tmp rfl) .nil), [1, 0], _, _, rfl, ⟨rfl, rfl⟩⟩

def Zi5 (x18 : Int) (l19 : List Y92) : Option (Int × List Y92) := some (x18, l19)
def Zi6 (l8 : List Y92) (x9 : Int) (x10 : Int) : Option ((List Y92 × Int × Int) ⊕ ((Int × List Y92))) := cond (decide (x10 < (l8.length : Int))) ((getI l8 x10).bind fun e12 => (getI (List.set l8 (Int.toNat x10) (Y92.mk x9 e12.key e12.id)) x10).bind fun e14 => (getI (List.set (List.set l8 (Int.toNat x10) (Y92.mk x9 e12.key e12.id)) (Int.toNat x10) (Y92.mk e14.kind (IntKind.i64.wrap (x9 + 1)) e14.id)) x10).bind fun e16 => some (.inl ((List.set (List.set (List.set l8 (Int.toNat x10) (Y92.mk x9 e12.key e12.id)) (Int.toNat x10) (Y92.mk e14.kind (IntKind.i64.wrap (x9 + 1)) e14.id)) (Int.toNat x10) (Y92.mk e16.kind e16.key (IntKind.i64.wrap ((IntKind.i64.wrap (x9 + 1)) + 1)))), (IntKind.i64.wrap ((IntKind.i64.wrap ((IntKind.i64.wrap (x9 + 1)) + 1)) + 1)), (IntKind.i64.wrap (x10 + 1))))) (some (.inr (x9, l8)))
def Zi7 (p0 : List Y92) (p1 : Int) : Option (Int × List Y92) := (iter (fun z20 => Zi6 z20.1 z20.2.1 z20.2.2) big (p0, p1, 0)).bind fun (y21, y22) => Zi5 y21 y22
set_option maxHeartbeats 1000000 in
theorem Zi8 {w00 : Value} (p0 : List Y92) (p1 : Int) (r : Int × List Y92) (h : Zi7 p0 p1 = some r) : Ok Tryz.prog 20 [C.val w00, C.int p1] [Obj.arr w00 106 Y9f 3 p0] (fun c qs => c = C.int r.1 ∧ qs = [Obj.arr w00 106 Y9f 3 r.2]) := by
 refine Ok.of_body (rs := [.tmp 4]) Tryz.func20 rfl rfl rfl rfl rfl fun X => ?_
 unfold Zi7 at h
 refine AW.seq ?_
 refine AW.region ?_
 refine Ops.v rfl (Yr rfl rfl) ?_
 refine Ops.nil ?_
 refine AW.seq ?_
 refine AW.cut (τ := Int × List Y92) (fun (x18, l19) => ⟨[(1, C.int x18)], [Obj.arr w00 106 Y9f 3 l19]⟩) (fun (x18, l19) => Zi5 x18 l19 = some r) ?_ ?_
 ·
  refine zw ?_
  refine AW.lp (v := ()) h (fun (l8, x9, x10) (_ : Unit) => ⟨[(0, C.val w00), (1, C.int x9), (5, C.int x10)], [Obj.arr w00 106 Y9f 3 l8]⟩) (gb [0]) ?_
  rintro ⟨l8, x9, x10⟩ _ y28 h
  refine zw ?_
  refine cnd h (fun hb11 h => ?_) fun hb11 h => ?_
  ·
   refine AW.ct hb11 rfl ?_
   refine zw ?_
   refine oi h fun e12 g13 h => ?_
   refine Ops.v rfl (Y2z (p := 0) Ybh.h rfl rfl (Y29 g13).2.2 rfl) ?_
   refine Ops.hd (ns := [0]) rfl rfl (Y34 (e' := (Y92.mk x9 e12.key e12.id)) ld_2.h rfl rfl (One.val rfl) (Y29 g13).2.2 rfl rfl) ?_
   refine zw ?_
   refine oi h fun e14 g15 h => ?_
   refine Ops.v rfl (Y2z (p := 0) Ybi.h rfl rfl (Y29 g15).2.2 rfl) ?_
   refine Ops.hd (ns := [0]) rfl rfl (Y34 (e' := (Y92.mk e14.kind (IntKind.i64.wrap (x9 + 1)) e14.id)) ld_2.h rfl rfl (One.val rfl) (Y29 g15).2.2 rfl rfl) ?_
   refine zw ?_
   refine oi h fun e16 g17 h => ?_
   refine Ops.v rfl (Y2z (p := 0) Ybj.h rfl rfl (Y29 g17).2.2 rfl) ?_
   refine Ops.hd (ns := [0]) rfl rfl (Y34 (e' := (Y92.mk e16.kind e16.key (IntKind.i64.wrap ((IntKind.i64.wrap (x9 + 1)) + 1)))) ld_2.h rfl rfl (One.val rfl) (Y29 g17).2.2 rfl rfl) ?_
   exact go
  exact go
 rintro ⟨x18, l19⟩ h
 replace h : Zi5 x18 l19 = some r := h
 unfold Zi5 at h
 refine zw ?_
 refine AW.ret ?_
 rw [← Option.some.inj h]
 exact ⟨[C.int x18], _, Y21.refl _, (.cons (.tmp rfl) .nil), [0], _, _, rfl, ⟨rfl, rfl⟩⟩

def Zi9 (x15 : Int) : Option Int := some x15
def Zia (p0 : List Y92) (x7 : Int) (x8 : Int) : Option ((Int × Int) ⊕ (Int ⊕ Int)) := cond (decide (x8 < (p0.length : Int))) ((getI p0 x8).bind fun e10 => cond (e10.kind != x7) (some (.inr (.inl (-1)))) (cond (e10.key != (IntKind.i64.wrap (x7 + 1))) (some (.inr (.inl (-1)))) (cond (e10.id != (IntKind.i64.wrap ((IntKind.i64.wrap (x7 + 1)) + 1))) (some (.inr (.inl (-1)))) (some (.inl ((IntKind.i64.wrap ((IntKind.i64.wrap ((IntKind.i64.wrap (x7 + 1)) + 1)) + 1)), (IntKind.i64.wrap (x8 + 1)))))))) (some (.inr (.inr x7)))
def Zib (p0 : List Y92) (p1 : Int) : Option Int := (iter (fun z16 => Zia p0 z16.1 z16.2) big (p1, 0)).bind (fun z19 => match z19 with | .inl y17 => some y17 | .inr y18 => Zi9 y18)
set_option maxHeartbeats 1000000 in
instance Zic (p0 : List Y92) (p1 : Int) : Sp Tryz.prog 21 [C.im Y9f 3 p0, C.int p1] (Zib p0 p1) C.int := sp Tryz.func21 rfl rfl fun r X h => by
 unfold Zib at h
 refine zw ?_
 refine AW.lp (v := ()) h (fun (x7, x8) (_ : Unit) => ⟨[(0, C.im Y9f 3 p0), (1, C.int x7), (5, C.int x8)], []⟩) (gb []) ?_
 rintro ⟨x7, x8⟩ _ y25 h
 exact go

def Zid (p0 : THub) (p1 : Int) (p2 : Int) (r7 : List Y92) (r14 : List Y92) (x43 : Bool) : Option Bool := cond x43 (some false) ((Zi7 r14 1).bind fun r45 => (Zib r45.2 1).bind fun r47 => cond (decide (r47 < 0)) (some false) (cond (r47 != r45.1) (some false) ((Z15 p0).bind fun r51 => (Zgn r51 p1 p2).bind fun r53 => (Zgt r53 r7).bind fun r55 => cond r55 ((Zib r45.2 1).bind fun r58 => cond (decide (r58 < 0)) (some false) (cond (r58 != r45.1) (some false) (some true))) (some false))))
def Zie (p0 : THub) (p1 : Int) (p2 : Int) : Option Bool := (Zh p0 1048576).bind fun r2 => cond (decide (r2 < 0)) (some true) ((Z15 p0).bind fun r5 => (Z77 r5 p1 p2).bind fun r7 => (Z15 p0).bind fun r9 => (Zgn r9 p1 p2).bind fun r14 => (Zgt r14 r7).bind fun r18 => cond r18 ((Z15 p0).bind fun r33 => (Zhh r9 r33).bind fun r35 => cond r35 ((Zi3 r9 1).bind fun r38 => cond (decide (r38.1 < 0)) (Zid p0 p1 p2 r7 r14 true) ((Zgt r14 r7).bind fun r41 => Zid p0 p1 p2 r7 r14 (!r41))) (some false)) (some false))
set_option maxHeartbeats 1000000 in
instance Zif (p0 : THub) (p1 : Int) (p2 : Int) : Sp Tryz.prog 3 [C.agg [C.im Y98 3 p0.rooms, C.im Y99 2 p0.stream], C.int p1, C.int p2] (Zie p0 p1 p2) C.bool := sp Tryz.func3 rfl rfl fun r X h => by
 unfold Zie at h
 refine zw ?_
 refine ox fun b1 => ?_
 refine zw ?_
 refine oc h fun r2 g3 h => ?_
 refine zw ?_
 refine cnd h (fun hb4 h => go) fun hb4 h => ?_
 refine AW.cf hb4 rfl ?_
 refine zw ?_
 refine oc h fun r5 g6 h => ?_
 refine zw ?_
 refine oc h fun r7 g8 h => ?_
 refine zw ?_
 refine ob' h fun r9 g10 h => ?_
 refine Ops.h (ns := []) rfl rfl (Y23 (Z16 _ _ g10) rfl rfl) ?_
 rintro _ _ ⟨_, ⟨v11, v12, rfl, rfl⟩, rfl⟩
 refine Ops.h (ns := []) rfl rfl (Y1p (cs := [C.val s0, C.val s0]) Yba (Y43 rfl rfl) rfl) ?_
 rintro _ _ ⟨b13, rfl, rfl⟩
 refine Ops.hd (ns := [0]) rfl rfl (Y1u (gs := [C.val v11, C.val v12]) Ybf.h rfl rfl rfl rfl rfl) ?_
 refine zw ?_
 refine ob' h fun r14 g15 h => ?_
 refine Ops.h (ns := [1, 1]) rfl rfl (Y23 (Ok.lend (Zgo r9 p1 p2 _ g15) (FrzT.cons (os := [_, _]) (Frz.agg (FrzL.cons (os := [_]) (Frz.deep Yaz) (FrzL.cons (os := [_]) Frz.arr (FrzL.nil)))) (FrzT.cons (os := []) (Frz.same _) (FrzT.cons (os := []) (Frz.same _) (FrzT.nil)))) (by rintro _ _ ⟨_, rfl, rfl⟩; exact ⟨(Y45.val _), Y49 (Y47.arr Ybr) (Y48)⟩)) rfl rfl) ?_
 rintro _ _ ⟨_, ⟨_, ⟨v16, rfl, rfl⟩, rfl⟩, rfl⟩
 refine zw ?_
 refine ob' h fun r18 g19 h => ?_
 refine Ops.hd (ns := [0]) rfl rfl (Y24 (Ok.lendE ((Zgu r14 r7).h _ g19) (FrzT.cons (os := [_]) Frz.arr (FrzT.cons (os := []) (Frz.same _) (FrzT.nil))) (Y45.val _)) rfl rfl) ?_
 refine zw ?_
 refine cnd h (fun hb20 h => ?_) fun hb20 h => ?_
 ·
  refine AW.cond rfl (fun hn => absurd ((Y3v hb20).symm.trans hn) (by decide)) (fun _ => ?_)
  refine zw ?_
  refine AW.regionD (L := [0, 1]) (Lt := []) (k := dec [1,4,8,11,12]) (ns := [0, 2, 2]) (by kernel_rfl) (by kernel_rfl) (by kernel_rfl) (by kernel_rfl) rfl ?_
  refine zw ?_
  refine dc h fun r33 g34 h => ?_
  refine zw ?_
  refine ob' h fun r35 g36 h => ?_
  refine Y3o.h (ns := [0, 0]) rfl rfl rfl (Y24 (Ok.lendE ((Zhi r9 r33).h _ g36) (FrzT.cons (os := [_, _]) (Frz.agg (FrzL.cons (os := [_]) (Frz.deep Yaz) (FrzL.cons (os := [_]) Frz.arr (FrzL.nil)))) (FrzT.cons (os := []) (Frz.same _) (FrzT.nil))) (Y45.val _)) rfl rfl) ?_
  rintro _ _ ⟨rfl, rfl⟩
  refine zw ?_
  refine cnd h (fun hb37 h => ?_) fun hb37 h => ?_
  ·
   refine AW.cond rfl (fun hn => absurd ((Y3v hb37).symm.trans hn) (by decide)) (fun _ => ?_)
   refine zw ?_
   refine ob' h fun r38 g39 h => ?_
   refine Ops.hd (ns := [3, 3]) rfl rfl (Y24 (Zi4 r9 1 _ g39) rfl rfl) ?_
   refine Ops.v rfl (Yr rfl rfl) ?_
   refine Ops.nil ?_
   refine AW.seq ?_
   refine AW.seq ?_
   refine AW.cut (τ := Bool) (fun x43 => ⟨[(1, C.int p1), (2, C.int p2), (3, pt b1), (8, C.im Y9f 3 r7), (10, C.val v16), (50, C.bool x43)], [Obj.box b1 25 [C.im Y98 3 p0.rooms, C.im Y99 2 p0.stream], Obj.arr v16 106 Y9f 3 r14]⟩) (fun x43 => Zid p0 p1 p2 r7 r14 x43 = some r) ?_ ?_
   ·
    refine zw ?_
    refine cnd h (fun hb40 h => go) fun hb40 h => ?_
    refine zw ?_
    refine ob' h fun r41 g42 h => ?_
    refine Ops.ghd (ns := [2]) rfl rfl rfl rfl hb40 rfl (Y24 (Ok.lendE ((Zgu r14 r7).h _ g42) (FrzT.cons (os := [_]) Frz.arr (FrzT.cons (os := []) (Frz.same _) (FrzT.nil))) (Y45.val _)) rfl rfl) ?_
    exact go
   intro x43 h
   replace h : Zid p0 p1 p2 r7 r14 x43 = some r := h
   unfold Zid at h
   refine cnd h (fun hb44 h => go) fun hb44 h => ?_
   refine AW.cf hb44 rfl ?_
   refine zw ?_
   refine ob' h fun r45 g46 h => ?_
   refine Ops.hd (ns := [1]) rfl rfl (Y24 (Zi8 r14 1 _ g46) rfl rfl) ?_
   refine zw ?_
   refine ob' h fun r47 g48 h => ?_
   refine Ops.hd (ns := [0]) rfl rfl (Y24 (Ok.lendE ((Zic r45.2 1).h _ g48) (FrzT.cons (os := [_]) Frz.arr (FrzT.cons (os := []) (Frz.same _) (FrzT.nil))) (Y45.val _)) rfl rfl) ?_
   refine zw ?_
   refine cnd h (fun hb49 h => go) fun hb49 h => ?_
   refine AW.cf hb49 rfl ?_
   refine zw ?_
   refine cnd h (fun hb50 h => go) fun hb50 h => ?_
   refine AW.cf hb50 rfl ?_
   refine zw ?_
   refine oc h fun r51 g52 h => ?_
   refine zw ?_
   refine oc h fun r53 g54 h => ?_
   refine zw ?_
   refine oc h fun r55 g56 h => ?_
   refine zw ?_
   refine cnd h (fun hb57 h => ?_) fun hb57 h => ?_
   ·
    refine AW.cond rfl (fun hn => absurd ((Y3v hb57).symm.trans hn) (by decide)) (fun _ => ?_)
    refine zw ?_
    refine ob' h fun r58 g59 h => ?_
    refine Ops.hd (ns := [0]) rfl rfl (Y24 (Ok.lendE ((Zic r45.2 1).h _ g59) (FrzT.cons (os := [_]) Frz.arr (FrzT.cons (os := []) (Frz.same _) (FrzT.nil))) (Y45.val _)) rfl rfl) ?_
    exact go
   exact go
  exact go
 exact go

end Go.Proofs.YtbgichfjcnibpaaGreat
