/- Printed by gen.py: plain functions for Go functions, and that the walks keep to them. -/
import Derived.Test.YtbgichfjcnibpaaGreatVQ7
set_option autoImplicit false
set_option linter.unusedVariables false
set_option linter.unusedSimpArgs false
set_option maxHeartbeats 1000000
set_option maxRecDepth 100000
namespace Go.Proofs.YtbgichfjcnibpaaGreat
open Go Go.Abs
attribute [local irreducible] AW Ops OpsD Y3n
def Zjr (x52 : Int) (l53 : List Y8z) : Option (Int × List Y8z) := some (x52, l53)
def Zjs (l25 : List Y8z) (x26 : Int) (x27 : Int) : Option ((List Y8z × Int × Int) ⊕ ((Int × List Y8z))) := cond (decide (x27 < (l25.length : Int))) ((getI l25 x27).bind fun e29 => (getI (List.set l25 (Int.toNat x27) (Y8z.mk x26 e29.room e29.author e29.kind e29.key e29.n e29.text e29.prev e29.time)) x27).bind fun e31 => (getI (List.set (List.set l25 (Int.toNat x27) (Y8z.mk x26 e29.room e29.author e29.kind e29.key e29.n e29.text e29.prev e29.time)) (Int.toNat x27) (Y8z.mk e31.id (IntKind.i64.wrap (x26 + 1)) e31.author e31.kind e31.key e31.n e31.text e31.prev e31.time)) x27).bind fun e33 => (getI (List.set (List.set (List.set l25 (Int.toNat x27) (Y8z.mk x26 e29.room e29.author e29.kind e29.key e29.n e29.text e29.prev e29.time)) (Int.toNat x27) (Y8z.mk e31.id (IntKind.i64.wrap (x26 + 1)) e31.author e31.kind e31.key e31.n e31.text e31.prev e31.time)) (Int.toNat x27) (Y8z.mk e33.id e33.room (IntKind.i64.wrap ((IntKind.i64.wrap (x26 + 1)) + 1)) e33.kind e33.key e33.n e33.text e33.prev e33.time)) x27).bind fun e35 => (getI (List.set (List.set (List.set (List.set l25 (Int.toNat x27) (Y8z.mk x26 e29.room e29.author e29.kind e29.key e29.n e29.text e29.prev e29.time)) (Int.toNat x27) (Y8z.mk e31.id (IntKind.i64.wrap (x26 + 1)) e31.author e31.kind e31.key e31.n e31.text e31.prev e31.time)) (Int.toNat x27) (Y8z.mk e33.id e33.room (IntKind.i64.wrap ((IntKind.i64.wrap (x26 + 1)) + 1)) e33.kind e33.key e33.n e33.text e33.prev e33.time)) (Int.toNat x27) (Y8z.mk e35.id e35.room e35.author (IntKind.i64.wrap ((IntKind.i64.wrap ((IntKind.i64.wrap (x26 + 1)) + 1)) + 1)) e35.key e35.n e35.text e35.prev e35.time)) x27).bind fun e37 => (getI (List.set (List.set (List.set (List.set (List.set l25 (Int.toNat x27) (Y8z.mk x26 e29.room e29.author e29.kind e29.key e29.n e29.text e29.prev e29.time)) (Int.toNat x27) (Y8z.mk e31.id (IntKind.i64.wrap (x26 + 1)) e31.author e31.kind e31.key e31.n e31.text e31.prev e31.time)) (Int.toNat x27) (Y8z.mk e33.id e33.room (IntKind.i64.wrap ((IntKind.i64.wrap (x26 + 1)) + 1)) e33.kind e33.key e33.n e33.text e33.prev e33.time)) (Int.toNat x27) (Y8z.mk e35.id e35.room e35.author (IntKind.i64.wrap ((IntKind.i64.wrap ((IntKind.i64.wrap (x26 + 1)) + 1)) + 1)) e35.key e35.n e35.text e35.prev e35.time)) (Int.toNat x27) (Y8z.mk e37.id e37.room e37.author e37.kind (IntKind.i64.wrap ((IntKind.i64.wrap ((IntKind.i64.wrap ((IntKind.i64.wrap (x26 + 1)) + 1)) + 1)) + 1)) e37.n e37.text e37.prev e37.time)) x27).bind fun e39 => (Zjl (IntKind.i64.wrap ((IntKind.i64.wrap ((IntKind.i64.wrap ((IntKind.i64.wrap ((IntKind.i64.wrap ((IntKind.i64.wrap (x26 + 1)) + 1)) + 1)) + 1)) + 1)) + 1))).bind fun r41 => (getI (List.set (List.set (List.set (List.set (List.set (List.set l25 (Int.toNat x27) (Y8z.mk x26 e29.room e29.author e29.kind e29.key e29.n e29.text e29.prev e29.time)) (Int.toNat x27) (Y8z.mk e31.id (IntKind.i64.wrap (x26 + 1)) e31.author e31.kind e31.key e31.n e31.text e31.prev e31.time)) (Int.toNat x27) (Y8z.mk e33.id e33.room (IntKind.i64.wrap ((IntKind.i64.wrap (x26 + 1)) + 1)) e33.kind e33.key e33.n e33.text e33.prev e33.time)) (Int.toNat x27) (Y8z.mk e35.id e35.room e35.author (IntKind.i64.wrap ((IntKind.i64.wrap ((IntKind.i64.wrap (x26 + 1)) + 1)) + 1)) e35.key e35.n e35.text e35.prev e35.time)) (Int.toNat x27) (Y8z.mk e37.id e37.room e37.author e37.kind (IntKind.i64.wrap ((IntKind.i64.wrap ((IntKind.i64.wrap ((IntKind.i64.wrap (x26 + 1)) + 1)) + 1)) + 1)) e37.n e37.text e37.prev e37.time)) (Int.toNat x27) (Y8z.mk e39.id e39.room e39.author e39.kind e39.key (IntKind.i64.wrap ((IntKind.i64.wrap ((IntKind.i64.wrap ((IntKind.i64.wrap ((IntKind.i64.wrap (x26 + 1)) + 1)) + 1)) + 1)) + 1)) e39.text e39.prev e39.time)) x27).bind fun e43 => (getI (List.set (List.set (List.set (List.set (List.set (List.set (List.set l25 (Int.toNat x27) (Y8z.mk x26 e29.room e29.author e29.kind e29.key e29.n e29.text e29.prev e29.time)) (Int.toNat x27) (Y8z.mk e31.id (IntKind.i64.wrap (x26 + 1)) e31.author e31.kind e31.key e31.n e31.text e31.prev e31.time)) (Int.toNat x27) (Y8z.mk e33.id e33.room (IntKind.i64.wrap ((IntKind.i64.wrap (x26 + 1)) + 1)) e33.kind e33.key e33.n e33.text e33.prev e33.time)) (Int.toNat x27) (Y8z.mk e35.id e35.room e35.author (IntKind.i64.wrap ((IntKind.i64.wrap ((IntKind.i64.wrap (x26 + 1)) + 1)) + 1)) e35.key e35.n e35.text e35.prev e35.time)) (Int.toNat x27) (Y8z.mk e37.id e37.room e37.author e37.kind (IntKind.i64.wrap ((IntKind.i64.wrap ((IntKind.i64.wrap ((IntKind.i64.wrap (x26 + 1)) + 1)) + 1)) + 1)) e37.n e37.text e37.prev e37.time)) (Int.toNat x27) (Y8z.mk e39.id e39.room e39.author e39.kind e39.key (IntKind.i64.wrap ((IntKind.i64.wrap ((IntKind.i64.wrap ((IntKind.i64.wrap ((IntKind.i64.wrap (x26 + 1)) + 1)) + 1)) + 1)) + 1)) e39.text e39.prev e39.time)) (Int.toNat x27) (Y8z.mk e43.id e43.room e43.author e43.kind e43.key e43.n r41 e43.prev e43.time)) x27).bind fun e45 => (Zjp e45.prev (IntKind.i64.wrap ((IntKind.i64.wrap ((IntKind.i64.wrap ((IntKind.i64.wrap ((IntKind.i64.wrap ((IntKind.i64.wrap ((IntKind.i64.wrap (x26 + 1)) + 1)) + 1)) + 1)) + 1)) + 1)) + 1))).bind fun r48 => (getI (List.set (List.set (List.set (List.set (List.set (List.set (List.set (List.set l25 (Int.toNat x27) (Y8z.mk x26 e29.room e29.author e29.kind e29.key e29.n e29.text e29.prev e29.time)) (Int.toNat x27) (Y8z.mk e31.id (IntKind.i64.wrap (x26 + 1)) e31.author e31.kind e31.key e31.n e31.text e31.prev e31.time)) (Int.toNat x27) (Y8z.mk e33.id e33.room (IntKind.i64.wrap ((IntKind.i64.wrap (x26 + 1)) + 1)) e33.kind e33.key e33.n e33.text e33.prev e33.time)) (Int.toNat x27) (Y8z.mk e35.id e35.room e35.author (IntKind.i64.wrap ((IntKind.i64.wrap ((IntKind.i64.wrap (x26 + 1)) + 1)) + 1)) e35.key e35.n e35.text e35.prev e35.time)) (Int.toNat x27) (Y8z.mk e37.id e37.room e37.author e37.kind (IntKind.i64.wrap ((IntKind.i64.wrap ((IntKind.i64.wrap ((IntKind.i64.wrap (x26 + 1)) + 1)) + 1)) + 1)) e37.n e37.text e37.prev e37.time)) (Int.toNat x27) (Y8z.mk e39.id e39.room e39.author e39.kind e39.key (IntKind.i64.wrap ((IntKind.i64.wrap ((IntKind.i64.wrap ((IntKind.i64.wrap ((IntKind.i64.wrap (x26 + 1)) + 1)) + 1)) + 1)) + 1)) e39.text e39.prev e39.time)) (Int.toNat x27) (Y8z.mk e43.id e43.room e43.author e43.kind e43.key e43.n r41 e43.prev e43.time)) (Int.toNat x27) (Y8z.mk e45.id e45.room e45.author e45.kind e45.key e45.n e45.text r48.2 e45.time)) x27).bind fun e50 => some (.inl ((List.set (List.set (List.set (List.set (List.set (List.set (List.set (List.set (List.set l25 (Int.toNat x27) (Y8z.mk x26 e29.room e29.author e29.kind e29.key e29.n e29.text e29.prev e29.time)) (Int.toNat x27) (Y8z.mk e31.id (IntKind.i64.wrap (x26 + 1)) e31.author e31.kind e31.key e31.n e31.text e31.prev e31.time)) (Int.toNat x27) (Y8z.mk e33.id e33.room (IntKind.i64.wrap ((IntKind.i64.wrap (x26 + 1)) + 1)) e33.kind e33.key e33.n e33.text e33.prev e33.time)) (Int.toNat x27) (Y8z.mk e35.id e35.room e35.author (IntKind.i64.wrap ((IntKind.i64.wrap ((IntKind.i64.wrap (x26 + 1)) + 1)) + 1)) e35.key e35.n e35.text e35.prev e35.time)) (Int.toNat x27) (Y8z.mk e37.id e37.room e37.author e37.kind (IntKind.i64.wrap ((IntKind.i64.wrap ((IntKind.i64.wrap ((IntKind.i64.wrap (x26 + 1)) + 1)) + 1)) + 1)) e37.n e37.text e37.prev e37.time)) (Int.toNat x27) (Y8z.mk e39.id e39.room e39.author e39.kind e39.key (IntKind.i64.wrap ((IntKind.i64.wrap ((IntKind.i64.wrap ((IntKind.i64.wrap ((IntKind.i64.wrap (x26 + 1)) + 1)) + 1)) + 1)) + 1)) e39.text e39.prev e39.time)) (Int.toNat x27) (Y8z.mk e43.id e43.room e43.author e43.kind e43.key e43.n r41 e43.prev e43.time)) (Int.toNat x27) (Y8z.mk e45.id e45.room e45.author e45.kind e45.key e45.n e45.text r48.2 e45.time)) (Int.toNat x27) (Y8z.mk e50.id e50.room e50.author e50.kind e50.key e50.n e50.text e50.prev r48.1)), (IntKind.i64.wrap (r48.1 + 1)), (IntKind.i64.wrap (x27 + 1))))) (some (.inr (x26, l25)))
def Zjt (p0 : List Y8z) (p1 : Int) : Option (Int × List Y8z) := (iter (fun z54 => Zjs z54.1 z54.2.1 z54.2.2) big (p0, p1, 0)).bind fun (y55, y56) => Zjr y55 y56
theorem Zju {w00 : Value} (p0 : List Y8z) (p1 : Int) (r : Int × List Y8z) (h : Zjt p0 p1 = some r) : Ok Tryz.prog 146 [cV w00, cI p1] [Obj.deep w00 136 Y9e Y9f 9 p0] (fun c qs => c = cI r.1 ∧ qs = [Obj.deep w00 136 Y9e Y9f 9 r.2]) := by
 refine Ok.of_body (rs := [.tmp 4]) Tryz.func146 rfl rfl rfl rfl rfl fun X => ?_
 unfold Zjt at h
 refine AW.seq ?_
 refine AW.region ?_
 refine Ops.v rfl (Yr rfl rfl) ?_
 refine Ops.nil ?_
 refine AW.seq ?_
 refine AW.cut (τ := Int × List Y8z) (fun (x52, l53) => ⟨[(1, cI x52)], [Obj.deep w00 136 Y9e Y9f 9 l53]⟩) (fun (x52, l53) => Zjr x52 l53 = some r) ?_ ?_
 ·
  refine zw ?_
  refine AW.lp (v := ()) h (fun (l25, x26, x27) (_ : Unit) => ⟨[(0, cV w00), (1, cI x26), (5, cI x27)], [Obj.deep w00 136 Y9e Y9f 9 l25]⟩) (gb [0]) ?_
  rintro ⟨l25, x26, x27⟩ _ y62 h
  refine zw ?_
  refine Ops.v rfl (Y5w (p := 0) Yax.h rfl rfl rfl) ?_
  refine zw ?_
  refine cnd h (fun hb28 h => ?_) fun hb28 h => ?_
  ·
   refine AW.ct hb28 rfl ?_
   refine zw ?_
   refine ob' h fun e29 g30 h => ?_
   refine Ops.v rfl (Y5y (p := 0) Yax.h rfl rfl rfl g30 rfl) ?_
   refine Ops.v rfl (Y5z (p := 0) Yae.h rfl rfl (Y29 g30).2.2 rfl) ?_
   refine Ops.hd (ns := [0]) rfl rfl (Y61 (e' := (Y8z.mk x26 e29.room e29.author e29.kind e29.key e29.n e29.text e29.prev e29.time)) ld_2.h rfl rfl (One.val rfl) (Y29 g30).2.2 (fun _ => rfl) (fun _ => rfl) (fun _ => rfl)) ?_
   refine zw ?_
   refine ob' h fun e31 g32 h => ?_
   refine Ops.v rfl (Y5y (p := 0) Yax.h rfl rfl rfl g32 rfl) ?_
   refine Ops.v rfl (Y5z (p := 0) Yag.h rfl rfl (Y29 g32).2.2 rfl) ?_
   refine Ops.hd (ns := [0]) rfl rfl (Y61 (e' := (Y8z.mk e31.id (IntKind.i64.wrap (x26 + 1)) e31.author e31.kind e31.key e31.n e31.text e31.prev e31.time)) ld_2.h rfl rfl (One.val rfl) (Y29 g32).2.2 (fun _ => rfl) (fun _ => rfl) (fun _ => rfl)) ?_
   refine zw ?_
   refine ob' h fun e33 g34 h => ?_
   refine Ops.v rfl (Y5y (p := 0) Yax.h rfl rfl rfl g34 rfl) ?_
   refine Ops.v rfl (Y5z (p := 0) Yai.h rfl rfl (Y29 g34).2.2 rfl) ?_
   refine Ops.hd (ns := [0]) rfl rfl (Y61 (e' := (Y8z.mk e33.id e33.room (IntKind.i64.wrap ((IntKind.i64.wrap (x26 + 1)) + 1)) e33.kind e33.key e33.n e33.text e33.prev e33.time)) ld_2.h rfl rfl (One.val rfl) (Y29 g34).2.2 (fun _ => rfl) (fun _ => rfl) (fun _ => rfl)) ?_
   refine zw ?_
   refine ob' h fun e35 g36 h => ?_
   refine Ops.v rfl (Y5y (p := 0) Yax.h rfl rfl rfl g36 rfl) ?_
   refine Ops.v rfl (Y5z (p := 0) Yak.h rfl rfl (Y29 g36).2.2 rfl) ?_
   refine Ops.hd (ns := [0]) rfl rfl (Y61 (e' := (Y8z.mk e35.id e35.room e35.author (IntKind.i64.wrap ((IntKind.i64.wrap ((IntKind.i64.wrap (x26 + 1)) + 1)) + 1)) e35.key e35.n e35.text e35.prev e35.time)) ld_2.h rfl rfl (One.val rfl) (Y29 g36).2.2 (fun _ => rfl) (fun _ => rfl) (fun _ => rfl)) ?_
   refine zw ?_
   refine ob' h fun e37 g38 h => ?_
   refine Ops.v rfl (Y5y (p := 0) Yax.h rfl rfl rfl g38 rfl) ?_
   refine Ops.v rfl (Y5z (p := 0) Yam.h rfl rfl (Y29 g38).2.2 rfl) ?_
   refine Ops.hd (ns := [0]) rfl rfl (Y61 (e' := (Y8z.mk e37.id e37.room e37.author e37.kind (IntKind.i64.wrap ((IntKind.i64.wrap ((IntKind.i64.wrap ((IntKind.i64.wrap (x26 + 1)) + 1)) + 1)) + 1)) e37.n e37.text e37.prev e37.time)) ld_2.h rfl rfl (One.val rfl) (Y29 g38).2.2 (fun _ => rfl) (fun _ => rfl) (fun _ => rfl)) ?_
   refine zw ?_
   refine ob' h fun e39 g40 h => ?_
   refine Ops.v rfl (Y5y (p := 0) Yax.h rfl rfl rfl g40 rfl) ?_
   refine Ops.v rfl (Y5z (p := 0) Yao.h rfl rfl (Y29 g40).2.2 rfl) ?_
   refine Ops.hd (ns := [0]) rfl rfl (Y61 (e' := (Y8z.mk e39.id e39.room e39.author e39.kind e39.key (IntKind.i64.wrap ((IntKind.i64.wrap ((IntKind.i64.wrap ((IntKind.i64.wrap ((IntKind.i64.wrap (x26 + 1)) + 1)) + 1)) + 1)) + 1)) e39.text e39.prev e39.time)) ld_2.h rfl rfl (One.val rfl) (Y29 g40).2.2 (fun _ => rfl) (fun _ => rfl) (fun _ => rfl)) ?_
   refine zw ?_
   refine oc h fun r41 g42 h => ?_
   refine ob' h fun e43 g44 h => ?_
   refine Ops.v rfl (Y5y (p := 0) Yax.h rfl rfl rfl g44 rfl) ?_
   refine Ops.v rfl (Y5z (p := 0) Yap.h rfl rfl (Y29 g44).2.2 rfl) ?_
   refine Ops.hd (ns := [0]) rfl rfl (Y61 (e' := (Y8z.mk e43.id e43.room e43.author e43.kind e43.key e43.n r41 e43.prev e43.time)) ld_9.h rfl rfl (One.val rfl) (Y29 g44).2.2 (fun _ => rfl) (fun _ => rfl) (fun _ => rfl)) ?_
   refine zw ?_
   refine ob' h fun e45 g46 h => ?_
   refine Ops.v rfl (Y5y (p := 0) Yax.h rfl rfl rfl g46 rfl) ?_
   refine Ops.v rfl (Y5z (p := 0) Yaq.h rfl rfl (Y29 g46).2.2 rfl) ?_
   refine Ops.take (p := 0) rfl (Y29 g46).2.2 fun q47 => ?_
   refine Ops.v rfl (Y60 (p := 1) Y9y.h rfl rfl (Y29 g46).2.2 rfl rfl) ?_
   refine zw ?_
   refine ob' h fun r48 g49 h => ?_
   refine Ops.hd (ns := [0]) rfl rfl (Y24 (Zjq e45.prev (IntKind.i64.wrap ((IntKind.i64.wrap ((IntKind.i64.wrap ((IntKind.i64.wrap ((IntKind.i64.wrap ((IntKind.i64.wrap ((IntKind.i64.wrap (x26 + 1)) + 1)) + 1)) + 1)) + 1)) + 1)) + 1)) _ g49) rfl rfl) ?_
   refine Ops.ghost (Y21.back (x' := (Y8z.mk e45.id e45.room e45.author e45.kind e45.key e45.n e45.text r48.2 e45.time)) (ns := [1, 0]) rfl (Y29 g46).2.2 rfl rfl) ?_
   refine zw ?_
   refine ob' h fun e50 g51 h => ?_
   refine Ops.v rfl (Y5y (p := 0) Yax.h rfl rfl rfl g51 rfl) ?_
   refine Ops.v rfl (Y5z (p := 0) Yas.h rfl rfl (Y29 g51).2.2 rfl) ?_
   refine Ops.hd (ns := [0]) rfl rfl (Y61 (e' := (Y8z.mk e50.id e50.room e50.author e50.kind e50.key e50.n e50.text e50.prev r48.1)) ld_2.h rfl rfl (One.val rfl) (Y29 g51).2.2 (fun _ => rfl) (fun _ => rfl) (fun _ => rfl)) ?_
   exact go
  exact go
 rintro ⟨x52, l53⟩ h
 replace h : Zjr x52 l53 = some r := h
 unfold Zjr at h
 refine zw ?_
 refine AW.ret ?_
 rw [← Wj h]
 exact ⟨[cI x52], _, Y21.refl _, (.cons (.tmp rfl) .nil), [0], _, _, rfl, ⟨rfl, rfl⟩⟩

def Zjv (x30 : Int) (l31 : List Y92) : Option (Int × List Y92) := some (x30, l31)
def Zjw (l14 : List Y92) (x15 : Int) (x16 : Int) : Option ((List Y92 × Int × Int) ⊕ ((Int × List Y92))) := cond (decide (x16 < (l14.length : Int))) ((getI l14 x16).bind fun e18 => (getI (List.set l14 (Int.toNat x16) (Y92.mk x15 e18.events e18.parked)) x16).bind fun e20 => (Zjt e20.events (IntKind.i64.wrap (x15 + 1))).bind fun r23 => (getI (List.set (List.set l14 (Int.toNat x16) (Y92.mk x15 e18.events e18.parked)) (Int.toNat x16) (Y92.mk e20.room r23.2 e20.parked)) x16).bind fun e25 => (Zjt e25.parked r23.1).bind fun r28 => some (.inl ((List.set (List.set (List.set l14 (Int.toNat x16) (Y92.mk x15 e18.events e18.parked)) (Int.toNat x16) (Y92.mk e20.room r23.2 e20.parked)) (Int.toNat x16) (Y92.mk e25.room e25.events r28.2)), r28.1, (IntKind.i64.wrap (x16 + 1))))) (some (.inr (x15, l14)))
def Zjx (p0 : List Y92) (p1 : Int) : Option (Int × List Y92) := (iter (fun z32 => Zjw z32.1 z32.2.1 z32.2.2) big (p0, p1, 0)).bind fun (y33, y34) => Zjv y33 y34
theorem Zjy {w00 : Value} (p0 : List Y92) (p1 : Int) (r : Int × List Y92) (h : Zjx p0 p1 = some r) : Ok Tryz.prog 78 [cV w00, cI p1] [Obj.deep w00 139 Y9h Y9i 3 p0] (fun c qs => c = cI r.1 ∧ qs = [Obj.deep w00 139 Y9h Y9i 3 r.2]) := by
 refine Ok.of_body (rs := [.tmp 4]) Tryz.func78 rfl rfl rfl rfl rfl fun X => ?_
 unfold Zjx at h
 refine AW.seq ?_
 refine AW.region ?_
 refine Ops.v rfl (Yr rfl rfl) ?_
 refine Ops.nil ?_
 refine AW.seq ?_
 refine AW.cut (τ := Int × List Y92) (fun (x30, l31) => ⟨[(1, cI x30)], [Obj.deep w00 139 Y9h Y9i 3 l31]⟩) (fun (x30, l31) => Zjv x30 l31 = some r) ?_ ?_
 ·
  refine zw ?_
  refine AW.lp (v := ()) h (fun (l14, x15, x16) (_ : Unit) => ⟨[(0, cV w00), (1, cI x15), (5, cI x16)], [Obj.deep w00 139 Y9h Y9i 3 l14]⟩) (gb [0]) ?_
  rintro ⟨l14, x15, x16⟩ _ y40 h
  refine zw ?_
  refine Ops.v rfl (Y5w (p := 0) Yb7.h rfl rfl rfl) ?_
  refine zw ?_
  refine cnd h (fun hb17 h => ?_) fun hb17 h => ?_
  ·
   refine AW.ct hb17 rfl ?_
   refine zw ?_
   refine ob' h fun e18 g19 h => ?_
   refine Ops.v rfl (Y5y (p := 0) Yb7.h rfl rfl rfl g19 rfl) ?_
   refine Ops.v rfl (Y5z (p := 0) Yb0.h rfl rfl (Y29 g19).2.2 rfl) ?_
   refine Ops.hd (ns := [0]) rfl rfl (Y61 (e' := (Y92.mk x15 e18.events e18.parked)) ld_2.h rfl rfl (One.val rfl) (Y29 g19).2.2 (fun _ => rfl) (fun _ => rfl) (fun _ => rfl)) ?_
   refine zw ?_
   refine ob' h fun e20 g21 h => ?_
   refine Ops.v rfl (Y5y (p := 0) Yb7.h rfl rfl rfl g21 rfl) ?_
   refine Ops.v rfl (Y5z (p := 0) Yb1.h rfl rfl (Y29 g21).2.2 rfl) ?_
   refine Ops.take (p := 0) rfl (Y29 g21).2.2 fun q22 => ?_
   refine Ops.v rfl (Y60 (p := 2) Yb2.h rfl rfl (Y29 g21).2.2 rfl rfl) ?_
   refine zw ?_
   refine ob' h fun r23 g24 h => ?_
   refine Ops.hd (ns := [0]) rfl rfl (Y24 (Zju e20.events (IntKind.i64.wrap (x15 + 1)) _ g24) rfl rfl) ?_
   refine Ops.ghost (Y21.back (x' := (Y92.mk e20.room r23.2 e20.parked)) (ns := [2, 0, 0]) rfl (Y29 g21).2.2 rfl rfl) ?_
   refine zw ?_
   refine ob' h fun e25 g26 h => ?_
   refine Ops.v rfl (Y5y (p := 0) Yb7.h rfl rfl rfl g26 rfl) ?_
   refine Ops.v rfl (Y5z (p := 0) Yb3.h rfl rfl (Y29 g26).2.2 rfl) ?_
   refine Ops.take (p := 0) rfl (Y29 g26).2.2 fun q27 => ?_
   refine Ops.v rfl (Y60 (p := 2) Yb2.h rfl rfl (Y29 g26).2.2 rfl rfl) ?_
   refine zw ?_
   refine ob' h fun r28 g29 h => ?_
   refine Ops.hd (ns := [1]) rfl rfl (Y24 (Zju e25.parked r23.1 _ g29) rfl rfl) ?_
   refine Ops.ghost (Y21.back (x' := (Y92.mk e25.room e25.events r28.2)) (ns := [2, 1, 0]) rfl (Y29 g26).2.2 rfl rfl) ?_
   exact go
  exact go
 rintro ⟨x30, l31⟩ h
 replace h : Zjv x30 l31 = some r := h
 unfold Zjv at h
 refine zw ?_
 refine AW.ret ?_
 rw [← Wj h]
 exact ⟨[cI x30], _, Y21.refl _, (.cons (.tmp rfl) .nil), [0], _, _, rfl, ⟨rfl, rfl⟩⟩

def Zjz (x14 : Int) (l15 : List Y91) : Option (Int × List Y91) := some (x14, l15)
def Zk0 (l6 : List Y91) (x7 : Int) (x8 : Int) : Option ((List Y91 × Int × Int) ⊕ ((Int × List Y91))) := cond (decide (x8 < (l6.length : Int))) ((getI l6 x8).bind fun e10 => (getI (List.set l6 (Int.toNat x8) (Y91.mk x7 e10.id)) x8).bind fun e12 => some (.inl ((List.set (List.set l6 (Int.toNat x8) (Y91.mk x7 e10.id)) (Int.toNat x8) (Y91.mk e12.room (IntKind.i64.wrap (x7 + 1)))), (IntKind.i64.wrap ((IntKind.i64.wrap (x7 + 1)) + 1)), (IntKind.i64.wrap (x8 + 1))))) (some (.inr (x7, l6)))
def Zk1 (p0 : List Y91) (p1 : Int) : Option (Int × List Y91) := (iter (fun z16 => Zk0 z16.1 z16.2.1 z16.2.2) big (p0, p1, 0)).bind fun (y17, y18) => Zjz y17 y18
theorem Zk2 {w00 : Value} (p0 : List Y91) (p1 : Int) (r : Int × List Y91) (h : Zk1 p0 p1 = some r) : Ok Tryz.prog 52 [cV w00, cI p1] [oA w00 142 Y9d 2 p0] (fun c qs => c = cI r.1 ∧ qs = [oA w00 142 Y9d 2 r.2]) := by
 refine Ok.of_body (rs := [.tmp 4]) Tryz.func52 rfl rfl rfl rfl rfl fun X => ?_
 unfold Zk1 at h
 refine AW.seq ?_
 refine AW.region ?_
 refine Ops.v rfl (Yr rfl rfl) ?_
 refine Ops.nil ?_
 refine AW.seq ?_
 refine AW.cut (τ := Int × List Y91) (fun (x14, l15) => ⟨[(1, cI x14)], [oA w00 142 Y9d 2 l15]⟩) (fun (x14, l15) => Zjz x14 l15 = some r) ?_ ?_
 ·
  refine zw ?_
  refine AW.lp (v := ()) h (fun (l6, x7, x8) (_ : Unit) => ⟨[(0, cV w00), (1, cI x7), (5, cI x8)], [oA w00 142 Y9d 2 l6]⟩) (gb [0]) ?_
  rintro ⟨l6, x7, x8⟩ _ y24 h
  refine zw ?_
  refine cnd h (fun hb9 h => ?_) fun hb9 h => ?_
  ·
   refine AW.ct hb9 rfl ?_
   refine zw ?_
   refine oi h fun e10 g11 h => ?_
   refine Ops.v rfl (Y2y (p := 0) Yba.h rfl rfl (Y29 g11).2.2 rfl) ?_
   refine Ops.hd (ns := [0]) rfl rfl (Y33 (e' := (Y91.mk x7 e10.id)) ld_2.h rfl rfl (One.val rfl) (Y29 g11).2.2 rfl rfl) ?_
   refine zw ?_
   refine oi h fun e12 g13 h => ?_
   refine Ops.v rfl (Y2y (p := 0) Ybc.h rfl rfl (Y29 g13).2.2 rfl) ?_
   refine Ops.hd (ns := [0]) rfl rfl (Y33 (e' := (Y91.mk e12.room (IntKind.i64.wrap (x7 + 1)))) ld_2.h rfl rfl (One.val rfl) (Y29 g13).2.2 rfl rfl) ?_
   exact go
  exact go
 rintro ⟨x14, l15⟩ h
 replace h : Zjz x14 l15 = some r := h
 unfold Zjz at h
 refine zw ?_
 refine AW.ret ?_
 rw [← Wj h]
 exact ⟨[cI x14], _, Y21.refl _, (.cons (.tmp rfl) .nil), [0], _, _, rfl, ⟨rfl, rfl⟩⟩

def Zk3 (p0 : Y93) (p1 : Int) : Option (Int × List Y92 × List Y91) := (Zjx p0.rooms p1).bind fun r2 => (Zk1 p0.stream r2.1).bind fun r4 => some (r4.1, r2.2, r4.2)
theorem Zk4 {w00 : Value} {w01 : Value} (p0 : Y93) (p1 : Int) (r : Int × List Y92 × List Y91) (h : Zk3 p0 p1 = some r) : Ok Tryz.prog 19 [C.agg [cV w00, cV w01], cI p1] [Obj.deep w00 139 Y9h Y9i 3 p0.rooms, oA w01 142 Y9d 2 p0.stream] (fun c qs => c = cI r.1 ∧ qs = [Obj.deep w00 139 Y9h Y9i 3 r.2.1, oA w01 142 Y9d 2 r.2.2]) := by
 refine Ok.of_body (rs := [.tmp 4]) Tryz.func19 rfl rfl rfl rfl rfl fun X => ?_
 unfold Zk3 at h
 refine zw ?_
 refine ox fun b1 => ?_
 refine zw ?_
 refine ob' h fun r2 g3 h => ?_
 refine Ops.hd (ns := [1]) rfl rfl (Y24 (Zjy p0.rooms p1 _ g3) rfl rfl) ?_
 refine zw ?_
 refine ob' h fun r4 g5 h => ?_
 refine Ops.hd (ns := [2]) rfl rfl (Y24 (Zk2 p0.stream r2.1 _ g5) rfl rfl) ?_
 refine zw ?_
 refine AW.ret ?_
 rw [← Wj h]
 exact ⟨[cI r4.1], _, Y21.refl _, (.cons (.tmp rfl) .nil), [1, 0], _, _, rfl, ⟨rfl, rfl⟩⟩

def Zk5 (x56 : Int) (l57 : List Y97) : Option (Int × List Y97) := some (x56, l57)
def Zk6 (l27 : List Y97) (x28 : Int) (x29 : Int) : Option ((List Y97 × Int × Int) ⊕ ((Int × List Y97))) := cond (decide (x29 < (l27.length : Int))) ((getI l27 x29).bind fun e31 => (getI (List.set l27 (Int.toNat x29) (Y97.mk (Y8z.mk x28 e31.event.room e31.event.author e31.event.kind e31.event.key e31.event.n e31.event.text e31.event.prev e31.event.time) e31.hidden)) x29).bind fun e33 => (getI (List.set (List.set l27 (Int.toNat x29) (Y97.mk (Y8z.mk x28 e31.event.room e31.event.author e31.event.kind e31.event.key e31.event.n e31.event.text e31.event.prev e31.event.time) e31.hidden)) (Int.toNat x29) (Y97.mk (Y8z.mk e33.event.id (IntKind.i64.wrap (x28 + 1)) e33.event.author e33.event.kind e33.event.key e33.event.n e33.event.text e33.event.prev e33.event.time) e33.hidden)) x29).bind fun e35 => (getI (List.set (List.set (List.set l27 (Int.toNat x29) (Y97.mk (Y8z.mk x28 e31.event.room e31.event.author e31.event.kind e31.event.key e31.event.n e31.event.text e31.event.prev e31.event.time) e31.hidden)) (Int.toNat x29) (Y97.mk (Y8z.mk e33.event.id (IntKind.i64.wrap (x28 + 1)) e33.event.author e33.event.kind e33.event.key e33.event.n e33.event.text e33.event.prev e33.event.time) e33.hidden)) (Int.toNat x29) (Y97.mk (Y8z.mk e35.event.id e35.event.room (IntKind.i64.wrap ((IntKind.i64.wrap (x28 + 1)) + 1)) e35.event.kind e35.event.key e35.event.n e35.event.text e35.event.prev e35.event.time) e35.hidden)) x29).bind fun e37 => (getI (List.set (List.set (List.set (List.set l27 (Int.toNat x29) (Y97.mk (Y8z.mk x28 e31.event.room e31.event.author e31.event.kind e31.event.key e31.event.n e31.event.text e31.event.prev e31.event.time) e31.hidden)) (Int.toNat x29) (Y97.mk (Y8z.mk e33.event.id (IntKind.i64.wrap (x28 + 1)) e33.event.author e33.event.kind e33.event.key e33.event.n e33.event.text e33.event.prev e33.event.time) e33.hidden)) (Int.toNat x29) (Y97.mk (Y8z.mk e35.event.id e35.event.room (IntKind.i64.wrap ((IntKind.i64.wrap (x28 + 1)) + 1)) e35.event.kind e35.event.key e35.event.n e35.event.text e35.event.prev e35.event.time) e35.hidden)) (Int.toNat x29) (Y97.mk (Y8z.mk e37.event.id e37.event.room e37.event.author (IntKind.i64.wrap ((IntKind.i64.wrap ((IntKind.i64.wrap (x28 + 1)) + 1)) + 1)) e37.event.key e37.event.n e37.event.text e37.event.prev e37.event.time) e37.hidden)) x29).bind fun e39 => (getI (List.set (List.set (List.set (List.set (List.set l27 (Int.toNat x29) (Y97.mk (Y8z.mk x28 e31.event.room e31.event.author e31.event.kind e31.event.key e31.event.n e31.event.text e31.event.prev e31.event.time) e31.hidden)) (Int.toNat x29) (Y97.mk (Y8z.mk e33.event.id (IntKind.i64.wrap (x28 + 1)) e33.event.author e33.event.kind e33.event.key e33.event.n e33.event.text e33.event.prev e33.event.time) e33.hidden)) (Int.toNat x29) (Y97.mk (Y8z.mk e35.event.id e35.event.room (IntKind.i64.wrap ((IntKind.i64.wrap (x28 + 1)) + 1)) e35.event.kind e35.event.key e35.event.n e35.event.text e35.event.prev e35.event.time) e35.hidden)) (Int.toNat x29) (Y97.mk (Y8z.mk e37.event.id e37.event.room e37.event.author (IntKind.i64.wrap ((IntKind.i64.wrap ((IntKind.i64.wrap (x28 + 1)) + 1)) + 1)) e37.event.key e37.event.n e37.event.text e37.event.prev e37.event.time) e37.hidden)) (Int.toNat x29) (Y97.mk (Y8z.mk e39.event.id e39.event.room e39.event.author e39.event.kind (IntKind.i64.wrap ((IntKind.i64.wrap ((IntKind.i64.wrap ((IntKind.i64.wrap (x28 + 1)) + 1)) + 1)) + 1)) e39.event.n e39.event.text e39.event.prev e39.event.time) e39.hidden)) x29).bind fun e41 => (Zjl (IntKind.i64.wrap ((IntKind.i64.wrap ((IntKind.i64.wrap ((IntKind.i64.wrap ((IntKind.i64.wrap ((IntKind.i64.wrap (x28 + 1)) + 1)) + 1)) + 1)) + 1)) + 1))).bind fun r43 => (getI (List.set (List.set (List.set (List.set (List.set (List.set l27 (Int.toNat x29) (Y97.mk (Y8z.mk x28 e31.event.room e31.event.author e31.event.kind e31.event.key e31.event.n e31.event.text e31.event.prev e31.event.time) e31.hidden)) (Int.toNat x29) (Y97.mk (Y8z.mk e33.event.id (IntKind.i64.wrap (x28 + 1)) e33.event.author e33.event.kind e33.event.key e33.event.n e33.event.text e33.event.prev e33.event.time) e33.hidden)) (Int.toNat x29) (Y97.mk (Y8z.mk e35.event.id e35.event.room (IntKind.i64.wrap ((IntKind.i64.wrap (x28 + 1)) + 1)) e35.event.kind e35.event.key e35.event.n e35.event.text e35.event.prev e35.event.time) e35.hidden)) (Int.toNat x29) (Y97.mk (Y8z.mk e37.event.id e37.event.room e37.event.author (IntKind.i64.wrap ((IntKind.i64.wrap ((IntKind.i64.wrap (x28 + 1)) + 1)) + 1)) e37.event.key e37.event.n e37.event.text e37.event.prev e37.event.time) e37.hidden)) (Int.toNat x29) (Y97.mk (Y8z.mk e39.event.id e39.event.room e39.event.author e39.event.kind (IntKind.i64.wrap ((IntKind.i64.wrap ((IntKind.i64.wrap ((IntKind.i64.wrap (x28 + 1)) + 1)) + 1)) + 1)) e39.event.n e39.event.text e39.event.prev e39.event.time) e39.hidden)) (Int.toNat x29) (Y97.mk (Y8z.mk e41.event.id e41.event.room e41.event.author e41.event.kind e41.event.key (IntKind.i64.wrap ((IntKind.i64.wrap ((IntKind.i64.wrap ((IntKind.i64.wrap ((IntKind.i64.wrap (x28 + 1)) + 1)) + 1)) + 1)) + 1)) e41.event.text e41.event.prev e41.event.time) e41.hidden)) x29).bind fun e45 => (getI (List.set (List.set (List.set (List.set (List.set (List.set (List.set l27 (Int.toNat x29) (Y97.mk (Y8z.mk x28 e31.event.room e31.event.author e31.event.kind e31.event.key e31.event.n e31.event.text e31.event.prev e31.event.time) e31.hidden)) (Int.toNat x29) (Y97.mk (Y8z.mk e33.event.id (IntKind.i64.wrap (x28 + 1)) e33.event.author e33.event.kind e33.event.key e33.event.n e33.event.text e33.event.prev e33.event.time) e33.hidden)) (Int.toNat x29) (Y97.mk (Y8z.mk e35.event.id e35.event.room (IntKind.i64.wrap ((IntKind.i64.wrap (x28 + 1)) + 1)) e35.event.kind e35.event.key e35.event.n e35.event.text e35.event.prev e35.event.time) e35.hidden)) (Int.toNat x29) (Y97.mk (Y8z.mk e37.event.id e37.event.room e37.event.author (IntKind.i64.wrap ((IntKind.i64.wrap ((IntKind.i64.wrap (x28 + 1)) + 1)) + 1)) e37.event.key e37.event.n e37.event.text e37.event.prev e37.event.time) e37.hidden)) (Int.toNat x29) (Y97.mk (Y8z.mk e39.event.id e39.event.room e39.event.author e39.event.kind (IntKind.i64.wrap ((IntKind.i64.wrap ((IntKind.i64.wrap ((IntKind.i64.wrap (x28 + 1)) + 1)) + 1)) + 1)) e39.event.n e39.event.text e39.event.prev e39.event.time) e39.hidden)) (Int.toNat x29) (Y97.mk (Y8z.mk e41.event.id e41.event.room e41.event.author e41.event.kind e41.event.key (IntKind.i64.wrap ((IntKind.i64.wrap ((IntKind.i64.wrap ((IntKind.i64.wrap ((IntKind.i64.wrap (x28 + 1)) + 1)) + 1)) + 1)) + 1)) e41.event.text e41.event.prev e41.event.time) e41.hidden)) (Int.toNat x29) (Y97.mk (Y8z.mk e45.event.id e45.event.room e45.event.author e45.event.kind e45.event.key e45.event.n r43 e45.event.prev e45.event.time) e45.hidden)) x29).bind fun e47 => (Zjp e47.event.prev (IntKind.i64.wrap ((IntKind.i64.wrap ((IntKind.i64.wrap ((IntKind.i64.wrap ((IntKind.i64.wrap ((IntKind.i64.wrap ((IntKind.i64.wrap (x28 + 1)) + 1)) + 1)) + 1)) + 1)) + 1)) + 1))).bind fun r50 => (getI (List.set (List.set (List.set (List.set (List.set (List.set (List.set (List.set l27 (Int.toNat x29) (Y97.mk (Y8z.mk x28 e31.event.room e31.event.author e31.event.kind e31.event.key e31.event.n e31.event.text e31.event.prev e31.event.time) e31.hidden)) (Int.toNat x29) (Y97.mk (Y8z.mk e33.event.id (IntKind.i64.wrap (x28 + 1)) e33.event.author e33.event.kind e33.event.key e33.event.n e33.event.text e33.event.prev e33.event.time) e33.hidden)) (Int.toNat x29) (Y97.mk (Y8z.mk e35.event.id e35.event.room (IntKind.i64.wrap ((IntKind.i64.wrap (x28 + 1)) + 1)) e35.event.kind e35.event.key e35.event.n e35.event.text e35.event.prev e35.event.time) e35.hidden)) (Int.toNat x29) (Y97.mk (Y8z.mk e37.event.id e37.event.room e37.event.author (IntKind.i64.wrap ((IntKind.i64.wrap ((IntKind.i64.wrap (x28 + 1)) + 1)) + 1)) e37.event.key e37.event.n e37.event.text e37.event.prev e37.event.time) e37.hidden)) (Int.toNat x29) (Y97.mk (Y8z.mk e39.event.id e39.event.room e39.event.author e39.event.kind (IntKind.i64.wrap ((IntKind.i64.wrap ((IntKind.i64.wrap ((IntKind.i64.wrap (x28 + 1)) + 1)) + 1)) + 1)) e39.event.n e39.event.text e39.event.prev e39.event.time) e39.hidden)) (Int.toNat x29) (Y97.mk (Y8z.mk e41.event.id e41.event.room e41.event.author e41.event.kind e41.event.key (IntKind.i64.wrap ((IntKind.i64.wrap ((IntKind.i64.wrap ((IntKind.i64.wrap ((IntKind.i64.wrap (x28 + 1)) + 1)) + 1)) + 1)) + 1)) e41.event.text e41.event.prev e41.event.time) e41.hidden)) (Int.toNat x29) (Y97.mk (Y8z.mk e45.event.id e45.event.room e45.event.author e45.event.kind e45.event.key e45.event.n r43 e45.event.prev e45.event.time) e45.hidden)) (Int.toNat x29) (Y97.mk (Y8z.mk e47.event.id e47.event.room e47.event.author e47.event.kind e47.event.key e47.event.n e47.event.text r50.2 e47.event.time) e47.hidden)) x29).bind fun e52 => (getI (List.set (List.set (List.set (List.set (List.set (List.set (List.set (List.set (List.set l27 (Int.toNat x29) (Y97.mk (Y8z.mk x28 e31.event.room e31.event.author e31.event.kind e31.event.key e31.event.n e31.event.text e31.event.prev e31.event.time) e31.hidden)) (Int.toNat x29) (Y97.mk (Y8z.mk e33.event.id (IntKind.i64.wrap (x28 + 1)) e33.event.author e33.event.kind e33.event.key e33.event.n e33.event.text e33.event.prev e33.event.time) e33.hidden)) (Int.toNat x29) (Y97.mk (Y8z.mk e35.event.id e35.event.room (IntKind.i64.wrap ((IntKind.i64.wrap (x28 + 1)) + 1)) e35.event.kind e35.event.key e35.event.n e35.event.text e35.event.prev e35.event.time) e35.hidden)) (Int.toNat x29) (Y97.mk (Y8z.mk e37.event.id e37.event.room e37.event.author (IntKind.i64.wrap ((IntKind.i64.wrap ((IntKind.i64.wrap (x28 + 1)) + 1)) + 1)) e37.event.key e37.event.n e37.event.text e37.event.prev e37.event.time) e37.hidden)) (Int.toNat x29) (Y97.mk (Y8z.mk e39.event.id e39.event.room e39.event.author e39.event.kind (IntKind.i64.wrap ((IntKind.i64.wrap ((IntKind.i64.wrap ((IntKind.i64.wrap (x28 + 1)) + 1)) + 1)) + 1)) e39.event.n e39.event.text e39.event.prev e39.event.time) e39.hidden)) (Int.toNat x29) (Y97.mk (Y8z.mk e41.event.id e41.event.room e41.event.author e41.event.kind e41.event.key (IntKind.i64.wrap ((IntKind.i64.wrap ((IntKind.i64.wrap ((IntKind.i64.wrap ((IntKind.i64.wrap (x28 + 1)) + 1)) + 1)) + 1)) + 1)) e41.event.text e41.event.prev e41.event.time) e41.hidden)) (Int.toNat x29) (Y97.mk (Y8z.mk e45.event.id e45.event.room e45.event.author e45.event.kind e45.event.key e45.event.n r43 e45.event.prev e45.event.time) e45.hidden)) (Int.toNat x29) (Y97.mk (Y8z.mk e47.event.id e47.event.room e47.event.author e47.event.kind e47.event.key e47.event.n e47.event.text r50.2 e47.event.time) e47.hidden)) (Int.toNat x29) (Y97.mk (Y8z.mk e52.event.id e52.event.room e52.event.author e52.event.kind e52.event.key e52.event.n e52.event.text e52.event.prev r50.1) e52.hidden)) x29).bind fun e54 => some (.inl ((List.set (List.set (List.set (List.set (List.set (List.set (List.set (List.set (List.set (List.set l27 (Int.toNat x29) (Y97.mk (Y8z.mk x28 e31.event.room e31.event.author e31.event.kind e31.event.key e31.event.n e31.event.text e31.event.prev e31.event.time) e31.hidden)) (Int.toNat x29) (Y97.mk (Y8z.mk e33.event.id (IntKind.i64.wrap (x28 + 1)) e33.event.author e33.event.kind e33.event.key e33.event.n e33.event.text e33.event.prev e33.event.time) e33.hidden)) (Int.toNat x29) (Y97.mk (Y8z.mk e35.event.id e35.event.room (IntKind.i64.wrap ((IntKind.i64.wrap (x28 + 1)) + 1)) e35.event.kind e35.event.key e35.event.n e35.event.text e35.event.prev e35.event.time) e35.hidden)) (Int.toNat x29) (Y97.mk (Y8z.mk e37.event.id e37.event.room e37.event.author (IntKind.i64.wrap ((IntKind.i64.wrap ((IntKind.i64.wrap (x28 + 1)) + 1)) + 1)) e37.event.key e37.event.n e37.event.text e37.event.prev e37.event.time) e37.hidden)) (Int.toNat x29) (Y97.mk (Y8z.mk e39.event.id e39.event.room e39.event.author e39.event.kind (IntKind.i64.wrap ((IntKind.i64.wrap ((IntKind.i64.wrap ((IntKind.i64.wrap (x28 + 1)) + 1)) + 1)) + 1)) e39.event.n e39.event.text e39.event.prev e39.event.time) e39.hidden)) (Int.toNat x29) (Y97.mk (Y8z.mk e41.event.id e41.event.room e41.event.author e41.event.kind e41.event.key (IntKind.i64.wrap ((IntKind.i64.wrap ((IntKind.i64.wrap ((IntKind.i64.wrap ((IntKind.i64.wrap (x28 + 1)) + 1)) + 1)) + 1)) + 1)) e41.event.text e41.event.prev e41.event.time) e41.hidden)) (Int.toNat x29) (Y97.mk (Y8z.mk e45.event.id e45.event.room e45.event.author e45.event.kind e45.event.key e45.event.n r43 e45.event.prev e45.event.time) e45.hidden)) (Int.toNat x29) (Y97.mk (Y8z.mk e47.event.id e47.event.room e47.event.author e47.event.kind e47.event.key e47.event.n e47.event.text r50.2 e47.event.time) e47.hidden)) (Int.toNat x29) (Y97.mk (Y8z.mk e52.event.id e52.event.room e52.event.author e52.event.kind e52.event.key e52.event.n e52.event.text e52.event.prev r50.1) e52.hidden)) (Int.toNat x29) (Y97.mk e54.event ((Int.tmod (IntKind.i64.wrap (r50.1 + 1)) 3) == 0))), (IntKind.i64.wrap ((IntKind.i64.wrap (r50.1 + 1)) + 1)), (IntKind.i64.wrap (x29 + 1))))) (some (.inr (x28, l27)))
def Zk7 (p0 : List Y97) (p1 : Int) : Option (Int × List Y97) := (iter (fun z58 => Zk6 z58.1 z58.2.1 z58.2.2) big (p0, p1, 0)).bind fun (y59, y60) => Zk5 y59 y60
theorem Zk8 {w00 : Value} (p0 : List Y97) (p1 : Int) (r : Int × List Y97) (h : Zk7 p0 p1 = some r) : Ok Tryz.prog 57 [cV w00, cI p1] [Obj.deep w00 160 Y9t Y9u 10 p0] (fun c qs => c = cI r.1 ∧ qs = [Obj.deep w00 160 Y9t Y9u 10 r.2]) := by
 refine Ok.of_body (rs := [.tmp 4]) Tryz.func57 rfl rfl rfl rfl rfl fun X => ?_
 unfold Zk7 at h
 refine AW.seq ?_
 refine AW.region ?_
 refine Ops.v rfl (Yr rfl rfl) ?_
 refine Ops.nil ?_
 refine AW.seq ?_
 refine AW.cut (τ := Int × List Y97) (fun (x56, l57) => ⟨[(1, cI x56)], [Obj.deep w00 160 Y9t Y9u 10 l57]⟩) (fun (x56, l57) => Zk5 x56 l57 = some r) ?_ ?_
 ·
  refine zw ?_
  refine AW.lp (v := ()) h (fun (l27, x28, x29) (_ : Unit) => ⟨[(0, cV w00), (1, cI x28), (5, cI x29)], [Obj.deep w00 160 Y9t Y9u 10 l27]⟩) (gb [0]) ?_
  rintro ⟨l27, x28, x29⟩ _ y66 h
  refine zw ?_
  refine Ops.v rfl (Y5w (p := 0) Yd1.h rfl rfl rfl) ?_
  refine zw ?_
  refine cnd h (fun hb30 h => ?_) fun hb30 h => ?_
  ·
   refine AW.ct hb30 rfl ?_
   refine zw ?_
   refine ob' h fun e31 g32 h => ?_
   refine Ops.v rfl (Y5y (p := 0) Yd1.h rfl rfl rfl g32 rfl) ?_
   refine Ops.v rfl (Y5z (p := 0) Ydy.h rfl rfl (Y29 g32).2.2 rfl) ?_
   refine Ops.v rfl (Y5z (p := 0) Yae.h rfl rfl (Y29 g32).2.2 rfl) ?_
   refine Ops.hd (ns := [0]) rfl rfl (Y61 (e' := (Y97.mk (Y8z.mk x28 e31.event.room e31.event.author e31.event.kind e31.event.key e31.event.n e31.event.text e31.event.prev e31.event.time) e31.hidden)) ld_2.h rfl rfl (One.val rfl) (Y29 g32).2.2 (fun _ => rfl) (fun _ => rfl) (fun _ => rfl)) ?_
   refine zw ?_
   refine ob' h fun e33 g34 h => ?_
   refine Ops.v rfl (Y5y (p := 0) Yd1.h rfl rfl rfl g34 rfl) ?_
   refine Ops.v rfl (Y5z (p := 0) Ydy.h rfl rfl (Y29 g34).2.2 rfl) ?_
   refine Ops.v rfl (Y5z (p := 0) Yag.h rfl rfl (Y29 g34).2.2 rfl) ?_
   refine Ops.hd (ns := [0]) rfl rfl (Y61 (e' := (Y97.mk (Y8z.mk e33.event.id (IntKind.i64.wrap (x28 + 1)) e33.event.author e33.event.kind e33.event.key e33.event.n e33.event.text e33.event.prev e33.event.time) e33.hidden)) ld_2.h rfl rfl (One.val rfl) (Y29 g34).2.2 (fun _ => rfl) (fun _ => rfl) (fun _ => rfl)) ?_
   refine zw ?_
   refine ob' h fun e35 g36 h => ?_
   refine Ops.v rfl (Y5y (p := 0) Yd1.h rfl rfl rfl g36 rfl) ?_
   refine Ops.v rfl (Y5z (p := 0) Ydy.h rfl rfl (Y29 g36).2.2 rfl) ?_
   refine Ops.v rfl (Y5z (p := 0) Yai.h rfl rfl (Y29 g36).2.2 rfl) ?_
   refine Ops.hd (ns := [0]) rfl rfl (Y61 (e' := (Y97.mk (Y8z.mk e35.event.id e35.event.room (IntKind.i64.wrap ((IntKind.i64.wrap (x28 + 1)) + 1)) e35.event.kind e35.event.key e35.event.n e35.event.text e35.event.prev e35.event.time) e35.hidden)) ld_2.h rfl rfl (One.val rfl) (Y29 g36).2.2 (fun _ => rfl) (fun _ => rfl) (fun _ => rfl)) ?_
   refine zw ?_
   refine ob' h fun e37 g38 h => ?_
   refine Ops.v rfl (Y5y (p := 0) Yd1.h rfl rfl rfl g38 rfl) ?_
   refine Ops.v rfl (Y5z (p := 0) Ydy.h rfl rfl (Y29 g38).2.2 rfl) ?_
   refine Ops.v rfl (Y5z (p := 0) Yak.h rfl rfl (Y29 g38).2.2 rfl) ?_
   refine Ops.hd (ns := [0]) rfl rfl (Y61 (e' := (Y97.mk (Y8z.mk e37.event.id e37.event.room e37.event.author (IntKind.i64.wrap ((IntKind.i64.wrap ((IntKind.i64.wrap (x28 + 1)) + 1)) + 1)) e37.event.key e37.event.n e37.event.text e37.event.prev e37.event.time) e37.hidden)) ld_2.h rfl rfl (One.val rfl) (Y29 g38).2.2 (fun _ => rfl) (fun _ => rfl) (fun _ => rfl)) ?_
   refine zw ?_
   refine ob' h fun e39 g40 h => ?_
   refine Ops.v rfl (Y5y (p := 0) Yd1.h rfl rfl rfl g40 rfl) ?_
   refine Ops.v rfl (Y5z (p := 0) Ydy.h rfl rfl (Y29 g40).2.2 rfl) ?_
   refine Ops.v rfl (Y5z (p := 0) Yam.h rfl rfl (Y29 g40).2.2 rfl) ?_
   refine Ops.hd (ns := [0]) rfl rfl (Y61 (e' := (Y97.mk (Y8z.mk e39.event.id e39.event.room e39.event.author e39.event.kind (IntKind.i64.wrap ((IntKind.i64.wrap ((IntKind.i64.wrap ((IntKind.i64.wrap (x28 + 1)) + 1)) + 1)) + 1)) e39.event.n e39.event.text e39.event.prev e39.event.time) e39.hidden)) ld_2.h rfl rfl (One.val rfl) (Y29 g40).2.2 (fun _ => rfl) (fun _ => rfl) (fun _ => rfl)) ?_
   refine zw ?_
   refine ob' h fun e41 g42 h => ?_
   refine Ops.v rfl (Y5y (p := 0) Yd1.h rfl rfl rfl g42 rfl) ?_
   refine Ops.v rfl (Y5z (p := 0) Ydy.h rfl rfl (Y29 g42).2.2 rfl) ?_
   refine Ops.v rfl (Y5z (p := 0) Yao.h rfl rfl (Y29 g42).2.2 rfl) ?_
   refine Ops.hd (ns := [0]) rfl rfl (Y61 (e' := (Y97.mk (Y8z.mk e41.event.id e41.event.room e41.event.author e41.event.kind e41.event.key (IntKind.i64.wrap ((IntKind.i64.wrap ((IntKind.i64.wrap ((IntKind.i64.wrap ((IntKind.i64.wrap (x28 + 1)) + 1)) + 1)) + 1)) + 1)) e41.event.text e41.event.prev e41.event.time) e41.hidden)) ld_2.h rfl rfl (One.val rfl) (Y29 g42).2.2 (fun _ => rfl) (fun _ => rfl) (fun _ => rfl)) ?_
   refine zw ?_
   refine oc h fun r43 g44 h => ?_
   refine ob' h fun e45 g46 h => ?_
   refine Ops.v rfl (Y5y (p := 0) Yd1.h rfl rfl rfl g46 rfl) ?_
   refine Ops.v rfl (Y5z (p := 0) Ydy.h rfl rfl (Y29 g46).2.2 rfl) ?_
   refine Ops.v rfl (Y5z (p := 0) Yap.h rfl rfl (Y29 g46).2.2 rfl) ?_
   refine Ops.hd (ns := [0]) rfl rfl (Y61 (e' := (Y97.mk (Y8z.mk e45.event.id e45.event.room e45.event.author e45.event.kind e45.event.key e45.event.n r43 e45.event.prev e45.event.time) e45.hidden)) ld_9.h rfl rfl (One.val rfl) (Y29 g46).2.2 (fun _ => rfl) (fun _ => rfl) (fun _ => rfl)) ?_
   refine zw ?_
   refine ob' h fun e47 g48 h => ?_
   refine Ops.v rfl (Y5y (p := 0) Yd1.h rfl rfl rfl g48 rfl) ?_
   refine Ops.v rfl (Y5z (p := 0) Ydy.h rfl rfl (Y29 g48).2.2 rfl) ?_
   refine Ops.v rfl (Y5z (p := 0) Yaq.h rfl rfl (Y29 g48).2.2 rfl) ?_
   refine Ops.take (p := 0) rfl (Y29 g48).2.2 fun q49 => ?_
   refine Ops.v rfl (Y60 (p := 1) Y9y.h rfl rfl (Y29 g48).2.2 rfl rfl) ?_
   refine zw ?_
   refine ob' h fun r50 g51 h => ?_
   refine Ops.hd (ns := [0]) rfl rfl (Y24 (Zjq e47.event.prev (IntKind.i64.wrap ((IntKind.i64.wrap ((IntKind.i64.wrap ((IntKind.i64.wrap ((IntKind.i64.wrap ((IntKind.i64.wrap ((IntKind.i64.wrap (x28 + 1)) + 1)) + 1)) + 1)) + 1)) + 1)) + 1)) _ g51) rfl rfl) ?_
   refine Ops.ghost (Y21.back (x' := (Y97.mk (Y8z.mk e47.event.id e47.event.room e47.event.author e47.event.kind e47.event.key e47.event.n e47.event.text r50.2 e47.event.time) e47.hidden)) (ns := [1, 0]) rfl (Y29 g48).2.2 rfl rfl) ?_
   refine zw ?_
   refine ob' h fun e52 g53 h => ?_
   refine Ops.v rfl (Y5y (p := 0) Yd1.h rfl rfl rfl g53 rfl) ?_
   refine Ops.v rfl (Y5z (p := 0) Ydy.h rfl rfl (Y29 g53).2.2 rfl) ?_
   refine Ops.v rfl (Y5z (p := 0) Yas.h rfl rfl (Y29 g53).2.2 rfl) ?_
   refine Ops.hd (ns := [0]) rfl rfl (Y61 (e' := (Y97.mk (Y8z.mk e52.event.id e52.event.room e52.event.author e52.event.kind e52.event.key e52.event.n e52.event.text e52.event.prev r50.1) e52.hidden)) ld_2.h rfl rfl (One.val rfl) (Y29 g53).2.2 (fun _ => rfl) (fun _ => rfl) (fun _ => rfl)) ?_
   refine zw ?_
   refine Ops.v rfl (Yw rfl rfl (by decide) rfl) ?_
   refine zw ?_
   refine ob' h fun e54 g55 h => ?_
   refine Ops.v rfl (Y5y (p := 0) Yd1.h rfl rfl rfl g55 rfl) ?_
   refine Ops.v rfl (Y5z (p := 0) Ydz.h rfl rfl (Y29 g55).2.2 rfl) ?_
   refine Ops.hd (ns := [0]) rfl rfl (Y61 (e' := (Y97.mk e54.event ((Int.tmod (IntKind.i64.wrap (r50.1 + 1)) 3) == 0))) ld_4.h rfl rfl (One.val rfl) (Y29 g55).2.2 (fun _ => rfl) (fun _ => rfl) (fun _ => rfl)) ?_
   exact go
  exact go
 rintro ⟨x56, l57⟩ h
 replace h : Zk5 x56 l57 = some r := h
 unfold Zk5 at h
 refine zw ?_
 refine AW.ret ?_
 rw [← Wj h]
 exact ⟨[cI x56], _, Y21.refl _, (.cons (.tmp rfl) .nil), [0], _, _, rfl, ⟨rfl, rfl⟩⟩

def Zk9 (x11 : Int) : Option Int := some x11
def Zka (p0 : List Int) (x5 : Int) (x6 : Int) : Option ((Int × Int) ⊕ (Int ⊕ Int)) := cond (decide (x6 < (p0.length : Int))) ((getI p0 x6).bind fun e8 => cond (e8 != x5) (some (.inr (.inl (-1)))) (some (.inl ((IntKind.i64.wrap (x5 + 1)), (IntKind.i64.wrap (x6 + 1)))))) (some (.inr (.inr x5)))
def Zkb (p0 : List Int) (p1 : Int) : Option Int := (iter (fun z12 => Zka p0 z12.1 z12.2) big (p1, 0)).bind (fun z15 => match z15 with | .inl y13 => some y13 | .inr y14 => Zk9 y14)
instance Zkc (p0 : List Int) (p1 : Int) : Sp Tryz.prog 37 [cM kI64 1 p0, cI p1] (Zkb p0 p1) cI := sp Tryz.func37 rfl rfl fun r X h => by
 unfold Zkb at h
 refine zw ?_
 refine AW.lp (v := ()) h (fun (x5, x6) (_ : Unit) => ⟨[(0, cM kI64 1 p0), (1, cI x5), (5, cI x6)], []⟩) (gb []) ?_
 rintro ⟨x5, x6⟩ _ y21 h
 exact go

def Zkd (x37 : Int) : Option Int := some x37
def Zke (p0 : List Y97) (x18 : Int) (x19 : Int) : Option ((Int × Int) ⊕ (Int ⊕ Int)) := cond (decide (x19 < (p0.length : Int))) ((getI p0 x19).bind fun e21 => cond (e21.event.id != x18) (some (.inr (.inl (-1)))) (cond (e21.event.room != (IntKind.i64.wrap (x18 + 1))) (some (.inr (.inl (-1)))) (cond (e21.event.author != (IntKind.i64.wrap ((IntKind.i64.wrap (x18 + 1)) + 1))) (some (.inr (.inl (-1)))) (cond (e21.event.kind != (IntKind.i64.wrap ((IntKind.i64.wrap ((IntKind.i64.wrap (x18 + 1)) + 1)) + 1))) (some (.inr (.inl (-1)))) (cond (e21.event.key != (IntKind.i64.wrap ((IntKind.i64.wrap ((IntKind.i64.wrap ((IntKind.i64.wrap (x18 + 1)) + 1)) + 1)) + 1))) (some (.inr (.inl (-1)))) (cond (e21.event.n != (IntKind.i64.wrap ((IntKind.i64.wrap ((IntKind.i64.wrap ((IntKind.i64.wrap ((IntKind.i64.wrap (x18 + 1)) + 1)) + 1)) + 1)) + 1))) (some (.inr (.inl (-1)))) ((Zjl (IntKind.i64.wrap ((IntKind.i64.wrap ((IntKind.i64.wrap ((IntKind.i64.wrap ((IntKind.i64.wrap ((IntKind.i64.wrap (x18 + 1)) + 1)) + 1)) + 1)) + 1)) + 1))).bind fun r29 => cond (e21.event.text.toList == r29.toList) ((Zkb e21.event.prev (IntKind.i64.wrap ((IntKind.i64.wrap ((IntKind.i64.wrap ((IntKind.i64.wrap ((IntKind.i64.wrap ((IntKind.i64.wrap ((IntKind.i64.wrap (x18 + 1)) + 1)) + 1)) + 1)) + 1)) + 1)) + 1))).bind fun r32 => cond (decide (r32 < 0)) (some (.inr (.inl (-1)))) (cond (e21.event.time != r32) (some (.inr (.inl (-1)))) (cond (e21.hidden == ((Int.tmod (IntKind.i64.wrap (r32 + 1)) 3) == 0)) (some (.inl ((IntKind.i64.wrap ((IntKind.i64.wrap (r32 + 1)) + 1)), (IntKind.i64.wrap (x19 + 1))))) (some (.inr (.inl (-1))))))) (some (.inr (.inl (-1))))))))))) (some (.inr (.inr x18)))
def Zkf (p0 : List Y97) (p1 : Int) : Option Int := (iter (fun z38 => Zke p0 z38.1 z38.2) big (p1, 0)).bind (fun z41 => match z41 with | .inl y39 => some y39 | .inr y40 => Zkd y40)
instance Zkg (p0 : List Y97) (p1 : Int) : Sp Tryz.prog 58 [cM Y9o 10 p0, cI p1] (Zkf p0 p1) cI := sp Tryz.func58 rfl rfl fun r X h => by
 unfold Zkf at h
 refine zw ?_
 refine AW.lp (v := ()) h (fun (x18, x19) (_ : Unit) => ⟨[(0, cM Y9o 10 p0), (1, cI x18), (5, cI x19)], []⟩) (gb []) ?_
 rintro ⟨x18, x19⟩ _ y47 h
 refine zw ?_
 refine cnd h (fun hb20 h => ?_) fun hb20 h => ?_
 ·
  refine AW.ct hb20 rfl ?_
  refine zw ?_
  refine oi h fun e21 g22 h => ?_
  refine zw ?_
  refine cnd h (fun hb23 h => go) fun hb23 h => ?_
  refine AW.cf hb23 rfl ?_
  refine zw ?_
  refine cnd h (fun hb24 h => go) fun hb24 h => ?_
  refine AW.cf hb24 rfl ?_
  refine zw ?_
  refine cnd h (fun hb25 h => go) fun hb25 h => ?_
  refine AW.cf hb25 rfl ?_
  refine zw ?_
  refine cnd h (fun hb26 h => go) fun hb26 h => ?_
  refine AW.cf hb26 rfl ?_
  refine zw ?_
  refine cnd h (fun hb27 h => go) fun hb27 h => ?_
  refine AW.cf hb27 rfl ?_
  refine zw ?_
  refine cnd h (fun hb28 h => go) fun hb28 h => ?_
  refine AW.cf hb28 rfl ?_
  refine zw ?_
  refine rD [] [5] [] [0,4,8,12,16,21,24,30,32] ?_
  refine zw ?_
  refine dc h fun r29 g30 h => ?_
  refine zw ?_
  refine cnd h (fun hb31 h => ?_) fun hb31 h => ?_
  ·
   refine AW.cond rfl (fun hn => absurd ((Y3u hb31).symm.trans hn) (by decide)) (fun _ => ?_)
   refine zw ?_
   refine oc h fun r32 g33 h => ?_
   refine zw ?_
   refine cnd h (fun hb34 h => go) fun hb34 h => ?_
   refine AW.cf hb34 rfl ?_
   refine zw ?_
   refine cnd h (fun hb35 h => go) fun hb35 h => ?_
   refine AW.cf hb35 rfl ?_
   refine zw ?_
   refine Ops.v rfl (Yw rfl rfl (by decide) rfl) ?_
   refine zw ?_
   refine Ops.v rfl (Y11 un_4 rfl rfl rfl) ?_
   exact go
  exact go
 exact go

def Zkh (p0 : THub) (p1 : Int) (p2 : Int) (p3 : Int) (p4 : Int) (r7 : List Y97) (r14 : List Y97) (x43 : Bool) : Option Bool := cond x43 (some false) ((Zk7 r14 1).bind fun r45 => (Zkf r45.2 1).bind fun r47 => cond (decide (r47 < 0)) (some false) (cond (r47 != r45.1) (some false) ((Z15 p0).bind fun r51 => (Zin r51 p1 p2 p3 p4).bind fun r53 => (Ziz r53 r7).bind fun r55 => cond r55 ((Zkf r45.2 1).bind fun r58 => cond (decide (r58 < 0)) (some false) (cond (r58 != r45.1) (some false) (some true))) (some false))))
def Zki (p0 : THub) (p1 : Int) (p2 : Int) (p3 : Int) (p4 : Int) : Option Bool := (Zh p0 1048576).bind fun r2 => cond (decide (r2 < 0)) (some true) ((Z15 p0).bind fun r5 => (Z80 r5 p1 p2 p3 p4).bind fun r7 => (Z15 p0).bind fun r9 => (Zin r9 p1 p2 p3 p4).bind fun r14 => (Ziz r14 r7).bind fun r18 => cond r18 ((Z15 p0).bind fun r33 => (Zjh r9 r33).bind fun r35 => cond r35 ((Zk3 r9 1).bind fun r38 => cond (decide (r38.1 < 0)) (Zkh p0 p1 p2 p3 p4 r7 r14 true) ((Ziz r14 r7).bind fun r41 => Zkh p0 p1 p2 p3 p4 r7 r14 (!r41))) (some false)) (some false))
instance Zkj (p0 : THub) (p1 : Int) (p2 : Int) (p3 : Int) (p4 : Int) : Sp Tryz.prog 10 [C.agg [cM Y9c 3 p0.rooms, cM Y9d 2 p0.stream], cI p1, cI p2, cI p3, cI p4] (Zki p0 p1 p2 p3 p4) C.bool := sp Tryz.func10 rfl rfl fun r X h => by
 unfold Zki at h
 refine zw ?_
 refine ox fun b1 => ?_
 refine zw ?_
 refine oc h fun r2 g3 h => ?_
 refine zw ?_
 refine cnd h (fun hb4 h => go) fun hb4 h => ?_
 refine AW.cf hb4 rfl ?_
 refine zw ?_
 refine oc h fun r5 g6 h => ?_
 refine zw ?_
 refine oc h fun r7 g8 h => ?_
 refine zw ?_
 refine ob' h fun r9 g10 h => ?_
 refine Ops.h (ns := []) rfl rfl (Y23 (Z16 _ _ g10) rfl rfl) ?_
 rintro _ _ ⟨_, ⟨v11, v12, rfl, rfl⟩, rfl⟩
 refine Ops.h (ns := []) rfl rfl (Y1p (cs := [cV s0, cV s0]) Ybh (Y42 rfl rfl) rfl) ?_
 rintro _ _ ⟨b13, rfl, rfl⟩
 refine Ops.hd (ns := [0]) rfl rfl (Y1u (gs := [cV v11, cV v12]) Ybm.h rfl rfl rfl rfl rfl) ?_
 refine zw ?_
 refine ob' h fun r14 g15 h => ?_
 refine Ops.h (ns := [1, 1]) rfl rfl (Y23 (Ok.lend (Zio r9 p1 p2 p3 p4 _ g15) (FrzT.cons (os := [_,_]) (Frz.agg (FrzL.cons (os := [_]) (Frz.deep Yb6) (FrzL.cons (os := [_]) Frz.arr (FrzL.nil)))) (fT (fT (fT (fT (FrzT.nil)))))) (by rintro _ _ ⟨_, rfl, rfl⟩; exact ⟨(Y44.val _), Y48 (Y46.deep Ye1 Ye2) (Y47)⟩)) rfl rfl) ?_
 rintro _ _ ⟨_, ⟨_, ⟨v16, rfl, rfl⟩, rfl⟩, rfl⟩
 refine zw ?_
 refine ob' h fun r18 g19 h => ?_
 refine Ops.hd (ns := [0]) rfl rfl (Y24 (Ok.lendE ((Zj0 r14 r7).h _ g19) (FrzT.cons (os := [_]) (Frz.deep Ye0) (fT (FrzT.nil))) (Y44.val _)) rfl rfl) ?_
 refine zw ?_
 refine cnd h (fun hb20 h => ?_) fun hb20 h => ?_
 ·
  refine AW.cond rfl (fun hn => absurd ((Y3u hb20).symm.trans hn) (by decide)) (fun _ => ?_)
  refine zw ?_
  refine rD [0,2,2] [0,1] [] [1,5,10,14,16] ?_
  refine zw ?_
  refine dc h fun r33 g34 h => ?_
  refine zw ?_
  refine ob' h fun r35 g36 h => ?_
  refine Y3n.h (ns := [0, 0]) rfl rfl rfl (Y24 (Ok.lendE ((Zji r9 r33).h _ g36) (FrzT.cons (os := [_,_]) (Frz.agg (FrzL.cons (os := [_]) (Frz.deep Yb6) (FrzL.cons (os := [_]) Frz.arr (FrzL.nil)))) (fT (FrzT.nil))) (Y44.val _)) rfl rfl) ?_
  rintro _ _ ⟨rfl, rfl⟩
  refine zw ?_
  refine cnd h (fun hb37 h => ?_) fun hb37 h => ?_
  ·
   refine AW.cond rfl (fun hn => absurd ((Y3u hb37).symm.trans hn) (by decide)) (fun _ => ?_)
   refine zw ?_
   refine ob' h fun r38 g39 h => ?_
   refine Ops.hd (ns := [3, 3]) rfl rfl (Y24 (Zk4 r9 1 _ g39) rfl rfl) ?_
   refine Ops.v rfl (Yr rfl rfl) ?_
   refine Ops.nil ?_
   refine AW.seq ?_
   refine AW.seq ?_
   refine AW.cut (τ := Bool) (fun x43 => ⟨[(1, cI p1), (2, cI p2), (3, cI p3), (4, cI p4), (5, pt b1), (12, cM Y9o 10 r7), (14, cV v16), (58, C.bool x43)], [oB b1 25 [cM Y9c 3 p0.rooms, cM Y9d 2 p0.stream], Obj.deep v16 160 Y9t Y9u 10 r14]⟩) (fun x43 => Zkh p0 p1 p2 p3 p4 r7 r14 x43 = some r) ?_ ?_
   ·
    refine zw ?_
    refine cnd h (fun hb40 h => go) fun hb40 h => ?_
    refine zw ?_
    refine ob' h fun r41 g42 h => ?_
    refine Ops.ghd (ns := [2]) rfl rfl rfl rfl hb40 rfl (Y24 (Ok.lendE ((Zj0 r14 r7).h _ g42) (FrzT.cons (os := [_]) (Frz.deep Ye0) (fT (FrzT.nil))) (Y44.val _)) rfl rfl) ?_
    exact go
   intro x43 h
   replace h : Zkh p0 p1 p2 p3 p4 r7 r14 x43 = some r := h
   unfold Zkh at h
   refine cnd h (fun hb44 h => go) fun hb44 h => ?_
   refine AW.cf hb44 rfl ?_
   refine zw ?_
   refine ob' h fun r45 g46 h => ?_
   refine Ops.hd (ns := [1]) rfl rfl (Y24 (Zk8 r14 1 _ g46) rfl rfl) ?_
   refine zw ?_
   refine ob' h fun r47 g48 h => ?_
   refine Ops.hd (ns := [0]) rfl rfl (Y24 (Ok.lendE ((Zkg r45.2 1).h _ g48) (FrzT.cons (os := [_]) (Frz.deep Ye0) (fT (FrzT.nil))) (Y44.val _)) rfl rfl) ?_
   refine zw ?_
   refine cnd h (fun hb49 h => go) fun hb49 h => ?_
   refine AW.cf hb49 rfl ?_
   refine zw ?_
   refine cnd h (fun hb50 h => go) fun hb50 h => ?_
   refine AW.cf hb50 rfl ?_
   refine zw ?_
   refine oc h fun r51 g52 h => ?_
   refine zw ?_
   refine oc h fun r53 g54 h => ?_
   refine zw ?_
   refine oc h fun r55 g56 h => ?_
   refine zw ?_
   refine cnd h (fun hb57 h => ?_) fun hb57 h => ?_
   ·
    refine AW.cond rfl (fun hn => absurd ((Y3u hb57).symm.trans hn) (by decide)) (fun _ => ?_)
    refine zw ?_
    refine ob' h fun r58 g59 h => ?_
    refine Ops.hd (ns := [0]) rfl rfl (Y24 (Ok.lendE ((Zkg r45.2 1).h _ g59) (FrzT.cons (os := [_]) (Frz.deep Ye0) (fT (FrzT.nil))) (Y44.val _)) rfl rfl) ?_
    exact go
   exact go
  exact go
 exact go

end Go.Proofs.YtbgichfjcnibpaaGreat
