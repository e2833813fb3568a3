/- Printed by gen.py: plain functions for Go functions, and that the walks keep to them. -/
import Derived.Test.YtbgichfjcnibpaaGreatTQ7
set_option autoImplicit false
set_option linter.unusedVariables false
set_option linter.unusedSimpArgs false
set_option maxHeartbeats 1000000
set_option maxRecDepth 100000
namespace Go.Proofs.YtbgichfjcnibpaaGreat
open Go Go.Abs
attribute [local irreducible] AW Ops OpsD Y3n
def Zjk : Option Bool := some true
def Zjl (p0 : List Y91) (p1 : List Y91) (x10 : Int) : Option (Int ⊕ (Bool ⊕ Unit)) := cond (decide (x10 < (p0.length : Int))) ((getI p0 x10).bind fun e12 => (getI p1 x10).bind fun e14 => (Zji e12 e14).bind fun r16 => cond r16 (some (.inl (IntKind.i64.wrap (x10 + 1)))) (some (.inr (.inl false)))) (some (.inr (.inr ())))
def Zjm (p0 : List Y91) (p1 : List Y91) : Option Bool := cond ((p0.length : Int) != (p1.length : Int)) (some false) ((iter (Zjl p0 p1) big 0).bind (fun z20 => match z20 with | .inl y19 => some y19 | .inr () => Zjk))
instance Zjn (p0 : List Y91) (p1 : List Y91) : Sp Tryz.prog 51 [cM Y9d 2 p0, cM Y9d 2 p1] (Zjm p0 p1) C.bool := sp Tryz.func51 rfl rfl fun r X h => by
 unfold Zjm at h
 refine zw ?_
 refine cnd h (fun hb1 h => go) fun hb1 h => ?_
 refine AW.cf hb1 rfl ?_
 refine zw ?_
 refine AW.lp (v := ()) h (fun x10 (_ : Unit) => ⟨[(0, cM Y9d 2 p0), (1, cM Y9d 2 p1), (5, cI x10)], []⟩) (gb []) ?_
 rintro x10 _ y26 h
 refine zw ?_
 refine cnd h (fun hb11 h => ?_) fun hb11 h => ?_
 ·
  refine AW.ct hb11 rfl ?_
  refine zw ?_
  refine rD [] [3,7] [] [0,4,8,13,16,20,24,29,34,36] ?_
  exact go
 exact go

def Zjo (p0 : Y93) (p1 : Y93) : Option Bool := (Zjg p0.rooms p1.rooms).bind fun r3 => cond r3 ((Zjm p0.stream p1.stream).bind fun r6 => cond r6 (some true) (some false)) (some false)
instance Zjp (p0 : Y93) (p1 : Y93) : Sp Tryz.prog 18 [C.agg [cM Y9g 3 p0.rooms, cM Y9d 2 p0.stream], C.agg [cM Y9g 3 p1.rooms, cM Y9d 2 p1.stream]] (Zjo p0 p1) C.bool := sp Tryz.func18 rfl rfl fun r X h => go

def Zjq (x12 : ByteArray) : Option ByteArray := (chk (decide ((ByteArray.mk #[109]).size + x12.size ≤ 9223372036854775807))).bind fun u14 => some ((ByteArray.mk #[109]) ++ x12)
def Zjr (x6 : Int) (x7 : ByteArray) : Option ((Int × ByteArray) ⊕ (ByteArray)) := cond (decide (x6 > 0)) ((chk (decide ((Y6w [(IntKind.u8.wrap (IntKind.i64.wrap (48 + (Int.tmod x6 10))))]).size + x7.size ≤ 9223372036854775807))).bind fun u11 => some (.inl ((IntKind.i64.wrap (Int.tdiv x6 10)), ((Y6w [(IntKind.u8.wrap (IntKind.i64.wrap (48 + (Int.tmod x6 10))))]) ++ x7)))) (some (.inr x7))
def Zjs (p0 : Int) : Option ByteArray := cond (decide (p0 ≤ 0)) (some (ByteArray.mk #[109, 48])) ((iter (fun z15 => Zjr z15.1 z15.2) big (p0, ByteArray.empty)).bind fun y16 => Zjq y16)
instance Zjt (p0 : Int) : Sp Tryz.prog 125 [cI p0] (Zjs p0) C.str := sp Tryz.func125 rfl rfl fun r X h => by
 unfold Zjs at h
 refine zw ?_
 refine cnd h (fun hb1 h => go) fun hb1 h => ?_
 refine AW.cf hb1 rfl ?_
 refine AW.skip ?_
 refine AW.seq ?_
 refine AW.region ?_
 refine Ops.v rfl (Yr rfl rfl) ?_
 refine Ops.nil ?_
 refine AW.seq ?_
 refine AW.cut (τ := ByteArray) (fun x12 => ⟨[(3, C.str x12)], []⟩) (fun x12 => Zjq x12 = some r) ?_ ?_
 ·
  refine zw ?_
  refine AW.lp (v := ()) h (fun (x6, x7) (_ : Unit) => ⟨[(0, cI x6), (3, C.str x7)], []⟩) (gb []) ?_
  rintro ⟨x6, x7⟩ _ y22 h
  refine zw ?_
  refine cnd h (fun hb8 h => ?_) fun hb8 h => ?_
  ·
   refine AW.ct hb8 rfl ?_
   refine zw ?_
   refine Ops.v rfl (Yw rfl rfl (by decide) rfl) ?_
   refine zw ?_
   refine Ops.v rfl (Y12 un_3 un_5 rfl rfl) ?_
   refine Ops.h (ns := []) rfl rfl (Y39 (k := kU8) (ys := [(IntKind.u8.wrap (IntKind.i64.wrap (48 + (Int.tmod x6 10))))]) Ye4 (.one rfl (One.val rfl) rfl rfl .nil) rfl rfl rfl) ?_
   rintro _ _ ⟨b9, rfl, rfl⟩
   refine Ops.v rfl (Y70 (p := 0) Ye5 un_9 (fun _ => rfl) rfl rfl rfl) ?_
   refine zw ?_
   refine ob' h fun u11 c10 h => ?_
   refine Ops.v rfl (Y71 rfl rfl (Wo (Y3t c10)) rfl) ?_
   refine zw ?_
   refine Ops.v rfl (Yx rfl rfl (by decide) rfl) ?_
   exact go
  exact go
 intro x12 h
 replace h : Zjq x12 = some r := h
 unfold Zjq at h
 refine zw ?_
 refine ob' h fun u14 c13 h => ?_
 refine Ops.v rfl (Y71 rfl rfl (Wo (Y3t c13)) rfl) ?_
 exact go

def Zju (x10 : Int) (l11 : List Int) : Option (Int × List Int) := some (x10, l11)
def Zjv (l4 : List Int) (x5 : Int) (x6 : Int) : Option ((List Int × Int × Int) ⊕ ((Int × List Int))) := cond (decide (x6 < (l4.length : Int))) ((getI l4 x6).bind fun e8 => some (.inl ((List.set l4 (Int.toNat x6) x5), (IntKind.i64.wrap (x5 + 1)), (IntKind.i64.wrap (x6 + 1))))) (some (.inr (x5, l4)))
def Zjw (p0 : List Int) (p1 : Int) : Option (Int × List Int) := (iter (fun z12 => Zjv z12.1 z12.2.1 z12.2.2) big (p0, p1, 0)).bind fun (y13, y14) => Zju y13 y14
theorem Zjx {w00 : Value} (p0 : List Int) (p1 : Int) (r : Int × List Int) (h : Zjw p0 p1 = some r) : Ok Tryz.prog 36 [cV w00, cI p1] [oA w00 2 kI64 1 p0] (fun c qs => c = cI r.1 ∧ qs = [oA w00 2 kI64 1 r.2]) := by
 refine Ok.of_body (rs := [.tmp 4]) Tryz.func36 rfl rfl rfl rfl rfl fun X => ?_
 unfold Zjw at h
 refine AW.seq ?_
 refine AW.region ?_
 refine Ops.v rfl (Yr rfl rfl) ?_
 refine Ops.nil ?_
 refine AW.seq ?_
 refine AW.cut (τ := Int × List Int) (fun (x10, l11) => ⟨[(1, cI x10)], [oA w00 2 kI64 1 l11]⟩) (fun (x10, l11) => Zju x10 l11 = some r) ?_ ?_
 ·
  refine zw ?_
  refine AW.lp (v := ()) h (fun (l4, x5, x6) (_ : Unit) => ⟨[(0, cV w00), (1, cI x5), (5, cI x6)], [oA w00 2 kI64 1 l4]⟩) (gb [0]) ?_
  rintro ⟨l4, x5, x6⟩ _ y20 h
  refine zw ?_
  refine cnd h (fun hb7 h => ?_) fun hb7 h => ?_
  ·
   refine AW.ct hb7 rfl ?_
   refine zw ?_
   refine oi h fun e8 g9 h => ?_
   refine Ops.hd (ns := [0]) rfl rfl (Y33 (e' := x5) ld_2.h rfl rfl (One.val rfl) (Y29 g9).2.2 rfl rfl) ?_
   exact go
  exact go
 rintro ⟨x10, l11⟩ h
 replace h : Zju x10 l11 = some r := h
 unfold Zju at h
 refine zw ?_
 refine AW.ret ?_
 rw [← Wj h]
 exact ⟨[cI x10], _, Y21.refl _, (.cons (.tmp rfl) .nil), [0], _, _, rfl, ⟨rfl, rfl⟩⟩

def Zjy (x52 : Int) (l53 : List Y8z) : Option (Int × List Y8z) := some (x52, l53)
def Zjz (l25 : List Y8z) (x26 : Int) (x27 : Int) : Option ((List Y8z × Int × Int) ⊕ ((Int × List Y8z))) := cond (decide (x27 < (l25.length : Int))) ((getI l25 x27).bind fun e29 => (getI (List.set l25 (Int.toNat x27) (Y8z.mk x26 e29.room e29.author e29.kind e29.key e29.n e29.text e29.prev e29.time)) x27).bind fun e31 => (getI (List.set (List.set l25 (Int.toNat x27) (Y8z.mk x26 e29.room e29.author e29.kind e29.key e29.n e29.text e29.prev e29.time)) (Int.toNat x27) (Y8z.mk e31.id (IntKind.i64.wrap (x26 + 1)) e31.author e31.kind e31.key e31.n e31.text e31.prev e31.time)) x27).bind fun e33 => (getI (List.set (List.set (List.set l25 (Int.toNat x27) (Y8z.mk x26 e29.room e29.author e29.kind e29.key e29.n e29.text e29.prev e29.time)) (Int.toNat x27) (Y8z.mk e31.id (IntKind.i64.wrap (x26 + 1)) e31.author e31.kind e31.key e31.n e31.text e31.prev e31.time)) (Int.toNat x27) (Y8z.mk e33.id e33.room (IntKind.i64.wrap ((IntKind.i64.wrap (x26 + 1)) + 1)) e33.kind e33.key e33.n e33.text e33.prev e33.time)) x27).bind fun e35 => (getI (List.set (List.set (List.set (List.set l25 (Int.toNat x27) (Y8z.mk x26 e29.room e29.author e29.kind e29.key e29.n e29.text e29.prev e29.time)) (Int.toNat x27) (Y8z.mk e31.id (IntKind.i64.wrap (x26 + 1)) e31.author e31.kind e31.key e31.n e31.text e31.prev e31.time)) (Int.toNat x27) (Y8z.mk e33.id e33.room (IntKind.i64.wrap ((IntKind.i64.wrap (x26 + 1)) + 1)) e33.kind e33.key e33.n e33.text e33.prev e33.time)) (Int.toNat x27) (Y8z.mk e35.id e35.room e35.author (IntKind.i64.wrap ((IntKind.i64.wrap ((IntKind.i64.wrap (x26 + 1)) + 1)) + 1)) e35.key e35.n e35.text e35.prev e35.time)) x27).bind fun e37 => (getI (List.set (List.set (List.set (List.set (List.set l25 (Int.toNat x27) (Y8z.mk x26 e29.room e29.author e29.kind e29.key e29.n e29.text e29.prev e29.time)) (Int.toNat x27) (Y8z.mk e31.id (IntKind.i64.wrap (x26 + 1)) e31.author e31.kind e31.key e31.n e31.text e31.prev e31.time)) (Int.toNat x27) (Y8z.mk e33.id e33.room (IntKind.i64.wrap ((IntKind.i64.wrap (x26 + 1)) + 1)) e33.kind e33.key e33.n e33.text e33.prev e33.time)) (Int.toNat x27) (Y8z.mk e35.id e35.room e35.author (IntKind.i64.wrap ((IntKind.i64.wrap ((IntKind.i64.wrap (x26 + 1)) + 1)) + 1)) e35.key e35.n e35.text e35.prev e35.time)) (Int.toNat x27) (Y8z.mk e37.id e37.room e37.author e37.kind (IntKind.i64.wrap ((IntKind.i64.wrap ((IntKind.i64.wrap ((IntKind.i64.wrap (x26 + 1)) + 1)) + 1)) + 1)) e37.n e37.text e37.prev e37.time)) x27).bind fun e39 => (Zjs (IntKind.i64.wrap ((IntKind.i64.wrap ((IntKind.i64.wrap ((IntKind.i64.wrap ((IntKind.i64.wrap ((IntKind.i64.wrap (x26 + 1)) + 1)) + 1)) + 1)) + 1)) + 1))).bind fun r41 => (getI (List.set (List.set (List.set (List.set (List.set (List.set l25 (Int.toNat x27) (Y8z.mk x26 e29.room e29.author e29.kind e29.key e29.n e29.text e29.prev e29.time)) (Int.toNat x27) (Y8z.mk e31.id (IntKind.i64.wrap (x26 + 1)) e31.author e31.kind e31.key e31.n e31.text e31.prev e31.time)) (Int.toNat x27) (Y8z.mk e33.id e33.room (IntKind.i64.wrap ((IntKind.i64.wrap (x26 + 1)) + 1)) e33.kind e33.key e33.n e33.text e33.prev e33.time)) (Int.toNat x27) (Y8z.mk e35.id e35.room e35.author (IntKind.i64.wrap ((IntKind.i64.wrap ((IntKind.i64.wrap (x26 + 1)) + 1)) + 1)) e35.key e35.n e35.text e35.prev e35.time)) (Int.toNat x27) (Y8z.mk e37.id e37.room e37.author e37.kind (IntKind.i64.wrap ((IntKind.i64.wrap ((IntKind.i64.wrap ((IntKind.i64.wrap (x26 + 1)) + 1)) + 1)) + 1)) e37.n e37.text e37.prev e37.time)) (Int.toNat x27) (Y8z.mk e39.id e39.room e39.author e39.kind e39.key (IntKind.i64.wrap ((IntKind.i64.wrap ((IntKind.i64.wrap ((IntKind.i64.wrap ((IntKind.i64.wrap (x26 + 1)) + 1)) + 1)) + 1)) + 1)) e39.text e39.prev e39.time)) x27).bind fun e43 => (getI (List.set (List.set (List.set (List.set (List.set (List.set (List.set l25 (Int.toNat x27) (Y8z.mk x26 e29.room e29.author e29.kind e29.key e29.n e29.text e29.prev e29.time)) (Int.toNat x27) (Y8z.mk e31.id (IntKind.i64.wrap (x26 + 1)) e31.author e31.kind e31.key e31.n e31.text e31.prev e31.time)) (Int.toNat x27) (Y8z.mk e33.id e33.room (IntKind.i64.wrap ((IntKind.i64.wrap (x26 + 1)) + 1)) e33.kind e33.key e33.n e33.text e33.prev e33.time)) (Int.toNat x27) (Y8z.mk e35.id e35.room e35.author (IntKind.i64.wrap ((IntKind.i64.wrap ((IntKind.i64.wrap (x26 + 1)) + 1)) + 1)) e35.key e35.n e35.text e35.prev e35.time)) (Int.toNat x27) (Y8z.mk e37.id e37.room e37.author e37.kind (IntKind.i64.wrap ((IntKind.i64.wrap ((IntKind.i64.wrap ((IntKind.i64.wrap (x26 + 1)) + 1)) + 1)) + 1)) e37.n e37.text e37.prev e37.time)) (Int.toNat x27) (Y8z.mk e39.id e39.room e39.author e39.kind e39.key (IntKind.i64.wrap ((IntKind.i64.wrap ((IntKind.i64.wrap ((IntKind.i64.wrap ((IntKind.i64.wrap (x26 + 1)) + 1)) + 1)) + 1)) + 1)) e39.text e39.prev e39.time)) (Int.toNat x27) (Y8z.mk e43.id e43.room e43.author e43.kind e43.key e43.n r41 e43.prev e43.time)) x27).bind fun e45 => (Zjw e45.prev (IntKind.i64.wrap ((IntKind.i64.wrap ((IntKind.i64.wrap ((IntKind.i64.wrap ((IntKind.i64.wrap ((IntKind.i64.wrap ((IntKind.i64.wrap (x26 + 1)) + 1)) + 1)) + 1)) + 1)) + 1)) + 1))).bind fun r48 => (getI (List.set (List.set (List.set (List.set (List.set (List.set (List.set (List.set l25 (Int.toNat x27) (Y8z.mk x26 e29.room e29.author e29.kind e29.key e29.n e29.text e29.prev e29.time)) (Int.toNat x27) (Y8z.mk e31.id (IntKind.i64.wrap (x26 + 1)) e31.author e31.kind e31.key e31.n e31.text e31.prev e31.time)) (Int.toNat x27) (Y8z.mk e33.id e33.room (IntKind.i64.wrap ((IntKind.i64.wrap (x26 + 1)) + 1)) e33.kind e33.key e33.n e33.text e33.prev e33.time)) (Int.toNat x27) (Y8z.mk e35.id e35.room e35.author (IntKind.i64.wrap ((IntKind.i64.wrap ((IntKind.i64.wrap (x26 + 1)) + 1)) + 1)) e35.key e35.n e35.text e35.prev e35.time)) (Int.toNat x27) (Y8z.mk e37.id e37.room e37.author e37.kind (IntKind.i64.wrap ((IntKind.i64.wrap ((IntKind.i64.wrap ((IntKind.i64.wrap (x26 + 1)) + 1)) + 1)) + 1)) e37.n e37.text e37.prev e37.time)) (Int.toNat x27) (Y8z.mk e39.id e39.room e39.author e39.kind e39.key (IntKind.i64.wrap ((IntKind.i64.wrap ((IntKind.i64.wrap ((IntKind.i64.wrap ((IntKind.i64.wrap (x26 + 1)) + 1)) + 1)) + 1)) + 1)) e39.text e39.prev e39.time)) (Int.toNat x27) (Y8z.mk e43.id e43.room e43.author e43.kind e43.key e43.n r41 e43.prev e43.time)) (Int.toNat x27) (Y8z.mk e45.id e45.room e45.author e45.kind e45.key e45.n e45.text r48.2 e45.time)) x27).bind fun e50 => some (.inl ((List.set (List.set (List.set (List.set (List.set (List.set (List.set (List.set (List.set l25 (Int.toNat x27) (Y8z.mk x26 e29.room e29.author e29.kind e29.key e29.n e29.text e29.prev e29.time)) (Int.toNat x27) (Y8z.mk e31.id (IntKind.i64.wrap (x26 + 1)) e31.author e31.kind e31.key e31.n e31.text e31.prev e31.time)) (Int.toNat x27) (Y8z.mk e33.id e33.room (IntKind.i64.wrap ((IntKind.i64.wrap (x26 + 1)) + 1)) e33.kind e33.key e33.n e33.text e33.prev e33.time)) (Int.toNat x27) (Y8z.mk e35.id e35.room e35.author (IntKind.i64.wrap ((IntKind.i64.wrap ((IntKind.i64.wrap (x26 + 1)) + 1)) + 1)) e35.key e35.n e35.text e35.prev e35.time)) (Int.toNat x27) (Y8z.mk e37.id e37.room e37.author e37.kind (IntKind.i64.wrap ((IntKind.i64.wrap ((IntKind.i64.wrap ((IntKind.i64.wrap (x26 + 1)) + 1)) + 1)) + 1)) e37.n e37.text e37.prev e37.time)) (Int.toNat x27) (Y8z.mk e39.id e39.room e39.author e39.kind e39.key (IntKind.i64.wrap ((IntKind.i64.wrap ((IntKind.i64.wrap ((IntKind.i64.wrap ((IntKind.i64.wrap (x26 + 1)) + 1)) + 1)) + 1)) + 1)) e39.text e39.prev e39.time)) (Int.toNat x27) (Y8z.mk e43.id e43.room e43.author e43.kind e43.key e43.n r41 e43.prev e43.time)) (Int.toNat x27) (Y8z.mk e45.id e45.room e45.author e45.kind e45.key e45.n e45.text r48.2 e45.time)) (Int.toNat x27) (Y8z.mk e50.id e50.room e50.author e50.kind e50.key e50.n e50.text e50.prev r48.1)), (IntKind.i64.wrap (r48.1 + 1)), (IntKind.i64.wrap (x27 + 1))))) (some (.inr (x26, l25)))
def Zk0 (p0 : List Y8z) (p1 : Int) : Option (Int × List Y8z) := (iter (fun z54 => Zjz z54.1 z54.2.1 z54.2.2) big (p0, p1, 0)).bind fun (y55, y56) => Zjy y55 y56
theorem Zk1 {w00 : Value} (p0 : List Y8z) (p1 : Int) (r : Int × List Y8z) (h : Zk0 p0 p1 = some r) : Ok Tryz.prog 146 [cV w00, cI p1] [Obj.deep w00 136 Y9e Y9f 9 p0] (fun c qs => c = cI r.1 ∧ qs = [Obj.deep w00 136 Y9e Y9f 9 r.2]) := by
 refine Ok.of_body (rs := [.tmp 4]) Tryz.func146 rfl rfl rfl rfl rfl fun X => ?_
 unfold Zk0 at h
 refine AW.seq ?_
 refine AW.region ?_
 refine Ops.v rfl (Yr rfl rfl) ?_
 refine Ops.nil ?_
 refine AW.seq ?_
 refine AW.cut (τ := Int × List Y8z) (fun (x52, l53) => ⟨[(1, cI x52)], [Obj.deep w00 136 Y9e Y9f 9 l53]⟩) (fun (x52, l53) => Zjy x52 l53 = some r) ?_ ?_
 ·
  refine zw ?_
  refine AW.lp (v := ()) h (fun (l25, x26, x27) (_ : Unit) => ⟨[(0, cV w00), (1, cI x26), (5, cI x27)], [Obj.deep w00 136 Y9e Y9f 9 l25]⟩) (gb [0]) ?_
  rintro ⟨l25, x26, x27⟩ _ y62 h
  refine zw ?_
  refine Ops.v rfl (Y5w (p := 0) Yax.h rfl rfl rfl) ?_
  refine zw ?_
  refine cnd h (fun hb28 h => ?_) fun hb28 h => ?_
  ·
   refine AW.ct hb28 rfl ?_
   refine zw ?_
   refine ob' h fun e29 g30 h => ?_
   refine Ops.v rfl (Y5y (p := 0) Yax.h rfl rfl rfl g30 rfl) ?_
   refine Ops.v rfl (Y5z (p := 0) Yae.h rfl rfl (Y29 g30).2.2 rfl) ?_
   refine Ops.hd (ns := [0]) rfl rfl (Y61 (e' := (Y8z.mk x26 e29.room e29.author e29.kind e29.key e29.n e29.text e29.prev e29.time)) ld_2.h rfl rfl (One.val rfl) (Y29 g30).2.2 (fun _ => rfl) (fun _ => rfl) (fun _ => rfl)) ?_
   refine zw ?_
   refine ob' h fun e31 g32 h => ?_
   refine Ops.v rfl (Y5y (p := 0) Yax.h rfl rfl rfl g32 rfl) ?_
   refine Ops.v rfl (Y5z (p := 0) Yag.h rfl rfl (Y29 g32).2.2 rfl) ?_
   refine Ops.hd (ns := [0]) rfl rfl (Y61 (e' := (Y8z.mk e31.id (IntKind.i64.wrap (x26 + 1)) e31.author e31.kind e31.key e31.n e31.text e31.prev e31.time)) ld_2.h rfl rfl (One.val rfl) (Y29 g32).2.2 (fun _ => rfl) (fun _ => rfl) (fun _ => rfl)) ?_
   refine zw ?_
   refine ob' h fun e33 g34 h => ?_
   refine Ops.v rfl (Y5y (p := 0) Yax.h rfl rfl rfl g34 rfl) ?_
   refine Ops.v rfl (Y5z (p := 0) Yai.h rfl rfl (Y29 g34).2.2 rfl) ?_
   refine Ops.hd (ns := [0]) rfl rfl (Y61 (e' := (Y8z.mk e33.id e33.room (IntKind.i64.wrap ((IntKind.i64.wrap (x26 + 1)) + 1)) e33.kind e33.key e33.n e33.text e33.prev e33.time)) ld_2.h rfl rfl (One.val rfl) (Y29 g34).2.2 (fun _ => rfl) (fun _ => rfl) (fun _ => rfl)) ?_
   refine zw ?_
   refine ob' h fun e35 g36 h => ?_
   refine Ops.v rfl (Y5y (p := 0) Yax.h rfl rfl rfl g36 rfl) ?_
   refine Ops.v rfl (Y5z (p := 0) Yak.h rfl rfl (Y29 g36).2.2 rfl) ?_
   refine Ops.hd (ns := [0]) rfl rfl (Y61 (e' := (Y8z.mk e35.id e35.room e35.author (IntKind.i64.wrap ((IntKind.i64.wrap ((IntKind.i64.wrap (x26 + 1)) + 1)) + 1)) e35.key e35.n e35.text e35.prev e35.time)) ld_2.h rfl rfl (One.val rfl) (Y29 g36).2.2 (fun _ => rfl) (fun _ => rfl) (fun _ => rfl)) ?_
   refine zw ?_
   refine ob' h fun e37 g38 h => ?_
   refine Ops.v rfl (Y5y (p := 0) Yax.h rfl rfl rfl g38 rfl) ?_
   refine Ops.v rfl (Y5z (p := 0) Yam.h rfl rfl (Y29 g38).2.2 rfl) ?_
   refine Ops.hd (ns := [0]) rfl rfl (Y61 (e' := (Y8z.mk e37.id e37.room e37.author e37.kind (IntKind.i64.wrap ((IntKind.i64.wrap ((IntKind.i64.wrap ((IntKind.i64.wrap (x26 + 1)) + 1)) + 1)) + 1)) e37.n e37.text e37.prev e37.time)) ld_2.h rfl rfl (One.val rfl) (Y29 g38).2.2 (fun _ => rfl) (fun _ => rfl) (fun _ => rfl)) ?_
   refine zw ?_
   refine ob' h fun e39 g40 h => ?_
   refine Ops.v rfl (Y5y (p := 0) Yax.h rfl rfl rfl g40 rfl) ?_
   refine Ops.v rfl (Y5z (p := 0) Yao.h rfl rfl (Y29 g40).2.2 rfl) ?_
   refine Ops.hd (ns := [0]) rfl rfl (Y61 (e' := (Y8z.mk e39.id e39.room e39.author e39.kind e39.key (IntKind.i64.wrap ((IntKind.i64.wrap ((IntKind.i64.wrap ((IntKind.i64.wrap ((IntKind.i64.wrap (x26 + 1)) + 1)) + 1)) + 1)) + 1)) e39.text e39.prev e39.time)) ld_2.h rfl rfl (One.val rfl) (Y29 g40).2.2 (fun _ => rfl) (fun _ => rfl) (fun _ => rfl)) ?_
   refine zw ?_
   refine oc h fun r41 g42 h => ?_
   refine ob' h fun e43 g44 h => ?_
   refine Ops.v rfl (Y5y (p := 0) Yax.h rfl rfl rfl g44 rfl) ?_
   refine Ops.v rfl (Y5z (p := 0) Yap.h rfl rfl (Y29 g44).2.2 rfl) ?_
   refine Ops.hd (ns := [0]) rfl rfl (Y61 (e' := (Y8z.mk e43.id e43.room e43.author e43.kind e43.key e43.n r41 e43.prev e43.time)) ld_9.h rfl rfl (One.val rfl) (Y29 g44).2.2 (fun _ => rfl) (fun _ => rfl) (fun _ => rfl)) ?_
   refine zw ?_
   refine ob' h fun e45 g46 h => ?_
   refine Ops.v rfl (Y5y (p := 0) Yax.h rfl rfl rfl g46 rfl) ?_
   refine Ops.v rfl (Y5z (p := 0) Yaq.h rfl rfl (Y29 g46).2.2 rfl) ?_
   refine Ops.take (p := 0) rfl (Y29 g46).2.2 fun q47 => ?_
   refine Ops.v rfl (Y60 (p := 1) Y9y.h rfl rfl (Y29 g46).2.2 rfl rfl) ?_
   refine zw ?_
   refine ob' h fun r48 g49 h => ?_
   refine Ops.hd (ns := [0]) rfl rfl (Y24 (Zjx e45.prev (IntKind.i64.wrap ((IntKind.i64.wrap ((IntKind.i64.wrap ((IntKind.i64.wrap ((IntKind.i64.wrap ((IntKind.i64.wrap ((IntKind.i64.wrap (x26 + 1)) + 1)) + 1)) + 1)) + 1)) + 1)) + 1)) _ g49) rfl rfl) ?_
   refine Ops.ghost (Y21.back (x' := (Y8z.mk e45.id e45.room e45.author e45.kind e45.key e45.n e45.text r48.2 e45.time)) (ns := [1, 0]) rfl (Y29 g46).2.2 rfl rfl) ?_
   refine zw ?_
   refine ob' h fun e50 g51 h => ?_
   refine Ops.v rfl (Y5y (p := 0) Yax.h rfl rfl rfl g51 rfl) ?_
   refine Ops.v rfl (Y5z (p := 0) Yas.h rfl rfl (Y29 g51).2.2 rfl) ?_
   refine Ops.hd (ns := [0]) rfl rfl (Y61 (e' := (Y8z.mk e50.id e50.room e50.author e50.kind e50.key e50.n e50.text e50.prev r48.1)) ld_2.h rfl rfl (One.val rfl) (Y29 g51).2.2 (fun _ => rfl) (fun _ => rfl) (fun _ => rfl)) ?_
   exact go
  exact go
 rintro ⟨x52, l53⟩ h
 replace h : Zjy x52 l53 = some r := h
 unfold Zjy at h
 refine zw ?_
 refine AW.ret ?_
 rw [← Wj h]
 exact ⟨[cI x52], _, Y21.refl _, (.cons (.tmp rfl) .nil), [0], _, _, rfl, ⟨rfl, rfl⟩⟩

def Zk2 (x30 : Int) (l31 : List Y92) : Option (Int × List Y92) := some (x30, l31)
def Zk3 (l14 : List Y92) (x15 : Int) (x16 : Int) : Option ((List Y92 × Int × Int) ⊕ ((Int × List Y92))) := cond (decide (x16 < (l14.length : Int))) ((getI l14 x16).bind fun e18 => (getI (List.set l14 (Int.toNat x16) (Y92.mk x15 e18.events e18.parked)) x16).bind fun e20 => (Zk0 e20.events (IntKind.i64.wrap (x15 + 1))).bind fun r23 => (getI (List.set (List.set l14 (Int.toNat x16) (Y92.mk x15 e18.events e18.parked)) (Int.toNat x16) (Y92.mk e20.room r23.2 e20.parked)) x16).bind fun e25 => (Zk0 e25.parked r23.1).bind fun r28 => some (.inl ((List.set (List.set (List.set l14 (Int.toNat x16) (Y92.mk x15 e18.events e18.parked)) (Int.toNat x16) (Y92.mk e20.room r23.2 e20.parked)) (Int.toNat x16) (Y92.mk e25.room e25.events r28.2)), r28.1, (IntKind.i64.wrap (x16 + 1))))) (some (.inr (x15, l14)))
def Zk4 (p0 : List Y92) (p1 : Int) : Option (Int × List Y92) := (iter (fun z32 => Zk3 z32.1 z32.2.1 z32.2.2) big (p0, p1, 0)).bind fun (y33, y34) => Zk2 y33 y34
theorem Zk5 {w00 : Value} (p0 : List Y92) (p1 : Int) (r : Int × List Y92) (h : Zk4 p0 p1 = some r) : Ok Tryz.prog 78 [cV w00, cI p1] [Obj.deep w00 139 Y9h Y9i 3 p0] (fun c qs => c = cI r.1 ∧ qs = [Obj.deep w00 139 Y9h Y9i 3 r.2]) := by
 refine Ok.of_body (rs := [.tmp 4]) Tryz.func78 rfl rfl rfl rfl rfl fun X => ?_
 unfold Zk4 at h
 refine AW.seq ?_
 refine AW.region ?_
 refine Ops.v rfl (Yr rfl rfl) ?_
 refine Ops.nil ?_
 refine AW.seq ?_
 refine AW.cut (τ := Int × List Y92) (fun (x30, l31) => ⟨[(1, cI x30)], [Obj.deep w00 139 Y9h Y9i 3 l31]⟩) (fun (x30, l31) => Zk2 x30 l31 = some r) ?_ ?_
 ·
  refine zw ?_
  refine AW.lp (v := ()) h (fun (l14, x15, x16) (_ : Unit) => ⟨[(0, cV w00), (1, cI x15), (5, cI x16)], [Obj.deep w00 139 Y9h Y9i 3 l14]⟩) (gb [0]) ?_
  rintro ⟨l14, x15, x16⟩ _ y40 h
  refine zw ?_
  refine Ops.v rfl (Y5w (p := 0) Yb7.h rfl rfl rfl) ?_
  refine zw ?_
  refine cnd h (fun hb17 h => ?_) fun hb17 h => ?_
  ·
   refine AW.ct hb17 rfl ?_
   refine zw ?_
   refine ob' h fun e18 g19 h => ?_
   refine Ops.v rfl (Y5y (p := 0) Yb7.h rfl rfl rfl g19 rfl) ?_
   refine Ops.v rfl (Y5z (p := 0) Yb0.h rfl rfl (Y29 g19).2.2 rfl) ?_
   refine Ops.hd (ns := [0]) rfl rfl (Y61 (e' := (Y92.mk x15 e18.events e18.parked)) ld_2.h rfl rfl (One.val rfl) (Y29 g19).2.2 (fun _ => rfl) (fun _ => rfl) (fun _ => rfl)) ?_
   refine zw ?_
   refine ob' h fun e20 g21 h => ?_
   refine Ops.v rfl (Y5y (p := 0) Yb7.h rfl rfl rfl g21 rfl) ?_
   refine Ops.v rfl (Y5z (p := 0) Yb1.h rfl rfl (Y29 g21).2.2 rfl) ?_
   refine Ops.take (p := 0) rfl (Y29 g21).2.2 fun q22 => ?_
   refine Ops.v rfl (Y60 (p := 2) Yb2.h rfl rfl (Y29 g21).2.2 rfl rfl) ?_
   refine zw ?_
   refine ob' h fun r23 g24 h => ?_
   refine Ops.hd (ns := [0]) rfl rfl (Y24 (Zk1 e20.events (IntKind.i64.wrap (x15 + 1)) _ g24) rfl rfl) ?_
   refine Ops.ghost (Y21.back (x' := (Y92.mk e20.room r23.2 e20.parked)) (ns := [2, 0, 0]) rfl (Y29 g21).2.2 rfl rfl) ?_
   refine zw ?_
   refine ob' h fun e25 g26 h => ?_
   refine Ops.v rfl (Y5y (p := 0) Yb7.h rfl rfl rfl g26 rfl) ?_
   refine Ops.v rfl (Y5z (p := 0) Yb3.h rfl rfl (Y29 g26).2.2 rfl) ?_
   refine Ops.take (p := 0) rfl (Y29 g26).2.2 fun q27 => ?_
   refine Ops.v rfl (Y60 (p := 2) Yb2.h rfl rfl (Y29 g26).2.2 rfl rfl) ?_
   refine zw ?_
   refine ob' h fun r28 g29 h => ?_
   refine Ops.hd (ns := [1]) rfl rfl (Y24 (Zk1 e25.parked r23.1 _ g29) rfl rfl) ?_
   refine Ops.ghost (Y21.back (x' := (Y92.mk e25.room e25.events r28.2)) (ns := [2, 1, 0]) rfl (Y29 g26).2.2 rfl rfl) ?_
   exact go
  exact go
 rintro ⟨x30, l31⟩ h
 replace h : Zk2 x30 l31 = some r := h
 unfold Zk2 at h
 refine zw ?_
 refine AW.ret ?_
 rw [← Wj h]
 exact ⟨[cI x30], _, Y21.refl _, (.cons (.tmp rfl) .nil), [0], _, _, rfl, ⟨rfl, rfl⟩⟩

def Zk6 (x14 : Int) (l15 : List Y91) : Option (Int × List Y91) := some (x14, l15)
def Zk7 (l6 : List Y91) (x7 : Int) (x8 : Int) : Option ((List Y91 × Int × Int) ⊕ ((Int × List Y91))) := cond (decide (x8 < (l6.length : Int))) ((getI l6 x8).bind fun e10 => (getI (List.set l6 (Int.toNat x8) (Y91.mk x7 e10.id)) x8).bind fun e12 => some (.inl ((List.set (List.set l6 (Int.toNat x8) (Y91.mk x7 e10.id)) (Int.toNat x8) (Y91.mk e12.room (IntKind.i64.wrap (x7 + 1)))), (IntKind.i64.wrap ((IntKind.i64.wrap (x7 + 1)) + 1)), (IntKind.i64.wrap (x8 + 1))))) (some (.inr (x7, l6)))
def Zk8 (p0 : List Y91) (p1 : Int) : Option (Int × List Y91) := (iter (fun z16 => Zk7 z16.1 z16.2.1 z16.2.2) big (p0, p1, 0)).bind fun (y17, y18) => Zk6 y17 y18
theorem Zk9 {w00 : Value} (p0 : List Y91) (p1 : Int) (r : Int × List Y91) (h : Zk8 p0 p1 = some r) : Ok Tryz.prog 52 [cV w00, cI p1] [oA w00 142 Y9d 2 p0] (fun c qs => c = cI r.1 ∧ qs = [oA w00 142 Y9d 2 r.2]) := by
 refine Ok.of_body (rs := [.tmp 4]) Tryz.func52 rfl rfl rfl rfl rfl fun X => ?_
 unfold Zk8 at h
 refine AW.seq ?_
 refine AW.region ?_
 refine Ops.v rfl (Yr rfl rfl) ?_
 refine Ops.nil ?_
 refine AW.seq ?_
 refine AW.cut (τ := Int × List Y91) (fun (x14, l15) => ⟨[(1, cI x14)], [oA w00 142 Y9d 2 l15]⟩) (fun (x14, l15) => Zk6 x14 l15 = some r) ?_ ?_
 ·
  refine zw ?_
  refine AW.lp (v := ()) h (fun (l6, x7, x8) (_ : Unit) => ⟨[(0, cV w00), (1, cI x7), (5, cI x8)], [oA w00 142 Y9d 2 l6]⟩) (gb [0]) ?_
  rintro ⟨l6, x7, x8⟩ _ y24 h
  refine zw ?_
  refine cnd h (fun hb9 h => ?_) fun hb9 h => ?_
  ·
   refine AW.ct hb9 rfl ?_
   refine zw ?_
   refine oi h fun e10 g11 h => ?_
   refine Ops.v rfl (Y2y (p := 0) Yba.h rfl rfl (Y29 g11).2.2 rfl) ?_
   refine Ops.hd (ns := [0]) rfl rfl (Y33 (e' := (Y91.mk x7 e10.id)) ld_2.h rfl rfl (One.val rfl) (Y29 g11).2.2 rfl rfl) ?_
   refine zw ?_
   refine oi h fun e12 g13 h => ?_
   refine Ops.v rfl (Y2y (p := 0) Ybc.h rfl rfl (Y29 g13).2.2 rfl) ?_
   refine Ops.hd (ns := [0]) rfl rfl (Y33 (e' := (Y91.mk e12.room (IntKind.i64.wrap (x7 + 1)))) ld_2.h rfl rfl (One.val rfl) (Y29 g13).2.2 rfl rfl) ?_
   exact go
  exact go
 rintro ⟨x14, l15⟩ h
 replace h : Zk6 x14 l15 = some r := h
 unfold Zk6 at h
 refine zw ?_
 refine AW.ret ?_
 rw [← Wj h]
 exact ⟨[cI x14], _, Y21.refl _, (.cons (.tmp rfl) .nil), [0], _, _, rfl, ⟨rfl, rfl⟩⟩

def Zka (p0 : Y93) (p1 : Int) : Option (Int × List Y92 × List Y91) := (Zk4 p0.rooms p1).bind fun r2 => (Zk8 p0.stream r2.1).bind fun r4 => some (r4.1, r2.2, r4.2)
theorem Zkb {w00 : Value} {w01 : Value} (p0 : Y93) (p1 : Int) (r : Int × List Y92 × List Y91) (h : Zka p0 p1 = some r) : Ok Tryz.prog 19 [C.agg [cV w00, cV w01], cI p1] [Obj.deep w00 139 Y9h Y9i 3 p0.rooms, oA w01 142 Y9d 2 p0.stream] (fun c qs => c = cI r.1 ∧ qs = [Obj.deep w00 139 Y9h Y9i 3 r.2.1, oA w01 142 Y9d 2 r.2.2]) := by
 refine Ok.of_body (rs := [.tmp 4]) Tryz.func19 rfl rfl rfl rfl rfl fun X => ?_
 unfold Zka at h
 refine zw ?_
 refine ox fun b1 => ?_
 refine zw ?_
 refine ob' h fun r2 g3 h => ?_
 refine Ops.hd (ns := [1]) rfl rfl (Y24 (Zk5 p0.rooms p1 _ g3) rfl rfl) ?_
 refine zw ?_
 refine ob' h fun r4 g5 h => ?_
 refine Ops.hd (ns := [2]) rfl rfl (Y24 (Zk9 p0.stream r2.1 _ g5) rfl rfl) ?_
 refine zw ?_
 refine AW.ret ?_
 rw [← Wj h]
 exact ⟨[cI r4.1], _, Y21.refl _, (.cons (.tmp rfl) .nil), [1, 0], _, _, rfl, ⟨rfl, rfl⟩⟩

def Zkc (x56 : Int) (l57 : List Y97) : Option (Int × List Y97) := some (x56, l57)
def Zkd (l27 : List Y97) (x28 : Int) (x29 : Int) : Option ((List Y97 × Int × Int) ⊕ ((Int × List Y97))) := cond (decide (x29 < (l27.length : Int))) ((getI l27 x29).bind fun e31 => (getI (List.set l27 (Int.toNat x29) (Y97.mk (Y8z.mk x28 e31.event.room e31.event.author e31.event.kind e31.event.key e31.event.n e31.event.text e31.event.prev e31.event.time) e31.hidden)) x29).bind fun e33 => (getI (List.set (List.set l27 (Int.toNat x29) (Y97.mk (Y8z.mk x28 e31.event.room e31.event.author e31.event.kind e31.event.key e31.event.n e31.event.text e31.event.prev e31.event.time) e31.hidden)) (Int.toNat x29) (Y97.mk (Y8z.mk e33.event.id (IntKind.i64.wrap (x28 + 1)) e33.event.author e33.event.kind e33.event.key e33.event.n e33.event.text e33.event.prev e33.event.time) e33.hidden)) x29).bind fun e35 => (getI (List.set (List.set (List.set l27 (Int.toNat x29) (Y97.mk (Y8z.mk x28 e31.event.room e31.event.author e31.event.kind e31.event.key e31.event.n e31.event.text e31.event.prev e31.event.time) e31.hidden)) (Int.toNat x29) (Y97.mk (Y8z.mk e33.event.id (IntKind.i64.wrap (x28 + 1)) e33.event.author e33.event.kind e33.event.key e33.event.n e33.event.text e33.event.prev e33.event.time) e33.hidden)) (Int.toNat x29) (Y97.mk (Y8z.mk e35.event.id e35.event.room (IntKind.i64.wrap ((IntKind.i64.wrap (x28 + 1)) + 1)) e35.event.kind e35.event.key e35.event.n e35.event.text e35.event.prev e35.event.time) e35.hidden)) x29).bind fun e37 => (getI (List.set (List.set (List.set (List.set l27 (Int.toNat x29) (Y97.mk (Y8z.mk x28 e31.event.room e31.event.author e31.event.kind e31.event.key e31.event.n e31.event.text e31.event.prev e31.event.time) e31.hidden)) (Int.toNat x29) (Y97.mk (Y8z.mk e33.event.id (IntKind.i64.wrap (x28 + 1)) e33.event.author e33.event.kind e33.event.key e33.event.n e33.event.text e33.event.prev e33.event.time) e33.hidden)) (Int.toNat x29) (Y97.mk (Y8z.mk e35.event.id e35.event.room (IntKind.i64.wrap ((IntKind.i64.wrap (x28 + 1)) + 1)) e35.event.kind e35.event.key e35.event.n e35.event.text e35.event.prev e35.event.time) e35.hidden)) (Int.toNat x29) (Y97.mk (Y8z.mk e37.event.id e37.event.room e37.event.author (IntKind.i64.wrap ((IntKind.i64.wrap ((IntKind.i64.wrap (x28 + 1)) + 1)) + 1)) e37.event.key e37.event.n e37.event.text e37.event.prev e37.event.time) e37.hidden)) x29).bind fun e39 => (getI (List.set (List.set (List.set (List.set (List.set l27 (Int.toNat x29) (Y97.mk (Y8z.mk x28 e31.event.room e31.event.author e31.event.kind e31.event.key e31.event.n e31.event.text e31.event.prev e31.event.time) e31.hidden)) (Int.toNat x29) (Y97.mk (Y8z.mk e33.event.id (IntKind.i64.wrap (x28 + 1)) e33.event.author e33.event.kind e33.event.key e33.event.n e33.event.text e33.event.prev e33.event.time) e33.hidden)) (Int.toNat x29) (Y97.mk (Y8z.mk e35.event.id e35.event.room (IntKind.i64.wrap ((IntKind.i64.wrap (x28 + 1)) + 1)) e35.event.kind e35.event.key e35.event.n e35.event.text e35.event.prev e35.event.time) e35.hidden)) (Int.toNat x29) (Y97.mk (Y8z.mk e37.event.id e37.event.room e37.event.author (IntKind.i64.wrap ((IntKind.i64.wrap ((IntKind.i64.wrap (x28 + 1)) + 1)) + 1)) e37.event.key e37.event.n e37.event.text e37.event.prev e37.event.time) e37.hidden)) (Int.toNat x29) (Y97.mk (Y8z.mk e39.event.id e39.event.room e39.event.author e39.event.kind (IntKind.i64.wrap ((IntKind.i64.wrap ((IntKind.i64.wrap ((IntKind.i64.wrap (x28 + 1)) + 1)) + 1)) + 1)) e39.event.n e39.event.text e39.event.prev e39.event.time) e39.hidden)) x29).bind fun e41 => (Zjs (IntKind.i64.wrap ((IntKind.i64.wrap ((IntKind.i64.wrap ((IntKind.i64.wrap ((IntKind.i64.wrap ((IntKind.i64.wrap (x28 + 1)) + 1)) + 1)) + 1)) + 1)) + 1))).bind fun r43 => (getI (List.set (List.set (List.set (List.set (List.set (List.set l27 (Int.toNat x29) (Y97.mk (Y8z.mk x28 e31.event.room e31.event.author e31.event.kind e31.event.key e31.event.n e31.event.text e31.event.prev e31.event.time) e31.hidden)) (Int.toNat x29) (Y97.mk (Y8z.mk e33.event.id (IntKind.i64.wrap (x28 + 1)) e33.event.author e33.event.kind e33.event.key e33.event.n e33.event.text e33.event.prev e33.event.time) e33.hidden)) (Int.toNat x29) (Y97.mk (Y8z.mk e35.event.id e35.event.room (IntKind.i64.wrap ((IntKind.i64.wrap (x28 + 1)) + 1)) e35.event.kind e35.event.key e35.event.n e35.event.text e35.event.prev e35.event.time) e35.hidden)) (Int.toNat x29) (Y97.mk (Y8z.mk e37.event.id e37.event.room e37.event.author (IntKind.i64.wrap ((IntKind.i64.wrap ((IntKind.i64.wrap (x28 + 1)) + 1)) + 1)) e37.event.key e37.event.n e37.event.text e37.event.prev e37.event.time) e37.hidden)) (Int.toNat x29) (Y97.mk (Y8z.mk e39.event.id e39.event.room e39.event.author e39.event.kind (IntKind.i64.wrap ((IntKind.i64.wrap ((IntKind.i64.wrap ((IntKind.i64.wrap (x28 + 1)) + 1)) + 1)) + 1)) e39.event.n e39.event.text e39.event.prev e39.event.time) e39.hidden)) (Int.toNat x29) (Y97.mk (Y8z.mk e41.event.id e41.event.room e41.event.author e41.event.kind e41.event.key (IntKind.i64.wrap ((IntKind.i64.wrap ((IntKind.i64.wrap ((IntKind.i64.wrap ((IntKind.i64.wrap (x28 + 1)) + 1)) + 1)) + 1)) + 1)) e41.event.text e41.event.prev e41.event.time) e41.hidden)) x29).bind fun e45 => (getI (List.set (List.set (List.set (List.set (List.set (List.set (List.set l27 (Int.toNat x29) (Y97.mk (Y8z.mk x28 e31.event.room e31.event.author e31.event.kind e31.event.key e31.event.n e31.event.text e31.event.prev e31.event.time) e31.hidden)) (Int.toNat x29) (Y97.mk (Y8z.mk e33.event.id (IntKind.i64.wrap (x28 + 1)) e33.event.author e33.event.kind e33.event.key e33.event.n e33.event.text e33.event.prev e33.event.time) e33.hidden)) (Int.toNat x29) (Y97.mk (Y8z.mk e35.event.id e35.event.room (IntKind.i64.wrap ((IntKind.i64.wrap (x28 + 1)) + 1)) e35.event.kind e35.event.key e35.event.n e35.event.text e35.event.prev e35.event.time) e35.hidden)) (Int.toNat x29) (Y97.mk (Y8z.mk e37.event.id e37.event.room e37.event.author (IntKind.i64.wrap ((IntKind.i64.wrap ((IntKind.i64.wrap (x28 + 1)) + 1)) + 1)) e37.event.key e37.event.n e37.event.text e37.event.prev e37.event.time) e37.hidden)) (Int.toNat x29) (Y97.mk (Y8z.mk e39.event.id e39.event.room e39.event.author e39.event.kind (IntKind.i64.wrap ((IntKind.i64.wrap ((IntKind.i64.wrap ((IntKind.i64.wrap (x28 + 1)) + 1)) + 1)) + 1)) e39.event.n e39.event.text e39.event.prev e39.event.time) e39.hidden)) (Int.toNat x29) (Y97.mk (Y8z.mk e41.event.id e41.event.room e41.event.author e41.event.kind e41.event.key (IntKind.i64.wrap ((IntKind.i64.wrap ((IntKind.i64.wrap ((IntKind.i64.wrap ((IntKind.i64.wrap (x28 + 1)) + 1)) + 1)) + 1)) + 1)) e41.event.text e41.event.prev e41.event.time) e41.hidden)) (Int.toNat x29) (Y97.mk (Y8z.mk e45.event.id e45.event.room e45.event.author e45.event.kind e45.event.key e45.event.n r43 e45.event.prev e45.event.time) e45.hidden)) x29).bind fun e47 => (Zjw e47.event.prev (IntKind.i64.wrap ((IntKind.i64.wrap ((IntKind.i64.wrap ((IntKind.i64.wrap ((IntKind.i64.wrap ((IntKind.i64.wrap ((IntKind.i64.wrap (x28 + 1)) + 1)) + 1)) + 1)) + 1)) + 1)) + 1))).bind fun r50 => (getI (List.set (List.set (List.set (List.set (List.set (List.set (List.set (List.set l27 (Int.toNat x29) (Y97.mk (Y8z.mk x28 e31.event.room e31.event.author e31.event.kind e31.event.key e31.event.n e31.event.text e31.event.prev e31.event.time) e31.hidden)) (Int.toNat x29) (Y97.mk (Y8z.mk e33.event.id (IntKind.i64.wrap (x28 + 1)) e33.event.author e33.event.kind e33.event.key e33.event.n e33.event.text e33.event.prev e33.event.time) e33.hidden)) (Int.toNat x29) (Y97.mk (Y8z.mk e35.event.id e35.event.room (IntKind.i64.wrap ((IntKind.i64.wrap (x28 + 1)) + 1)) e35.event.kind e35.event.key e35.event.n e35.event.text e35.event.prev e35.event.time) e35.hidden)) (Int.toNat x29) (Y97.mk (Y8z.mk e37.event.id e37.event.room e37.event.author (IntKind.i64.wrap ((IntKind.i64.wrap ((IntKind.i64.wrap (x28 + 1)) + 1)) + 1)) e37.event.key e37.event.n e37.event.text e37.event.prev e37.event.time) e37.hidden)) (Int.toNat x29) (Y97.mk (Y8z.mk e39.event.id e39.event.room e39.event.author e39.event.kind (IntKind.i64.wrap ((IntKind.i64.wrap ((IntKind.i64.wrap ((IntKind.i64.wrap (x28 + 1)) + 1)) + 1)) + 1)) e39.event.n e39.event.text e39.event.prev e39.event.time) e39.hidden)) (Int.toNat x29) (Y97.mk (Y8z.mk e41.event.id e41.event.room e41.event.author e41.event.kind e41.event.key (IntKind.i64.wrap ((IntKind.i64.wrap ((IntKind.i64.wrap ((IntKind.i64.wrap ((IntKind.i64.wrap (x28 + 1)) + 1)) + 1)) + 1)) + 1)) e41.event.text e41.event.prev e41.event.time) e41.hidden)) (Int.toNat x29) (Y97.mk (Y8z.mk e45.event.id e45.event.room e45.event.author e45.event.kind e45.event.key e45.event.n r43 e45.event.prev e45.event.time) e45.hidden)) (Int.toNat x29) (Y97.mk (Y8z.mk e47.event.id e47.event.room e47.event.author e47.event.kind e47.event.key e47.event.n e47.event.text r50.2 e47.event.time) e47.hidden)) x29).bind fun e52 => (getI (List.set (List.set (List.set (List.set (List.set (List.set (List.set (List.set (List.set l27 (Int.toNat x29) (Y97.mk (Y8z.mk x28 e31.event.room e31.event.author e31.event.kind e31.event.key e31.event.n e31.event.text e31.event.prev e31.event.time) e31.hidden)) (Int.toNat x29) (Y97.mk (Y8z.mk e33.event.id (IntKind.i64.wrap (x28 + 1)) e33.event.author e33.event.kind e33.event.key e33.event.n e33.event.text e33.event.prev e33.event.time) e33.hidden)) (Int.toNat x29) (Y97.mk (Y8z.mk e35.event.id e35.event.room (IntKind.i64.wrap ((IntKind.i64.wrap (x28 + 1)) + 1)) e35.event.kind e35.event.key e35.event.n e35.event.text e35.event.prev e35.event.time) e35.hidden)) (Int.toNat x29) (Y97.mk (Y8z.mk e37.event.id e37.event.room e37.event.author (IntKind.i64.wrap ((IntKind.i64.wrap ((IntKind.i64.wrap (x28 + 1)) + 1)) + 1)) e37.event.key e37.event.n e37.event.text e37.event.prev e37.event.time) e37.hidden)) (Int.toNat x29) (Y97.mk (Y8z.mk e39.event.id e39.event.room e39.event.author e39.event.kind (IntKind.i64.wrap ((IntKind.i64.wrap ((IntKind.i64.wrap ((IntKind.i64.wrap (x28 + 1)) + 1)) + 1)) + 1)) e39.event.n e39.event.text e39.event.prev e39.event.time) e39.hidden)) (Int.toNat x29) (Y97.mk (Y8z.mk e41.event.id e41.event.room e41.event.author e41.event.kind e41.event.key (IntKind.i64.wrap ((IntKind.i64.wrap ((IntKind.i64.wrap ((IntKind.i64.wrap ((IntKind.i64.wrap (x28 + 1)) + 1)) + 1)) + 1)) + 1)) e41.event.text e41.event.prev e41.event.time) e41.hidden)) (Int.toNat x29) (Y97.mk (Y8z.mk e45.event.id e45.event.room e45.event.author e45.event.kind e45.event.key e45.event.n r43 e45.event.prev e45.event.time) e45.hidden)) (Int.toNat x29) (Y97.mk (Y8z.mk e47.event.id e47.event.room e47.event.author e47.event.kind e47.event.key e47.event.n e47.event.text r50.2 e47.event.time) e47.hidden)) (Int.toNat x29) (Y97.mk (Y8z.mk e52.event.id e52.event.room e52.event.author e52.event.kind e52.event.key e52.event.n e52.event.text e52.event.prev r50.1) e52.hidden)) x29).bind fun e54 => some (.inl ((List.set (List.set (List.set (List.set (List.set (List.set (List.set (List.set (List.set (List.set l27 (Int.toNat x29) (Y97.mk (Y8z.mk x28 e31.event.room e31.event.author e31.event.kind e31.event.key e31.event.n e31.event.text e31.event.prev e31.event.time) e31.hidden)) (Int.toNat x29) (Y97.mk (Y8z.mk e33.event.id (IntKind.i64.wrap (x28 + 1)) e33.event.author e33.event.kind e33.event.key e33.event.n e33.event.text e33.event.prev e33.event.time) e33.hidden)) (Int.toNat x29) (Y97.mk (Y8z.mk e35.event.id e35.event.room (IntKind.i64.wrap ((IntKind.i64.wrap (x28 + 1)) + 1)) e35.event.kind e35.event.key e35.event.n e35.event.text e35.event.prev e35.event.time) e35.hidden)) (Int.toNat x29) (Y97.mk (Y8z.mk e37.event.id e37.event.room e37.event.author (IntKind.i64.wrap ((IntKind.i64.wrap ((IntKind.i64.wrap (x28 + 1)) + 1)) + 1)) e37.event.key e37.event.n e37.event.text e37.event.prev e37.event.time) e37.hidden)) (Int.toNat x29) (Y97.mk (Y8z.mk e39.event.id e39.event.room e39.event.author e39.event.kind (IntKind.i64.wrap ((IntKind.i64.wrap ((IntKind.i64.wrap ((IntKind.i64.wrap (x28 + 1)) + 1)) + 1)) + 1)) e39.event.n e39.event.text e39.event.prev e39.event.time) e39.hidden)) (Int.toNat x29) (Y97.mk (Y8z.mk e41.event.id e41.event.room e41.event.author e41.event.kind e41.event.key (IntKind.i64.wrap ((IntKind.i64.wrap ((IntKind.i64.wrap ((IntKind.i64.wrap ((IntKind.i64.wrap (x28 + 1)) + 1)) + 1)) + 1)) + 1)) e41.event.text e41.event.prev e41.event.time) e41.hidden)) (Int.toNat x29) (Y97.mk (Y8z.mk e45.event.id e45.event.room e45.event.author e45.event.kind e45.event.key e45.event.n r43 e45.event.prev e45.event.time) e45.hidden)) (Int.toNat x29) (Y97.mk (Y8z.mk e47.event.id e47.event.room e47.event.author e47.event.kind e47.event.key e47.event.n e47.event.text r50.2 e47.event.time) e47.hidden)) (Int.toNat x29) (Y97.mk (Y8z.mk e52.event.id e52.event.room e52.event.author e52.event.kind e52.event.key e52.event.n e52.event.text e52.event.prev r50.1) e52.hidden)) (Int.toNat x29) (Y97.mk e54.event ((Int.tmod (IntKind.i64.wrap (r50.1 + 1)) 3) == 0))), (IntKind.i64.wrap ((IntKind.i64.wrap (r50.1 + 1)) + 1)), (IntKind.i64.wrap (x29 + 1))))) (some (.inr (x28, l27)))
def Zke (p0 : List Y97) (p1 : Int) : Option (Int × List Y97) := (iter (fun z58 => Zkd z58.1 z58.2.1 z58.2.2) big (p0, p1, 0)).bind fun (y59, y60) => Zkc y59 y60
theorem Zkf {w00 : Value} (p0 : List Y97) (p1 : Int) (r : Int × List Y97) (h : Zke p0 p1 = some r) : Ok Tryz.prog 57 [cV w00, cI p1] [Obj.deep w00 160 Y9t Y9u 10 p0] (fun c qs => c = cI r.1 ∧ qs = [Obj.deep w00 160 Y9t Y9u 10 r.2]) := by
 refine Ok.of_body (rs := [.tmp 4]) Tryz.func57 rfl rfl rfl rfl rfl fun X => ?_
 unfold Zke at h
 refine AW.seq ?_
 refine AW.region ?_
 refine Ops.v rfl (Yr rfl rfl) ?_
 refine Ops.nil ?_
 refine AW.seq ?_
 refine AW.cut (τ := Int × List Y97) (fun (x56, l57) => ⟨[(1, cI x56)], [Obj.deep w00 160 Y9t Y9u 10 l57]⟩) (fun (x56, l57) => Zkc x56 l57 = some r) ?_ ?_
 ·
  refine zw ?_
  refine AW.lp (v := ()) h (fun (l27, x28, x29) (_ : Unit) => ⟨[(0, cV w00), (1, cI x28), (5, cI x29)], [Obj.deep w00 160 Y9t Y9u 10 l27]⟩) (gb [0]) ?_
  rintro ⟨l27, x28, x29⟩ _ y66 h
  refine zw ?_
  refine Ops.v rfl (Y5w (p := 0) Yd1.h rfl rfl rfl) ?_
  refine zw ?_
  refine cnd h (fun hb30 h => ?_) fun hb30 h => ?_
  ·
   refine AW.ct hb30 rfl ?_
   refine zw ?_
   refine ob' h fun e31 g32 h => ?_
   refine Ops.v rfl (Y5y (p := 0) Yd1.h rfl rfl rfl g32 rfl) ?_
   refine Ops.v rfl (Y5z (p := 0) Ydy.h rfl rfl (Y29 g32).2.2 rfl) ?_
   refine Ops.v rfl (Y5z (p := 0) Yae.h rfl rfl (Y29 g32).2.2 rfl) ?_
   refine Ops.hd (ns := [0]) rfl rfl (Y61 (e' := (Y97.mk (Y8z.mk x28 e31.event.room e31.event.author e31.event.kind e31.event.key e31.event.n e31.event.text e31.event.prev e31.event.time) e31.hidden)) ld_2.h rfl rfl (One.val rfl) (Y29 g32).2.2 (fun _ => rfl) (fun _ => rfl) (fun _ => rfl)) ?_
   refine zw ?_
   refine ob' h fun e33 g34 h => ?_
   refine Ops.v rfl (Y5y (p := 0) Yd1.h rfl rfl rfl g34 rfl) ?_
   refine Ops.v rfl (Y5z (p := 0) Ydy.h rfl rfl (Y29 g34).2.2 rfl) ?_
   refine Ops.v rfl (Y5z (p := 0) Yag.h rfl rfl (Y29 g34).2.2 rfl) ?_
   refine Ops.hd (ns := [0]) rfl rfl (Y61 (e' := (Y97.mk (Y8z.mk e33.event.id (IntKind.i64.wrap (x28 + 1)) e33.event.author e33.event.kind e33.event.key e33.event.n e33.event.text e33.event.prev e33.event.time) e33.hidden)) ld_2.h rfl rfl (One.val rfl) (Y29 g34).2.2 (fun _ => rfl) (fun _ => rfl) (fun _ => rfl)) ?_
   refine zw ?_
   refine ob' h fun e35 g36 h => ?_
   refine Ops.v rfl (Y5y (p := 0) Yd1.h rfl rfl rfl g36 rfl) ?_
   refine Ops.v rfl (Y5z (p := 0) Ydy.h rfl rfl (Y29 g36).2.2 rfl) ?_
   refine Ops.v rfl (Y5z (p := 0) Yai.h rfl rfl (Y29 g36).2.2 rfl) ?_
   refine Ops.hd (ns := [0]) rfl rfl (Y61 (e' := (Y97.mk (Y8z.mk e35.event.id e35.event.room (IntKind.i64.wrap ((IntKind.i64.wrap (x28 + 1)) + 1)) e35.event.kind e35.event.key e35.event.n e35.event.text e35.event.prev e35.event.time) e35.hidden)) ld_2.h rfl rfl (One.val rfl) (Y29 g36).2.2 (fun _ => rfl) (fun _ => rfl) (fun _ => rfl)) ?_
   refine zw ?_
   refine ob' h fun e37 g38 h => ?_
   refine Ops.v rfl (Y5y (p := 0) Yd1.h rfl rfl rfl g38 rfl) ?_
   refine Ops.v rfl (Y5z (p := 0) Ydy.h rfl rfl (Y29 g38).2.2 rfl) ?_
   refine Ops.v rfl (Y5z (p := 0) Yak.h rfl rfl (Y29 g38).2.2 rfl) ?_
   refine Ops.hd (ns := [0]) rfl rfl (Y61 (e' := (Y97.mk (Y8z.mk e37.event.id e37.event.room e37.event.author (IntKind.i64.wrap ((IntKind.i64.wrap ((IntKind.i64.wrap (x28 + 1)) + 1)) + 1)) e37.event.key e37.event.n e37.event.text e37.event.prev e37.event.time) e37.hidden)) ld_2.h rfl rfl (One.val rfl) (Y29 g38).2.2 (fun _ => rfl) (fun _ => rfl) (fun _ => rfl)) ?_
   refine zw ?_
   refine ob' h fun e39 g40 h => ?_
   refine Ops.v rfl (Y5y (p := 0) Yd1.h rfl rfl rfl g40 rfl) ?_
   refine Ops.v rfl (Y5z (p := 0) Ydy.h rfl rfl (Y29 g40).2.2 rfl) ?_
   refine Ops.v rfl (Y5z (p := 0) Yam.h rfl rfl (Y29 g40).2.2 rfl) ?_
   refine Ops.hd (ns := [0]) rfl rfl (Y61 (e' := (Y97.mk (Y8z.mk e39.event.id e39.event.room e39.event.author e39.event.kind (IntKind.i64.wrap ((IntKind.i64.wrap ((IntKind.i64.wrap ((IntKind.i64.wrap (x28 + 1)) + 1)) + 1)) + 1)) e39.event.n e39.event.text e39.event.prev e39.event.time) e39.hidden)) ld_2.h rfl rfl (One.val rfl) (Y29 g40).2.2 (fun _ => rfl) (fun _ => rfl) (fun _ => rfl)) ?_
   refine zw ?_
   refine ob' h fun e41 g42 h => ?_
   refine Ops.v rfl (Y5y (p := 0) Yd1.h rfl rfl rfl g42 rfl) ?_
   refine Ops.v rfl (Y5z (p := 0) Ydy.h rfl rfl (Y29 g42).2.2 rfl) ?_
   refine Ops.v rfl (Y5z (p := 0) Yao.h rfl rfl (Y29 g42).2.2 rfl) ?_
   refine Ops.hd (ns := [0]) rfl rfl (Y61 (e' := (Y97.mk (Y8z.mk e41.event.id e41.event.room e41.event.author e41.event.kind e41.event.key (IntKind.i64.wrap ((IntKind.i64.wrap ((IntKind.i64.wrap ((IntKind.i64.wrap ((IntKind.i64.wrap (x28 + 1)) + 1)) + 1)) + 1)) + 1)) e41.event.text e41.event.prev e41.event.time) e41.hidden)) ld_2.h rfl rfl (One.val rfl) (Y29 g42).2.2 (fun _ => rfl) (fun _ => rfl) (fun _ => rfl)) ?_
   refine zw ?_
   refine oc h fun r43 g44 h => ?_
   refine ob' h fun e45 g46 h => ?_
   refine Ops.v rfl (Y5y (p := 0) Yd1.h rfl rfl rfl g46 rfl) ?_
   refine Ops.v rfl (Y5z (p := 0) Ydy.h rfl rfl (Y29 g46).2.2 rfl) ?_
   refine Ops.v rfl (Y5z (p := 0) Yap.h rfl rfl (Y29 g46).2.2 rfl) ?_
   refine Ops.hd (ns := [0]) rfl rfl (Y61 (e' := (Y97.mk (Y8z.mk e45.event.id e45.event.room e45.event.author e45.event.kind e45.event.key e45.event.n r43 e45.event.prev e45.event.time) e45.hidden)) ld_9.h rfl rfl (One.val rfl) (Y29 g46).2.2 (fun _ => rfl) (fun _ => rfl) (fun _ => rfl)) ?_
   refine zw ?_
   refine ob' h fun e47 g48 h => ?_
   refine Ops.v rfl (Y5y (p := 0) Yd1.h rfl rfl rfl g48 rfl) ?_
   refine Ops.v rfl (Y5z (p := 0) Ydy.h rfl rfl (Y29 g48).2.2 rfl) ?_
   refine Ops.v rfl (Y5z (p := 0) Yaq.h rfl rfl (Y29 g48).2.2 rfl) ?_
   refine Ops.take (p := 0) rfl (Y29 g48).2.2 fun q49 => ?_
   refine Ops.v rfl (Y60 (p := 1) Y9y.h rfl rfl (Y29 g48).2.2 rfl rfl) ?_
   refine zw ?_
   refine ob' h fun r50 g51 h => ?_
   refine Ops.hd (ns := [0]) rfl rfl (Y24 (Zjx e47.event.prev (IntKind.i64.wrap ((IntKind.i64.wrap ((IntKind.i64.wrap ((IntKind.i64.wrap ((IntKind.i64.wrap ((IntKind.i64.wrap ((IntKind.i64.wrap (x28 + 1)) + 1)) + 1)) + 1)) + 1)) + 1)) + 1)) _ g51) rfl rfl) ?_
   refine Ops.ghost (Y21.back (x' := (Y97.mk (Y8z.mk e47.event.id e47.event.room e47.event.author e47.event.kind e47.event.key e47.event.n e47.event.text r50.2 e47.event.time) e47.hidden)) (ns := [1, 0]) rfl (Y29 g48).2.2 rfl rfl) ?_
   refine zw ?_
   refine ob' h fun e52 g53 h => ?_
   refine Ops.v rfl (Y5y (p := 0) Yd1.h rfl rfl rfl g53 rfl) ?_
   refine Ops.v rfl (Y5z (p := 0) Ydy.h rfl rfl (Y29 g53).2.2 rfl) ?_
   refine Ops.v rfl (Y5z (p := 0) Yas.h rfl rfl (Y29 g53).2.2 rfl) ?_
   refine Ops.hd (ns := [0]) rfl rfl (Y61 (e' := (Y97.mk (Y8z.mk e52.event.id e52.event.room e52.event.author e52.event.kind e52.event.key e52.event.n e52.event.text e52.event.prev r50.1) e52.hidden)) ld_2.h rfl rfl (One.val rfl) (Y29 g53).2.2 (fun _ => rfl) (fun _ => rfl) (fun _ => rfl)) ?_
   refine zw ?_
   refine Ops.v rfl (Yw rfl rfl (by decide) rfl) ?_
   refine zw ?_
   refine ob' h fun e54 g55 h => ?_
   refine Ops.v rfl (Y5y (p := 0) Yd1.h rfl rfl rfl g55 rfl) ?_
   refine Ops.v rfl (Y5z (p := 0) Ydz.h rfl rfl (Y29 g55).2.2 rfl) ?_
   refine Ops.hd (ns := [0]) rfl rfl (Y61 (e' := (Y97.mk e54.event ((Int.tmod (IntKind.i64.wrap (r50.1 + 1)) 3) == 0))) ld_4.h rfl rfl (One.val rfl) (Y29 g55).2.2 (fun _ => rfl) (fun _ => rfl) (fun _ => rfl)) ?_
   exact go
  exact go
 rintro ⟨x56, l57⟩ h
 replace h : Zkc x56 l57 = some r := h
 unfold Zkc at h
 refine zw ?_
 refine AW.ret ?_
 rw [← Wj h]
 exact ⟨[cI x56], _, Y21.refl _, (.cons (.tmp rfl) .nil), [0], _, _, rfl, ⟨rfl, rfl⟩⟩

def Zkg (p0 : Y98) (p1 : Int) : Option (Int × List Y97) := (Zke p0.events p1).bind fun r2 => some (r2.1, r2.2)
theorem Zkh {w00 : Value} (p0 : Y98) (p1 : Int) (r : Int × List Y97) (h : Zkg p0 p1 = some r) : Ok Tryz.prog 62 [C.agg [cV w00, cI p0.at_, C.bool p0.end_, cI p0.code], cI p1] [Obj.deep w00 160 Y9t Y9u 10 p0.events] (fun c qs => c = cI r.1 ∧ qs = [Obj.deep w00 160 Y9t Y9u 10 r.2]) := by
 refine Ok.of_body (rs := [.tmp 4]) Tryz.func62 rfl rfl rfl rfl rfl fun X => ?_
 unfold Zkg at h
 refine zw ?_
 refine ox fun b1 => ?_
 refine zw ?_
 refine ob' h fun r2 g3 h => ?_
 refine Ops.hd (ns := [1]) rfl rfl (Y24 (Zkf p0.events p1 _ g3) rfl rfl) ?_
 refine zw ?_
 refine AW.ret ?_
 rw [← Wj h]
 exact ⟨[cI r2.1], _, Y21.refl _, (.cons (.tmp rfl) .nil), [0], _, _, rfl, ⟨rfl, rfl⟩⟩

def Zki (x11 : Int) : Option Int := some x11
def Zkj (p0 : List Int) (x5 : Int) (x6 : Int) : Option ((Int × Int) ⊕ (Int ⊕ Int)) := cond (decide (x6 < (p0.length : Int))) ((getI p0 x6).bind fun e8 => cond (e8 != x5) (some (.inr (.inl (-1)))) (some (.inl ((IntKind.i64.wrap (x5 + 1)), (IntKind.i64.wrap (x6 + 1)))))) (some (.inr (.inr x5)))
def Zkk (p0 : List Int) (p1 : Int) : Option Int := (iter (fun z12 => Zkj p0 z12.1 z12.2) big (p1, 0)).bind (fun z15 => match z15 with | .inl y13 => some y13 | .inr y14 => Zki y14)
instance Zkl (p0 : List Int) (p1 : Int) : Sp Tryz.prog 37 [cM kI64 1 p0, cI p1] (Zkk p0 p1) cI := sp Tryz.func37 rfl rfl fun r X h => by
 unfold Zkk at h
 refine zw ?_
 refine AW.lp (v := ()) h (fun (x5, x6) (_ : Unit) => ⟨[(0, cM kI64 1 p0), (1, cI x5), (5, cI x6)], []⟩) (gb []) ?_
 rintro ⟨x5, x6⟩ _ y21 h
 exact go

def Zkm (x37 : Int) : Option Int := some x37
def Zkn (p0 : List Y97) (x18 : Int) (x19 : Int) : Option ((Int × Int) ⊕ (Int ⊕ Int)) := cond (decide (x19 < (p0.length : Int))) ((getI p0 x19).bind fun e21 => cond (e21.event.id != x18) (some (.inr (.inl (-1)))) (cond (e21.event.room != (IntKind.i64.wrap (x18 + 1))) (some (.inr (.inl (-1)))) (cond (e21.event.author != (IntKind.i64.wrap ((IntKind.i64.wrap (x18 + 1)) + 1))) (some (.inr (.inl (-1)))) (cond (e21.event.kind != (IntKind.i64.wrap ((IntKind.i64.wrap ((IntKind.i64.wrap (x18 + 1)) + 1)) + 1))) (some (.inr (.inl (-1)))) (cond (e21.event.key != (IntKind.i64.wrap ((IntKind.i64.wrap ((IntKind.i64.wrap ((IntKind.i64.wrap (x18 + 1)) + 1)) + 1)) + 1))) (some (.inr (.inl (-1)))) (cond (e21.event.n != (IntKind.i64.wrap ((IntKind.i64.wrap ((IntKind.i64.wrap ((IntKind.i64.wrap ((IntKind.i64.wrap (x18 + 1)) + 1)) + 1)) + 1)) + 1))) (some (.inr (.inl (-1)))) ((Zjs (IntKind.i64.wrap ((IntKind.i64.wrap ((IntKind.i64.wrap ((IntKind.i64.wrap ((IntKind.i64.wrap ((IntKind.i64.wrap (x18 + 1)) + 1)) + 1)) + 1)) + 1)) + 1))).bind fun r29 => cond (e21.event.text.toList == r29.toList) ((Zkk e21.event.prev (IntKind.i64.wrap ((IntKind.i64.wrap ((IntKind.i64.wrap ((IntKind.i64.wrap ((IntKind.i64.wrap ((IntKind.i64.wrap ((IntKind.i64.wrap (x18 + 1)) + 1)) + 1)) + 1)) + 1)) + 1)) + 1))).bind fun r32 => cond (decide (r32 < 0)) (some (.inr (.inl (-1)))) (cond (e21.event.time != r32) (some (.inr (.inl (-1)))) (cond (e21.hidden == ((Int.tmod (IntKind.i64.wrap (r32 + 1)) 3) == 0)) (some (.inl ((IntKind.i64.wrap ((IntKind.i64.wrap (r32 + 1)) + 1)), (IntKind.i64.wrap (x19 + 1))))) (some (.inr (.inl (-1))))))) (some (.inr (.inl (-1))))))))))) (some (.inr (.inr x18)))
def Zko (p0 : List Y97) (p1 : Int) : Option Int := (iter (fun z38 => Zkn p0 z38.1 z38.2) big (p1, 0)).bind (fun z41 => match z41 with | .inl y39 => some y39 | .inr y40 => Zkm y40)
instance Zkp (p0 : List Y97) (p1 : Int) : Sp Tryz.prog 58 [cM Y9o 10 p0, cI p1] (Zko p0 p1) cI := sp Tryz.func58 rfl rfl fun r X h => by
 unfold Zko at h
 refine zw ?_
 refine AW.lp (v := ()) h (fun (x18, x19) (_ : Unit) => ⟨[(0, cM Y9o 10 p0), (1, cI x18), (5, cI x19)], []⟩) (gb []) ?_
 rintro ⟨x18, x19⟩ _ y47 h
 refine zw ?_
 refine cnd h (fun hb20 h => ?_) fun hb20 h => ?_
 ·
  refine AW.ct hb20 rfl ?_
  refine zw ?_
  refine oi h fun e21 g22 h => ?_
  refine zw ?_
  refine cnd h (fun hb23 h => go) fun hb23 h => ?_
  refine AW.cf hb23 rfl ?_
  refine zw ?_
  refine cnd h (fun hb24 h => go) fun hb24 h => ?_
  refine AW.cf hb24 rfl ?_
  refine zw ?_
  refine cnd h (fun hb25 h => go) fun hb25 h => ?_
  refine AW.cf hb25 rfl ?_
  refine zw ?_
  refine cnd h (fun hb26 h => go) fun hb26 h => ?_
  refine AW.cf hb26 rfl ?_
  refine zw ?_
  refine cnd h (fun hb27 h => go) fun hb27 h => ?_
  refine AW.cf hb27 rfl ?_
  refine zw ?_
  refine cnd h (fun hb28 h => go) fun hb28 h => ?_
  refine AW.cf hb28 rfl ?_
  refine zw ?_
  refine rD [] [5] [] [0,4,8,12,16,21,24,30,32] ?_
  refine zw ?_
  refine dc h fun r29 g30 h => ?_
  refine zw ?_
  refine cnd h (fun hb31 h => ?_) fun hb31 h => ?_
  ·
   refine AW.cond rfl (fun hn => absurd ((Y3u hb31).symm.trans hn) (by decide)) (fun _ => ?_)
   refine zw ?_
   refine oc h fun r32 g33 h => ?_
   refine zw ?_
   refine cnd h (fun hb34 h => go) fun hb34 h => ?_
   refine AW.cf hb34 rfl ?_
   refine zw ?_
   refine cnd h (fun hb35 h => go) fun hb35 h => ?_
   refine AW.cf hb35 rfl ?_
   refine zw ?_
   refine Ops.v rfl (Yw rfl rfl (by decide) rfl) ?_
   refine zw ?_
   refine Ops.v rfl (Y11 un_4 rfl rfl rfl) ?_
   exact go
  exact go
 exact go

def Zkq (p0 : Y98) (p1 : Int) : Option Int := (Zko p0.events p1).bind fun r2 => cond (decide (r2 < 0)) (some (-1)) (some r2)
instance Zkr (p0 : Y98) (p1 : Int) : Sp Tryz.prog 63 [C.agg [cM Y9o 10 p0.events, cI p0.at_, C.bool p0.end_, cI p0.code], cI p1] (Zkq p0 p1) cI := sp Tryz.func63 rfl rfl fun r X h => go

def Zks (p0 : THub) (p1 : Int) (p2 : Int) (p3 : Int) (p4 : Int) (r7 : Y98) (r15 : Y98) (x45 : Bool) : Option Bool := cond x45 (some false) ((Zkg r15 1).bind fun r47 => (Zkq (Y98.mk r47.2 r15.at_ r15.end_ r15.code) 1).bind fun r49 => cond (decide (r49 < 0)) (some false) (cond (r49 != r47.1) (some false) ((Z15 p0).bind fun r53 => (Zis r53 p1 p2 p3 p4).bind fun r55 => (Zj6 r55 r7).bind fun r58 => cond r58 ((Zkq (Y98.mk r47.2 r15.at_ r15.end_ r15.code) 1).bind fun r61 => cond (decide (r61 < 0)) (some false) (cond (r61 != r47.1) (some false) (some true))) (some false))))
def Zkt (p0 : THub) (p1 : Int) (p2 : Int) (p3 : Int) (p4 : Int) : Option Bool := (Zh p0 1048576).bind fun r2 => cond (decide (r2 < 0)) (some true) ((Z15 p0).bind fun r5 => (Z80 r5 p1 p2 p3 p4).bind fun r7 => (Z15 p0).bind fun r10 => (Zis r10 p1 p2 p3 p4).bind fun r15 => (Zj6 r15 r7).bind fun r20 => cond r20 ((Z15 p0).bind fun r35 => (Zjo r10 r35).bind fun r37 => cond r37 ((Zka r10 1).bind fun r40 => cond (decide (r40.1 < 0)) (Zks p0 p1 p2 p3 p4 r7 r15 true) ((Zj6 r15 r7).bind fun r43 => Zks p0 p1 p2 p3 p4 r7 r15 (!r43))) (some false)) (some false))
instance Zku (p0 : THub) (p1 : Int) (p2 : Int) (p3 : Int) (p4 : Int) : Sp Tryz.prog 12 [C.agg [cM Y9c 3 p0.rooms, cM Y9d 2 p0.stream], cI p1, cI p2, cI p3, cI p4] (Zkt p0 p1 p2 p3 p4) C.bool := sp Tryz.func12 rfl rfl fun r X h => by
 unfold Zkt at h
 refine zw ?_
 refine ox fun b1 => ?_
 refine zw ?_
 refine oc h fun r2 g3 h => ?_
 refine zw ?_
 refine cnd h (fun hb4 h => go) fun hb4 h => ?_
 refine AW.cf hb4 rfl ?_
 refine zw ?_
 refine oc h fun r5 g6 h => ?_
 refine zw ?_
 refine oc h fun r7 g8 h => ?_
 refine Ops.h (ns := []) rfl rfl (Y1p (cs := [cV s0, cI 0, C.bool false, cI 0]) Ycr (Y42 rfl rfl) rfl) ?_
 rintro _ _ ⟨b9, rfl, rfl⟩
 refine Ops.hd (ns := [0]) rfl rfl (Y1u (gs := [cM Y9o 10 r7.events, cI r7.at_, C.bool r7.end_, cI r7.code]) Yct.h rfl rfl rfl rfl rfl) ?_
 refine zw ?_
 refine ob' h fun r10 g11 h => ?_
 refine Ops.h (ns := []) rfl rfl (Y23 (Z16 _ _ g11) rfl rfl) ?_
 rintro _ _ ⟨_, ⟨v12, v13, rfl, rfl⟩, rfl⟩
 refine Ops.h (ns := []) rfl rfl (Y1p (cs := [cV s0, cV s0]) Ybh (Y42 rfl rfl) rfl) ?_
 rintro _ _ ⟨b14, rfl, rfl⟩
 refine Ops.hd (ns := [0]) rfl rfl (Y1u (gs := [cV v12, cV v13]) Ybm.h rfl rfl rfl rfl rfl) ?_
 refine zw ?_
 refine ob' h fun r15 g16 h => ?_
 refine Ops.h (ns := [1, 1]) rfl rfl (Y23 (Ok.lend (Zit r10 p1 p2 p3 p4 _ g16) (FrzT.cons (os := [_,_]) (Frz.agg (FrzL.cons (os := [_]) (Frz.deep Yb6) (FrzL.cons (os := [_]) Frz.arr (FrzL.nil)))) (fT (fT (fT (fT (FrzT.nil)))))) (by rintro _ _ ⟨_, rfl, rfl⟩; exact ⟨(Y44.agg (Y45.cons (Y44.val _) (Y45.cons (Y44.val _) (Y45.cons (Y44.val _) (Y45.cons (Y44.val _) (Y45.nil)))))), Y48 (Y46.deep Ye1 Ye2) (Y47)⟩)) rfl rfl) ?_
 rintro _ _ ⟨_, ⟨_, ⟨v17, rfl, rfl⟩, rfl⟩, rfl⟩
 refine Ops.h (ns := []) rfl rfl (Y1p (cs := [cV s0, cI 0, C.bool false, cI 0]) Ycr (Y42 rfl rfl) rfl) ?_
 rintro _ _ ⟨b19, rfl, rfl⟩
 refine Ops.hd (ns := [0]) rfl rfl (Y1u (gs := [cV v17, cI r15.at_, C.bool r15.end_, cI r15.code]) Yct.h rfl rfl rfl rfl rfl) ?_
 refine Ops.nil ?_
 refine AW.seq ?_
 refine AW.seq ?_
 refine AW.region ?_
 refine Ops.v rfl (Y1l (p := 0) (ds := [cV v17, cI r15.at_, C.bool r15.end_, cI r15.code]) Yct.h rfl rfl rfl rfl rfl) ?_
 refine Ops.v rfl (Y1l (p := 5) (ds := [cM Y9o 10 r7.events, cI r7.at_, C.bool r7.end_, cI r7.code]) Yct.h rfl rfl rfl rfl rfl) ?_
 refine ob' h fun r20 g21 h => ?_
 refine Ops.hd (ns := [1]) rfl rfl (Y24 (Ok.lendE ((Zj7 r15 r7).h _ g21) (FrzT.cons (os := [_]) (Frz.agg (FrzL.cons (os := [_]) (Frz.deep Ye0) (fS (fS (fS (FrzL.nil)))))) (fT (FrzT.nil))) (Y44.val _)) rfl rfl) ?_
 refine zw ?_
 refine cnd h (fun hb22 h => ?_) fun hb22 h => ?_
 ·
  refine AW.cond rfl (fun hn => absurd ((Y3u hb22).symm.trans hn) (by decide)) (fun _ => ?_)
  refine zw ?_
  refine rD [0,0,2,2,2] [0,1] [] [1,5,10,14,16] ?_
  refine OpsD.v rfl rfl (Y1l (p := 2) (ds := [cV v12, cV v13]) Ybm.h rfl rfl rfl rfl rfl) ?_
  refine OpsD.v rfl rfl (Y1l (p := 4) (ds := [cM Y9c 3 p0.rooms, cM Y9d 2 p0.stream]) Ye6.h rfl rfl rfl rfl rfl) ?_
  refine zw ?_
  refine dc h fun r35 g36 h => ?_
  refine zw ?_
  refine ob' h fun r37 g38 h => ?_
  refine Y3n.h (ns := [0, 0]) rfl rfl rfl (Y24 (Ok.lendE ((Zjp r10 r35).h _ g38) (FrzT.cons (os := [_,_]) (Frz.agg (FrzL.cons (os := [_]) (Frz.deep Yb6) (FrzL.cons (os := [_]) Frz.arr (FrzL.nil)))) (fT (FrzT.nil))) (Y44.val _)) rfl rfl) ?_
  rintro _ _ ⟨rfl, rfl⟩
  refine zw ?_
  refine cnd h (fun hb39 h => ?_) fun hb39 h => ?_
  ·
   refine AW.cond rfl (fun hn => absurd ((Y3u hb39).symm.trans hn) (by decide)) (fun _ => ?_)
   refine zw ?_
   refine ob' h fun r40 g41 h => ?_
   refine Ops.hd (ns := [5, 5]) rfl rfl (Y24 (Zkb r10 1 _ g41) rfl rfl) ?_
   refine Ops.v rfl (Yr rfl rfl) ?_
   refine Ops.nil ?_
   refine AW.seq ?_
   refine AW.seq ?_
   refine AW.cut (τ := Bool) (fun x45 => ⟨[(1, cI p1), (2, cI p2), (3, cI p3), (4, cI p4), (5, pt b1), (12, pt b9), (14, pt b19), (58, C.bool x45)], [oB b1 25 [cM Y9c 3 p0.rooms, cM Y9d 2 p0.stream], oB b9 86 [cM Y9o 10 r7.events, cI r7.at_, C.bool r7.end_, cI r7.code], oB b19 86 [cV v17, cI r15.at_, C.bool r15.end_, cI r15.code], Obj.deep v17 160 Y9t Y9u 10 r15.events]⟩) (fun x45 => Zks p0 p1 p2 p3 p4 r7 r15 x45 = some r) ?_ ?_
   ·
    refine zw ?_
    refine cnd h (fun hb42 h => ?_) fun hb42 h => ?_
    ·
     refine zw ?_
     exact ⟨true, h, Y21.both (ns := [6, 5, 3, 2]) rfl rfl⟩
    refine Ops.gv rfl rfl rfl rfl hb42 (Y1l (p := 3) (ds := [cV v17, cI r15.at_, C.bool r15.end_, cI r15.code]) Yct.h rfl rfl rfl rfl rfl) ?_
    refine Ops.gv rfl rfl rfl rfl hb42 (Y1l (p := 5) (ds := [cM Y9o 10 r7.events, cI r7.at_, C.bool r7.end_, cI r7.code]) Yct.h rfl rfl rfl rfl rfl) ?_
    refine ob' h fun r43 g44 h => ?_
    refine Ops.ghd (ns := [2]) rfl rfl rfl rfl hb42 rfl (Y24 (Ok.lendE ((Zj7 r15 r7).h _ g44) (FrzT.cons (os := [_]) (Frz.agg (FrzL.cons (os := [_]) (Frz.deep Ye0) (fS (fS (fS (FrzL.nil)))))) (fT (FrzT.nil))) (Y44.val _)) rfl rfl) ?_
    refine zw ?_
    exact ⟨(!r43), h, Y21.both (ns := [6, 5, 3, 0]) rfl rfl⟩
   intro x45 h
   replace h : Zks p0 p1 p2 p3 p4 r7 r15 x45 = some r := h
   unfold Zks at h
   refine cnd h (fun hb46 h => go) fun hb46 h => ?_
   refine AW.cf hb46 rfl ?_
   refine zw ?_
   refine ob' h fun r47 g48 h => ?_
   refine Ops.hd (ns := [3]) rfl rfl (Y24 (Zkh r15 1 _ g48) rfl rfl) ?_
   refine Ops.v rfl (Yr rfl rfl) ?_
   refine Ops.nil ?_
   refine AW.seq ?_
   refine AW.region ?_
   refine Ops.v rfl (Yr rfl rfl) ?_
   refine Ops.nil ?_
   refine AW.seq ?_
   refine AW.region ?_
   refine Ops.v rfl (Y1l (p := 3) (ds := [cV v17, cI r15.at_, C.bool r15.end_, cI r15.code]) Yct.h rfl rfl rfl rfl rfl) ?_
   refine zw ?_
   refine ob' h fun r49 g50 h => ?_
   refine Ops.hd (ns := [0]) rfl rfl (Y24 (Ok.lendE ((Zkr (Y98.mk r47.2 r15.at_ r15.end_ r15.code) 1).h _ g50) (FrzT.cons (os := [_]) (Frz.agg (FrzL.cons (os := [_]) (Frz.deep Ye0) (fS (fS (fS (FrzL.nil)))))) (fT (FrzT.nil))) (Y44.val _)) rfl rfl) ?_
   refine zw ?_
   refine cnd h (fun hb51 h => go) fun hb51 h => ?_
   refine AW.cf hb51 rfl ?_
   refine zw ?_
   refine cnd h (fun hb52 h => go) fun hb52 h => ?_
   refine AW.cf hb52 rfl ?_
   refine zw ?_
   refine oc h fun r53 g54 h => ?_
   refine zw ?_
   refine oc h fun r55 g56 h => ?_
   refine Ops.h (ns := []) rfl rfl (Y1p (cs := [cV s0, cI 0, C.bool false, cI 0]) Ycr (Y42 rfl rfl) rfl) ?_
   rintro _ _ ⟨b57, rfl, rfl⟩
   refine Ops.hd (ns := [0]) rfl rfl (Y1u (gs := [cM Y9o 10 r55.events, cI r55.at_, C.bool r55.end_, cI r55.code]) Yct.h rfl rfl rfl rfl rfl) ?_
   refine Ops.nil ?_
   refine AW.seq ?_
   refine AW.seq ?_
   refine AW.region ?_
   refine Ops.v rfl (Y1l (p := 0) (ds := [cM Y9o 10 r55.events, cI r55.at_, C.bool r55.end_, cI r55.code]) Yct.h rfl rfl rfl rfl rfl) ?_
   refine Ops.v rfl (Y1l (p := 3) (ds := [cM Y9o 10 r7.events, cI r7.at_, C.bool r7.end_, cI r7.code]) Yct.h rfl rfl rfl rfl rfl) ?_
   refine oc h fun r58 g59 h => ?_
   refine zw ?_
   refine cnd h (fun hb60 h => ?_) fun hb60 h => ?_
   ·
    refine AW.cond rfl (fun hn => absurd ((Y3u hb60).symm.trans hn) (by decide)) (fun _ => ?_)
    refine AW.skip ?_
    refine AW.seq ?_
    refine AW.region ?_
    refine Ops.v rfl (Yr rfl rfl) ?_
    refine Ops.nil ?_
    refine AW.seq ?_
    refine AW.region ?_
    refine Ops.v rfl (Y1l (p := 4) (ds := [cV v17, cI r15.at_, C.bool r15.end_, cI r15.code]) Yct.h rfl rfl rfl rfl rfl) ?_
    refine zw ?_
    refine ob' h fun r61 g62 h => ?_
    refine Ops.hd (ns := [1]) rfl rfl (Y24 (Ok.lendE ((Zkr (Y98.mk r47.2 r15.at_ r15.end_ r15.code) 1).h _ g62) (FrzT.cons (os := [_]) (Frz.agg (FrzL.cons (os := [_]) (Frz.deep Ye0) (fS (fS (fS (FrzL.nil)))))) (fT (FrzT.nil))) (Y44.val _)) rfl rfl) ?_
    exact go
   exact go
  exact go
 exact go

end Go.Proofs.YtbgichfjcnibpaaGreat
