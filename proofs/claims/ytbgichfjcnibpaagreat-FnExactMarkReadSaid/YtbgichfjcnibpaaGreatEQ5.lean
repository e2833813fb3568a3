/- Printed by gen.py: plain functions for Go functions, and that the walks keep to them. -/
import Derived.Test.YtbgichfjcnibpaaGreatEQ4
set_option autoImplicit false
set_option linter.unusedVariables false
set_option linter.unusedSimpArgs false
set_option maxRecDepth 100000
namespace Go.Proofs.YtbgichfjcnibpaaGreat
open Go Go.Abs
attribute [local irreducible] AW Ops OpsD Y3n
def Zbw (l20 : List (List Y92)) : Option (List (List Y92)) := some l20
def Zbx (p0 : Y96) (p1 : List Int) (l10 : List (List Y92)) (x11 : Int) : Option ((List (List Y92) × Int) ⊕ ((List (List Y92)))) := cond (decide (x11 < (p1.length : Int))) ((getI p1 x11).bind fun e13 => (chk (decide ((l10.length + [(Option.getD (mget p0.after e13) ([] : List Y92))].length) * 24 ≤ 140737488355328))).bind fun u17 => some (.inl ((l10 ++ [(Option.getD (mget p0.after e13) ([] : List Y92))]), (IntKind.i64.wrap (x11 + 1))))) (some (.inr l10))
def Zby (p0 : Y96) (p1 : List Int) : Option (List (List Y92)) := (iter (fun z22 => Zbx p0 p1 z22.1 z22.2) big (([] : List (List Y92)), 0)).bind fun y23 => Zbw y23
set_option maxHeartbeats 1000000 in
theorem Zbz {b00 : Nat} {b01 : Nat} {b02 : Nat} {b03 : Nat} {b04 : Nat} (p0 : Y96) (p1 : List Int) (r : List (List Y92)) (h : Zby p0 p1 = some r) : Ok Tryz.prog 143 [pt b00, C.im kI64 1 p1] [Obj.box b00 196 [C.int p0.graph.room, C.im Y98 9 p0.graph.events, C.im Y98 9 p0.graph.parked, mt b01, mt b02, mt b03, mt b04], Abs.Obj.map b01 .i64 Y9l p0.depth, Abs.Obj.map b02 .i64 Y9m p0.before, Abs.Obj.map b03 .i64 Y9m p0.after, Abs.Obj.map b04 .i64 Y9l p0.refused] (fun c qs => ∃ (v21 : Value), c = C.val v21 ∧ qs = [Obj.arr v21 27 Y9h 1 r, Obj.box b00 196 [C.int p0.graph.room, C.im Y98 9 p0.graph.events, C.im Y98 9 p0.graph.parked, mt b01, mt b02, mt b03, mt b04], Abs.Obj.map b01 .i64 Y9l p0.depth, Abs.Obj.map b02 .i64 Y9m p0.before, Abs.Obj.map b03 .i64 Y9m p0.after, Abs.Obj.map b04 .i64 Y9l p0.refused]) := by
 refine Ok.of_body (rs := [.tmp 4]) Tryz.func143 rfl rfl rfl rfl rfl fun X => ?_
 unfold Zby at h
 refine zw ?_
 refine Ops.h (ns := []) rfl rfl (Y39 (k := Y9h) (ys := ([] : List (List Y92))) Yc4 .nil rfl rfl rfl) ?_
 rintro _ _ ⟨b1, rfl, rfl⟩
 refine Ops.v rfl (Yr rfl rfl) ?_
 refine Ops.nil ?_
 refine AW.seq ?_
 refine AW.cut (τ := List (List Y92) × Value) (fun (l20, v19) => ⟨[(5, C.val v19)], [Obj.arr v19 27 Y9h 1 l20, Obj.box b00 196 [C.int p0.graph.room, C.im Y98 9 p0.graph.events, C.im Y98 9 p0.graph.parked, mt b01, mt b02, mt b03, mt b04], Abs.Obj.map b01 .i64 Y9l p0.depth, Abs.Obj.map b02 .i64 Y9m p0.before, Abs.Obj.map b03 .i64 Y9m p0.after, Abs.Obj.map b04 .i64 Y9l p0.refused]⟩) (fun (l20, v19) => Zbw l20 = some r) ?_ ?_
 ·
  refine zw ?_
  refine AW.lp h (fun (l10, x11) (v9 : Value) => ⟨[(0, pt b00), (5, C.val v9), (9, C.im kI64 1 p1), (10, C.int (p1.length : Int)), (11, C.int x11)], [Obj.box b00 196 [C.int p0.graph.room, C.im Y98 9 p0.graph.events, C.im Y98 9 p0.graph.parked, mt b01, mt b02, mt b03, mt b04], Abs.Obj.map b01 .i64 Y9l p0.depth, Abs.Obj.map b02 .i64 Y9m p0.before, Abs.Obj.map b03 .i64 Y9m p0.after, Abs.Obj.map b04 .i64 Y9l p0.refused, Obj.arr v9 27 Y9h 1 l10]⟩) (gb [1, 1, 1, 1, 1, 0]) ?_
  rintro ⟨l10, x11⟩ v9 y29 h
  refine zw ?_
  refine cnd h (fun hb12 h => ?_) fun hb12 h => ?_
  ·
   refine AW.ct hb12 rfl ?_
   refine zw ?_
   refine oi h fun e13 g14 h => ?_
   refine zw ?_
   refine Ops.v rfl (Y6l (p := 3) (kc := Y9m) (z0 := ([] : List Y92)) Yd1 Yd2 (fun w F => Imp.nil Y9g 3 w F _ rfl) rfl rfl rfl rfl) ?_
   refine Ops.h (ns := []) rfl rfl (Y39 (k := Y9h) (ys := [(Option.getD (mget p0.after e13) ([] : List Y92))]) Yc4 (.one rfl One.im rfl rfl .nil) rfl rfl rfl) ?_
   rintro _ _ ⟨b15, rfl, rfl⟩
   refine ob' h fun u17 c16 h => ?_
   refine Ops.h (ns := [6, 0]) rfl rfl (Y2s Yc4 rfl rfl (of_decide_eq_true (Y3t c16)) (Y3w (by decide) c16) rfl) ?_
   rintro _ _ ⟨v18, rfl, rfl⟩
   refine zw ?_
   exact le h (gb [1, 1, 1, 1, 1, 0])
  refine AW.cf hb12 rfl ?_
  refine AW.exit ?_
  refine lx h fun h => ?_
  exact ⟨(l10, v9), h, Y21.both (ns := [5, 0, 0, 0, 0, 0]) rfl rfl⟩
 rintro ⟨l20, v19⟩ h
 replace h : Zbw l20 = some r := h
 unfold Zbw at h
 refine zw ?_
 refine AW.ret ?_
 rw [← Option.some.inj h]
 exact ⟨[C.val v19], _, Y21.refl _, (.cons (.tmp rfl) .nil), [0, 0, 0, 0, 0, 0], _, _, rfl, ⟨v19, rfl, rfl⟩⟩

def Zc0 : Option Int := some (-1)
def Zc1 (p0 : List Y92) (p1 : Y92) (x6 : Int) : Option (Int ⊕ (Int ⊕ Unit)) := cond (decide (x6 < (p0.length : Int))) ((getI p0 x6).bind fun e8 => cond ((p1.kind == e8.kind) && ((p1.key == e8.key) && ((p1.id == e8.id) && true))) (some (.inr (.inl x6))) (some (.inl (IntKind.i64.wrap (x6 + 1))))) (some (.inr (.inr ())))
def Zc2 (p0 : List Y92) (p1 : Y92) : Option Int := (iter (Zc1 p0 p1) big 0).bind (fun z12 => match z12 with | .inl y11 => some y11 | .inr () => Zc0)
set_option maxHeartbeats 1000000 in
instance Zc3 (p0 : List Y92) (p1 : Y92) : Sp Tryz.prog 244 [C.im Y9g 3 p0, C.agg [C.int p1.kind, C.int p1.key, C.int p1.id]] (Zc2 p0 p1) C.int := sp Tryz.func244 rfl rfl fun r X h => by
 unfold Zc2 at h
 refine zw ?_
 refine ox fun b1 => ?_
 refine zw ?_
 refine AW.lp (v := ()) h (fun x6 (_ : Unit) => ⟨[(0, C.im Y9g 3 p0), (3, pt b1), (7, C.int (p0.length : Int)), (8, C.int x6)], [Obj.box b1 106 [C.int p1.kind, C.int p1.key, C.int p1.id]]⟩) (gb [0]) ?_
 rintro x6 _ y18 h
 refine zw ?_
 refine cnd h (fun hb7 h => ?_) fun hb7 h => ?_
 ·
  refine AW.ct hb7 rfl ?_
  refine zw ?_
  refine AW.regionD (L := [0, 4]) (Lt := []) (k := dec [1,3,6,9,13,15]) (ns := [0]) (by kernel_rfl) (by kernel_rfl) (by kernel_rfl) (by kernel_rfl) rfl ?_
  refine zw ?_
  refine di h fun e8 g9 h => ?_
  refine zw ?_
  refine OpsD.v rfl rfl (Y5l [.int .i64 p1.kind, .int .i64 p1.key, .int .i64 p1.id] [.int .i64 e8.kind, .int .i64 e8.key, .int .i64 e8.id] Yd3 rfl rfl rfl rfl rfl rfl) ?_
  exact go
 exact go

def Zc4 (p0 : List Y92) (p1 : Y92) : Option Bool := (Zc2 p0 p1).bind fun r2 => some (decide (r2 ≥ 0))
instance Zc5 (p0 : List Y92) (p1 : Y92) : Sp Tryz.prog 197 [C.im Y9g 3 p0, C.agg [C.int p1.kind, C.int p1.key, C.int p1.id]] (Zc4 p0 p1) C.bool := sp Tryz.func197 rfl rfl fun r X h => go

def Zc6 (x6 : Bool) : Option Bool := some x6
def Zc7 (p0 : Y8w) : Option Bool := cond (p0.kind == 1) (Zc6 true) (cond (p0.kind == 3) (Zc6 true) (cond (p0.kind == 5) (Zc6 true) (cond (p0.kind == 2) (Zc6 (p0.key != p0.author)) (Zc6 false))))
set_option maxHeartbeats 1000000 in
instance Zc8 (p0 : Y8w) : Sp Tryz.prog 200 [C.agg [C.int p0.id, C.int p0.room, C.int p0.author, C.int p0.kind, C.int p0.key, C.int p0.n, C.str p0.text, C.im kI64 1 p0.prev, C.int p0.time]] (Zc7 p0) C.bool := sp Tryz.func200 rfl rfl fun r X h => go

def Zc9 : Option Int := some 0
def Zca (p0 : List Int) (x5 : Int) : Option (Int ⊕ (Int ⊕ Unit)) := cond (decide (x5 < (p0.length : Int))) ((getI p0 x5).bind fun e7 => cond (e7 != 0) (some (.inr (.inl e7))) (some (.inl (IntKind.i64.wrap (x5 + 1))))) (some (.inr (.inr ())))
def Zcb (p0 : List Int) : Option Int := (iter (Zca p0) big 0).bind (fun z11 => match z11 with | .inl y10 => some y10 | .inr () => Zc9)
set_option maxHeartbeats 1000000 in
instance Zcc (p0 : List Int) : Sp Tryz.prog 201 [C.im kI64 1 p0] (Zcb p0) C.int := sp Tryz.func201 rfl rfl fun r X h => by
 unfold Zcb at h
 refine zw ?_
 refine AW.lp (v := ()) h (fun x5 (_ : Unit) => ⟨[(3, C.int 0), (6, C.im kI64 1 p0), (7, C.int (p0.length : Int)), (8, C.int x5)], []⟩) (gb []) ?_
 rintro x5 _ y17 h
 exact go

def Zcd (p0 : Y92) (p1 : Y92) : Option Int := (Z8x p0.kind p1.kind).bind fun r3 => (Z8x p0.key p1.key).bind fun r5 => (Zcb [r3, r5]).bind fun r8 => some r8
instance Zce (p0 : Y92) (p1 : Y92) : Sp Tryz.prog 295 [C.agg [C.int p0.kind, C.int p0.key, C.int p0.id], C.agg [C.int p1.kind, C.int p1.key, C.int p1.id]] (Zcd p0 p1) C.int := sp Tryz.func295 rfl rfl fun r X h => by
 unfold Zcd at h
 refine zw ?_
 refine ox fun b1 => ?_
 refine ox fun b2 => ?_
 refine zw ?_
 refine AW.regionD (L := [1, 3, 6, 8]) (Lt := []) (k := dec [0,4,6,10,15,19,21,25,14,29,32,35,36]) (ns := [0, 0]) (by kernel_rfl) (by kernel_rfl) (by kernel_rfl) (by kernel_rfl) rfl ?_
 refine zw ?_
 refine dc h fun r3 g4 h => ?_
 refine zw ?_
 refine dc h fun r5 g6 h => ?_
 refine OpsD.one ?_
 refine Y3n.h (ns := []) rfl rfl rfl (Y39 (k := kI64) (ys := [r3, r5]) Ycx (.one rfl (One.val rfl) rfl rfl (.one rfl (One.val rfl) rfl rfl .nil)) rfl rfl rfl) ?_
 rintro _ _ ⟨b7, rfl, rfl⟩
 refine zw ?_
 refine ob' h fun r8 g9 h => ?_
 refine Y3n.h (ns := [0]) rfl rfl rfl (Y24 (Ok.lendE ((Zcc [r3, r5]).h _ g9) (FrzT.cons (os := [_]) Frz.arr (FrzT.nil)) (Y44.val _)) rfl rfl) ?_
 rintro _ _ ⟨rfl, rfl⟩
 exact go

def Zcf (x16 : Int) (x22 : Bool) : Option (Int × Bool) := some (x16, x22)
def Zcg (p0 : List Y92) (p1 : Y92) (x16 : Int) : Option (Int × Bool) := cond (decide (x16 < (p0.length : Int))) ((getI p0 x16).bind fun e18 => (Zcd e18 p1).bind fun r20 => Zcf x16 (r20 == 0)) (Zcf x16 false)
def Zch (p0 : List Y92) (p1 : Y92) (x8 : Int) (x9 : Int) : Option ((Int × Int) ⊕ (Int)) := cond (decide (x8 < x9)) ((getI p0 (IntKind.i64.wrap (shrI .u64 (IntKind.u64.wrap (IntKind.i64.wrap (x8 + x9))) 1))).bind fun e11 => (Zcd e11 p1).bind fun r13 => cond (decide (r13 < 0)) (some (.inl ((IntKind.i64.wrap ((IntKind.i64.wrap (shrI .u64 (IntKind.u64.wrap (IntKind.i64.wrap (x8 + x9))) 1)) + 1)), x9))) (some (.inl (x8, (IntKind.i64.wrap (shrI .u64 (IntKind.u64.wrap (IntKind.i64.wrap (x8 + x9))) 1)))))) (some (.inr x8))
def Zci (p0 : List Y92) (p1 : Y92) : Option (Int × Bool) := (iter (fun z23 => Zch p0 p1 z23.1 z23.2) big (0, (p0.length : Int))).bind fun y24 => Zcg p0 p1 y24
set_option maxHeartbeats 1000000 in
instance Zcj (p0 : List Y92) (p1 : Y92) : Sp Tryz.prog 294 [C.im Y9g 3 p0, C.agg [C.int p1.kind, C.int p1.key, C.int p1.id], C.val (.func (.func 295) #[] #[])] (Zci p0 p1) (fun r => C.tup [C.int r.1, C.bool r.2]) := sp Tryz.func294 rfl rfl fun r X h => by
 unfold Zci at h
 refine zw ?_
 refine ox fun b1 => ?_
 refine Ops.v rfl (Yr rfl rfl) ?_
 refine Ops.v rfl (Yr rfl rfl) ?_
 refine Ops.nil ?_
 refine AW.seq ?_
 refine AW.region ?_
 refine Ops.v rfl (Yq rfl rfl) ?_
 refine Ops.v rfl (Y2c Ybn.h rfl rfl) ?_
 refine Ops.v rfl (Yr rfl rfl) ?_
 refine Ops.nil ?_
 refine AW.seq ?_
 refine AW.region ?_
 refine Ops.v rfl (Yq rfl rfl) ?_
 refine Ops.v rfl (Yr rfl rfl) ?_
 refine Ops.v rfl (Yr rfl rfl) ?_
 refine Ops.nil ?_
 refine AW.seq ?_
 refine AW.cut (τ := Int) (fun x16 => ⟨[(0, C.im Y9g 3 p0), (2, C.val (.func (.func 295) #[] #[])), (4, pt b1), (8, C.int (p0.length : Int)), (9, C.int x16)], [Obj.box b1 106 [C.int p1.kind, C.int p1.key, C.int p1.id]]⟩) (fun x16 => Zcg p0 p1 x16 = some r) ?_ ?_
 ·
  refine zw ?_
  refine AW.lp (v := ()) h (fun (x8, x9) (_ : Unit) => ⟨[(0, C.im Y9g 3 p0), (2, C.val (.func (.func 295) #[] #[])), (4, pt b1), (8, C.int (p0.length : Int)), (9, C.int x8), (10, C.int x9)], [Obj.box b1 106 [C.int p1.kind, C.int p1.key, C.int p1.id]]⟩) (gb [0]) ?_
  rintro ⟨x8, x9⟩ _ y30 h
  refine zw ?_
  refine cnd h (fun hb10 h => ?_) fun hb10 h => ?_
  ·
   refine AW.ct hb10 rfl ?_
   refine zw ?_
   refine Ops.v rfl (Y12 un_3 Ycv rfl rfl) ?_
   refine Ops.v rfl (Yz rfl rfl rfl rfl) ?_
   refine Ops.v rfl (Y12 Ycv un_3 rfl rfl) ?_
   refine zw ?_
   refine AW.regionD (L := [4, 5]) (Lt := []) (k := dec [0,3,6,9,13,16,20,21]) (ns := [0]) (by kernel_rfl) (by kernel_rfl) (by kernel_rfl) (by kernel_rfl) rfl ?_
   refine zw ?_
   refine di h fun e11 g12 h => ?_
   refine zw ?_
   refine ob' h fun r13 g14 h => ?_
   refine Y3n.h (ns := []) rfl rfl rfl (Y26 (cs := [_, _]) rfl rfl ((Zce _ _).h _ g14) rfl rfl) ?_
   rintro _ _ ⟨_, ⟨rfl, rfl⟩, rfl⟩
   exact go
  exact go
 intro x16 h
 replace h : Zcg p0 p1 x16 = some r := h
 unfold Zcg at h
 refine AW.seq ?_
 refine AW.cut (τ := Bool) (fun x22 => ⟨[(6, C.int x16), (7, C.bool x22)], []⟩) (fun x22 => Zcf x16 x22 = some r) ?_ ?_
 ·
  refine AW.regionD (L := [9, 10]) (Lt := []) (k := dec [0,3,6,9,12,15,18,21,24,28,31,35,36,39,42,45]) (ns := [0]) (by kernel_rfl) (by kernel_rfl) (by kernel_rfl) (by kernel_rfl) rfl ?_
  refine zw ?_
  refine cnd h (fun hb17 h => ?_) fun hb17 h => ?_
  ·
   refine zw ?_
   refine ob' h fun e18 g19 h => ?_
   refine zw ?_
   refine ob' h fun r20 g21 h => ?_
   refine Y3n.gh (ns := []) rfl rfl rfl rfl rfl hb17 rfl (Y26 (cs := [_, _]) rfl rfl ((Zce _ _).h _ g21) rfl rfl) ?_
   rintro _ _ ⟨_, ⟨rfl, rfl⟩, rfl⟩
   exact go
  refine OpsD.gs rfl rfl rfl rfl (.b rfl hb17) rfl rfl ?_
  refine OpsD.gs rfl rfl rfl rfl (.b rfl hb17) rfl rfl ?_
  refine OpsD.gs rfl rfl rfl rfl (.b rfl hb17) rfl rfl ?_
  refine OpsD.gs rfl rfl rfl rfl (.b rfl hb17) rfl rfl ?_
  refine OpsD.gs rfl rfl rfl rfl (.b rfl hb17) rfl rfl ?_
  refine OpsD.gs rfl rfl rfl rfl (.b rfl hb17) rfl rfl ?_
  refine OpsD.one ?_
  refine Y3n.gs rfl rfl rfl rfl (.b rfl hb17) rfl rfl ?_
  exact go
 intro x22 h
 replace h : Zcf x16 x22 = some r := h
 unfold Zcf at h
 refine AW.ret ?_
 rw [← Option.some.inj h]
 exact ⟨[C.int x16, C.bool x22], _, Y21.refl _, (.cons (.tmp rfl) (.cons (.tmp rfl) .nil)), [], _, _, rfl, ⟨rfl, rfl⟩⟩

def Zck (p0 : List Y92) (p1 : Y92) : Option (Int × Bool) := (Zci p0 p1).bind fun r2 => some (r2.1, r2.2)
instance Zcl (p0 : List Y92) (p1 : Y92) : Sp Tryz.prog 253 [C.im Y9g 3 p0, C.agg [C.int p1.kind, C.int p1.key, C.int p1.id]] (Zck p0 p1) (fun r => C.tup [C.int r.1, C.bool r.2]) := sp Tryz.func253 rfl rfl fun r X h => by
 unfold Zck at h
 refine zw ?_
 refine ox fun b1 => ?_
 refine zw ?_
 refine oc h fun r2 g3 h => ?_
 refine zw ?_
 refine AW.ret ?_
 rw [← Option.some.inj h]
 exact ⟨[C.int r2.1, C.bool r2.2], _, Y21.refl _, (.cons (.tmp rfl) (.cons (.tmp rfl) .nil)), [], _, _, rfl, ⟨rfl, rfl⟩⟩

def Zcm (p0 : List Y92) (p1 : Int) (p2 : Int) : Option Int := (Zck p0 (Y92.mk p1 p2 0)).bind fun r1 => cond r1.2 ((getI p0 r1.1).bind fun e4 => some e4.id) (some 0)
set_option maxHeartbeats 1000000 in
instance Zcn (p0 : List Y92) (p1 : Int) (p2 : Int) : Sp Tryz.prog 264 [C.im Y9g 3 p0, C.int p1, C.int p2] (Zcm p0 p1 p2) C.int := sp Tryz.func264 rfl rfl fun r X h => by
 unfold Zcm at h
 refine zw ?_
 refine Ops.v rfl (Y38 (ds := [C.int p1, C.int p2, C.int 0]) Ybz Yc0 (Y42 rfl rfl) (.one rfl (One.val rfl) rfl rfl (.one rfl (One.val rfl) rfl rfl .nil)) rfl) ?_
 exact go

def Zco (p0 : Y90) (p1 : List Y92) (p2 : Int) (p3 : Int) : Option (Y8w × Bool) := (Zcm p1 p2 p3).bind fun r3 => (Zbu p0 r3).bind fun r5 => some (r5.1, r5.2)
instance Zcp (p0 : Y90) (p1 : List Y92) (p2 : Int) (p3 : Int) : Sp Tryz.prog 222 [C.agg [C.int p0.room, C.im Y98 9 p0.events, C.im Y98 9 p0.parked], C.im Y9g 3 p1, C.int p2, C.int p3] (Zco p0 p1 p2 p3) (fun r => C.tup [C.agg [C.int r.1.id, C.int r.1.room, C.int r.1.author, C.int r.1.kind, C.int r.1.key, C.int r.1.n, C.str r.1.text, C.im kI64 1 r.1.prev, C.int r.1.time], C.bool r.2]) := sp Tryz.func222 rfl rfl fun r X h => by
 unfold Zco at h
 refine zw ?_
 refine ox fun b1 => ?_
 refine Ops.h (ns := []) rfl rfl (Y1p (cs := [C.int 0, C.int 0, C.int 0, C.int 0, C.int 0, C.int 0, C.str ByteArray.empty, C.val s0, C.int 0]) Ya7 (Y42 rfl rfl) rfl) ?_
 rintro _ _ ⟨b2, rfl, rfl⟩
 refine zw ?_
 refine AW.regionD (L := [0]) (Lt := [8]) (k := .light 0 true (.light 1 false (.light 2 false (.light 3 false (.one 4 (.one 5 (.light 6 false (.light 7 false (.late 8 (.light 9 false .done)))))))))) (ns := [0, 0]) (by kernel_rfl) (by kernel_rfl) (by kernel_rfl) (by kernel_rfl) rfl ?_
 refine zw ?_
 refine dc h fun r3 g4 h => ?_
 refine zw ?_
 refine dc h fun r5 g6 h => ?_
 refine zw ?_
 refine OpsD.late (ns := [0]) rfl rfl rfl (Y1u (gs := [C.int r5.1.id, C.int r5.1.room, C.int r5.1.author, C.int r5.1.kind, C.int r5.1.key, C.int r5.1.n, C.str r5.1.text, C.im kI64 1 r5.1.prev, C.int r5.1.time]) Yao.h rfl rfl rfl rfl rfl) ?_
 rintro _ _ ⟨rfl, rfl⟩
 refine zw ?_
 refine AW.ret ?_
 rw [← Option.some.inj h]
 exact ⟨[C.agg [C.int r5.1.id, C.int r5.1.room, C.int r5.1.author, C.int r5.1.kind, C.int r5.1.key, C.int r5.1.n, C.str r5.1.text, C.im kI64 1 r5.1.prev, C.int r5.1.time], C.bool r5.2], _, Y21.refl _, (.cons (.cell (p := 0) rfl rfl Yao.h rfl) (.cons (.tmp rfl) .nil)), [], _, _, rfl, ⟨rfl, rfl⟩⟩

def Zcq (p0 : Y90) (p1 : List Y92) (p2 : Int) : Option Int := (Zco p0 p1 2 p2).bind fun r2 => some r2.1.n
instance Zcr (p0 : Y90) (p1 : List Y92) (p2 : Int) : Sp Tryz.prog 163 [C.agg [C.int p0.room, C.im Y98 9 p0.events, C.im Y98 9 p0.parked], C.im Y9g 3 p1, C.int p2] (Zcq p0 p1 p2) C.int := sp Tryz.func163 rfl rfl fun r X h => by
 unfold Zcq at h
 refine zw ?_
 refine ox fun b1 => ?_
 refine zw ?_
 refine oc h fun r2 g3 h => ?_
 refine zw ?_
 refine Ops.h (ns := []) rfl rfl (Y1p (cs := [C.int 0, C.int 0, C.int 0, C.int 0, C.int 0, C.int 0, C.str ByteArray.empty, C.val s0, C.int 0]) Ya7 (Y42 rfl rfl) rfl) ?_
 rintro _ _ ⟨b4, rfl, rfl⟩
 refine Ops.hd (ns := [0]) rfl rfl (Y1u (gs := [C.int r2.1.id, C.int r2.1.room, C.int r2.1.author, C.int r2.1.kind, C.int r2.1.key, C.int r2.1.n, C.str r2.1.text, C.im kI64 1 r2.1.prev, C.int r2.1.time]) Yao.h rfl rfl rfl rfl rfl) ?_
 exact go

def Zcs (x10 : Bool) : Option Int := cond x10 (some 100) (some 0)
def Zct (p0 : Y90) (p1 : List Y92) (p2 : Int) : Option Int := (Zco p0 p1 3 p2).bind fun r2 => cond r2.2 (some r2.1.n) ((Zco p0 p1 1 0).bind fun r6 => cond r6.2 (Zcs (r6.1.author == p2)) (Zcs false))
set_option maxHeartbeats 1000000 in
instance Zcu (p0 : Y90) (p1 : List Y92) (p2 : Int) : Sp Tryz.prog 248 [C.agg [C.int p0.room, C.im Y98 9 p0.events, C.im Y98 9 p0.parked], C.im Y9g 3 p1, C.int p2] (Zct p0 p1 p2) C.int := sp Tryz.func248 rfl rfl fun r X h => by
 unfold Zct at h
 refine zw ?_
 refine ox fun b1 => ?_
 refine zw ?_
 refine oc h fun r2 g3 h => ?_
 refine zw ?_
 refine Ops.h (ns := []) rfl rfl (Y1p (cs := [C.int 0, C.int 0, C.int 0, C.int 0, C.int 0, C.int 0, C.str ByteArray.empty, C.val s0, C.int 0]) Ya7 (Y42 rfl rfl) rfl) ?_
 rintro _ _ ⟨b4, rfl, rfl⟩
 refine Ops.hd (ns := [0]) rfl rfl (Y1u (gs := [C.int r2.1.id, C.int r2.1.room, C.int r2.1.author, C.int r2.1.kind, C.int r2.1.key, C.int r2.1.n, C.str r2.1.text, C.im kI64 1 r2.1.prev, C.int r2.1.time]) Yao.h rfl rfl rfl rfl rfl) ?_
 refine zw ?_
 refine cnd h (fun hb5 h => go) fun hb5 h => ?_
 refine AW.cf hb5 rfl ?_
 refine zw ?_
 refine oc h fun r6 g7 h => ?_
 refine zw ?_
 refine Ops.h (ns := []) rfl rfl (Y1p (cs := [C.int 0, C.int 0, C.int 0, C.int 0, C.int 0, C.int 0, C.str ByteArray.empty, C.val s0, C.int 0]) Ya7 (Y42 rfl rfl) rfl) ?_
 rintro _ _ ⟨b8, rfl, rfl⟩
 refine Ops.hd (ns := [0]) rfl rfl (Y1u (gs := [C.int r6.1.id, C.int r6.1.room, C.int r6.1.author, C.int r6.1.kind, C.int r6.1.key, C.int r6.1.n, C.str r6.1.text, C.im kI64 1 r6.1.prev, C.int r6.1.time]) Yao.h rfl rfl rfl rfl rfl) ?_
 exact go

def Zcv (p0 : Bool) : Option Int := cond p0 (some 11) (some 0)
instance Zcw (p0 : Bool) : Sp Tryz.prog 251 [C.bool p0] (Zcv p0) C.int := sp Tryz.func251 rfl rfl fun r X h => go

def Zcx (x23 : Int) : Option Int := some x23
def Zcy (p0 : Y90) (p1 : List Y92) (p2 : Y8w) (p3 : Int) (x4 : Bool) : Option Int := cond (p2.n == 1) ((Zco p0 p1 5 0).bind fun r6 => (Zco p0 p1 1 0).bind fun r9 => cond (p3 == 3) ((Zcv true).bind fun r13 => Zcx r13) (cond x4 ((Zcv false).bind fun r16 => Zcx r16) (cond (r6.1.n != 1) ((Zcv (r9.1.author != p2.author)).bind fun r19 => Zcx r19) ((Zcv false).bind fun r21 => Zcx r21)))) (cond (p2.n == 2) ((Zcv (!x4)).bind fun r25 => some r25) (some 11))
def Zcz (p0 : Y90) (p1 : List Y92) (p2 : Y8w) (p3 : Int) : Option Int := cond (p3 == 1) (Zcy p0 p1 p2 p3 true) (Zcy p0 p1 p2 p3 (p3 == 4))
set_option maxHeartbeats 1000000 in
instance Zd0 (p0 : Y90) (p1 : List Y92) (p2 : Y8w) (p3 : Int) : Sp Tryz.prog 249 [C.agg [C.int p0.room, C.im Y98 9 p0.events, C.im Y98 9 p0.parked], C.im Y9g 3 p1, C.agg [C.int p2.id, C.int p2.room, C.int p2.author, C.int p2.kind, C.int p2.key, C.int p2.n, C.str p2.text, C.im kI64 1 p2.prev, C.int p2.time], C.int p3] (Zcz p0 p1 p2 p3) C.int := sp Tryz.func249 rfl rfl fun r X h => by
 unfold Zcz at h
 refine zw ?_
 refine ox fun b1 => ?_
 refine ox fun b2 => ?_
 refine Ops.v rfl (Yr rfl rfl) ?_
 refine Ops.nil ?_
 refine AW.seq ?_
 refine AW.cut (τ := Bool) (fun x4 => ⟨[(1, C.im Y9g 3 p1), (3, C.int p3), (4, pt b1), (6, pt b2), (9, C.bool x4)], [Obj.box b1 139 [C.int p0.room, C.im Y98 9 p0.events, C.im Y98 9 p0.parked], Obj.box b2 136 [C.int p2.id, C.int p2.room, C.int p2.author, C.int p2.kind, C.int p2.key, C.int p2.n, C.str p2.text, C.im kI64 1 p2.prev, C.int p2.time]]⟩) (fun x4 => Zcy p0 p1 p2 p3 x4 = some r) go fun x4 h => ?_
 replace h : Zcy p0 p1 p2 p3 x4 = some r := h
 unfold Zcy at h
 refine zw ?_
 refine cnd h (fun hb5 h => ?_) fun hb5 h => ?_
 ·
  refine AW.ct hb5 rfl ?_
  refine zw ?_
  refine oc h fun r6 g7 h => ?_
  refine zw ?_
  refine Ops.h (ns := []) rfl rfl (Y1p (cs := [C.int 0, C.int 0, C.int 0, C.int 0, C.int 0, C.int 0, C.str ByteArray.empty, C.val s0, C.int 0]) Ya7 (Y42 rfl rfl) rfl) ?_
  rintro _ _ ⟨b8, rfl, rfl⟩
  refine Ops.hd (ns := [0]) rfl rfl (Y1u (gs := [C.int r6.1.id, C.int r6.1.room, C.int r6.1.author, C.int r6.1.kind, C.int r6.1.key, C.int r6.1.n, C.str r6.1.text, C.im kI64 1 r6.1.prev, C.int r6.1.time]) Yao.h rfl rfl rfl rfl rfl) ?_
  refine zw ?_
  refine oc h fun r9 g10 h => ?_
  refine zw ?_
  refine Ops.h (ns := []) rfl rfl (Y1p (cs := [C.int 0, C.int 0, C.int 0, C.int 0, C.int 0, C.int 0, C.str ByteArray.empty, C.val s0, C.int 0]) Ya7 (Y42 rfl rfl) rfl) ?_
  rintro _ _ ⟨b11, rfl, rfl⟩
  refine Ops.hd (ns := [0]) rfl rfl (Y1u (gs := [C.int r9.1.id, C.int r9.1.room, C.int r9.1.author, C.int r9.1.kind, C.int r9.1.key, C.int r9.1.n, C.str r9.1.text, C.im kI64 1 r9.1.prev, C.int r9.1.time]) Yao.h rfl rfl rfl rfl rfl) ?_
  exact go
 exact go

def Zd1 (x15 : Int) : Option Int := some x15
def Zd2 (x25 : Int) : Option Int := some x25
def Zd3 (x32 : Int) : Option Int := some x32
def Zd4 (p2 : Y8w) (r3 : Int) (x8 : Bool) : Option Int := cond (p2.n == 4) (cond (r3 == 1) ((Zcv true).bind fun r11 => Zd1 r11) ((Zcv (r3 == 3)).bind fun r13 => Zd1 r13)) (cond (p2.n == 2) (cond x8 ((Zcv true).bind fun r18 => Zd2 r18) (cond (r3 == 0) ((Zcv true).bind fun r21 => Zd2 r21) ((Zcv (r3 == 2)).bind fun r23 => Zd2 r23))) (cond (p2.n == 3) (cond x8 ((Zcv true).bind fun r28 => Zd3 r28) ((Zcv (r3 == 3)).bind fun r30 => Zd3 r30)) (some 11)))
def Zd5 (p0 : Y90) (p1 : List Y92) (p2 : Y8w) (p3 : Int) : Option Int := (Zcq p0 p1 p2.key).bind fun r3 => (Zct p0 p1 p2.key).bind fun r5 => cond (decide (p3 < 50)) (Zd4 p2 r3 true) (Zd4 p2 r3 (decide (p3 ≤ r5)))
set_option maxHeartbeats 1000000 in
instance Zd6 (p0 : Y90) (p1 : List Y92) (p2 : Y8w) (p3 : Int) : Sp Tryz.prog 250 [C.agg [C.int p0.room, C.im Y98 9 p0.events, C.im Y98 9 p0.parked], C.im Y9g 3 p1, C.agg [C.int p2.id, C.int p2.room, C.int p2.author, C.int p2.kind, C.int p2.key, C.int p2.n, C.str p2.text, C.im kI64 1 p2.prev, C.int p2.time], C.int p3] (Zd5 p0 p1 p2 p3) C.int := sp Tryz.func250 rfl rfl fun r X h => by
 unfold Zd5 at h
 refine zw ?_
 refine ox fun b1 => ?_
 refine ox fun b2 => ?_
 refine zw ?_
 refine AW.regionD (L := [0, 3, 5, 8]) (Lt := []) (k := dec [1,3,6,10,16,18,21,25,14,29,30,33]) (ns := [0, 0]) (by kernel_rfl) (by kernel_rfl) (by kernel_rfl) (by kernel_rfl) rfl ?_
 refine zw ?_
 refine dc h fun r3 g4 h => ?_
 refine zw ?_
 refine dc h fun r5 g6 h => ?_
 refine OpsD.v rfl rfl (Yr rfl rfl) ?_
 refine OpsD.v rfl rfl (Yr rfl rfl) ?_
 refine OpsD.done ?_
 refine AW.seq ?_
 refine AW.cut (τ := Bool) (fun x8 => ⟨[(6, pt b2), (9, C.int r3), (11, C.bool x8)], [Obj.box b2 136 [C.int p2.id, C.int p2.room, C.int p2.author, C.int p2.kind, C.int p2.key, C.int p2.n, C.str p2.text, C.im kI64 1 p2.prev, C.int p2.time]]⟩) (fun x8 => Zd4 p2 r3 x8 = some r) go fun x8 h => go

def Zd7 (x38 : Int) : Option Int := some x38
def Zd8 (x55 : Int) : Option Int := some x55
def Zd9 (p0 : Y90) (p2 : Y8w) (r8 : Int) (x41 : Bool) : Option Int := cond x41 ((Zcv (decide (r8 < 50))).bind fun r43 => some r43) (cond (p2.kind == 8) ((Zbu p0 p2.key).bind fun r46 => cond r46.2 (cond (decide (r8 < 50)) ((Zcv (r46.1.author != p2.author)).bind fun r51 => Zd8 r51) ((Zcv false).bind fun r53 => Zd8 r53)) (some 6)) (some 0))
def Zda (p0 : Y90) (p1 : List Y92) (p2 : Y8w) (r6 : Int) (r8 : Int) (x16 : Bool) : Option Int := cond x16 ((Zcz p0 p1 p2 r6).bind fun r18 => some r18) (cond (r6 != 1) (some 11) (cond (p2.kind == 2) ((Zd5 p0 p1 p2 r8).bind fun r22 => some r22) (cond (p2.kind == 3) (cond (decide (r8 < 50)) ((Zcv true).bind fun r26 => Zd7 r26) (cond (decide (p2.n > r8)) ((Zcv true).bind fun r29 => Zd7 r29) (cond (p2.key != p2.author) ((Zct p0 p1 p2.key).bind fun r32 => (Zcv (decide (r32 ≥ r8))).bind fun r34 => Zd7 r34) ((Zcv false).bind fun r36 => Zd7 r36)))) (cond (p2.kind == 4) (Zd9 p0 p2 r8 (p2.kind == 4)) (cond (p2.kind == 5) (Zd9 p0 p2 r8 (p2.kind == 5)) (Zd9 p0 p2 r8 (p2.kind == 6)))))))
def Zdb (p0 : Y90) (p1 : List Y92) (p2 : Y8w) (r3 : Y8w × Bool) (r6 : Int) (r8 : Int) (x11 : Bool) : Option Int := cond x11 (some 7) (cond (p2.kind == 1) (some 0) (cond r3.2 (cond (p2.kind == 2) (Zda p0 p1 p2 r6 r8 (p2.key == p2.author)) (Zda p0 p1 p2 r6 r8 false)) (some 10)))
def Zdc (p0 : Y90) (p1 : List Y92) (p2 : Y8w) : Option Int := (Zco p0 p1 1 0).bind fun r3 => (Zcq p0 p1 p2.author).bind fun r6 => (Zct p0 p1 p2.author).bind fun r8 => cond (p2.kind == 1) (Zdb p0 p1 p2 r3 r6 r8 r3.2) (Zdb p0 p1 p2 r3 r6 r8 false)
set_option maxHeartbeats 1000000 in
instance Zdd (p0 : Y90) (p1 : List Y92) (p2 : Y8w) : Sp Tryz.prog 203 [C.agg [C.int p0.room, C.im Y98 9 p0.events, C.im Y98 9 p0.parked], C.im Y9g 3 p1, C.agg [C.int p2.id, C.int p2.room, C.int p2.author, C.int p2.kind, C.int p2.key, C.int p2.n, C.str p2.text, C.im kI64 1 p2.prev, C.int p2.time]] (Zdc p0 p1 p2) C.int := sp Tryz.func203 rfl rfl fun r X h => by
 unfold Zdc at h
 refine zw ?_
 refine ox fun b1 => ?_
 refine ox fun b2 => ?_
 refine zw ?_
 refine oc h fun r3 g4 h => ?_
 refine zw ?_
 refine Ops.h (ns := []) rfl rfl (Y1p (cs := [C.int 0, C.int 0, C.int 0, C.int 0, C.int 0, C.int 0, C.str ByteArray.empty, C.val s0, C.int 0]) Ya7 (Y42 rfl rfl) rfl) ?_
 rintro _ _ ⟨b5, rfl, rfl⟩
 refine Ops.hd (ns := [0]) rfl rfl (Y1u (gs := [C.int r3.1.id, C.int r3.1.room, C.int r3.1.author, C.int r3.1.kind, C.int r3.1.key, C.int r3.1.n, C.str r3.1.text, C.im kI64 1 r3.1.prev, C.int r3.1.time]) Yao.h rfl rfl rfl rfl rfl) ?_
 refine zw ?_
 refine AW.regionD (L := [0, 3, 5, 8]) (Lt := []) (k := dec [1,3,6,10,16,18,21,25,14,29,30,33]) (ns := [0, 0, 0]) (by kernel_rfl) (by kernel_rfl) (by kernel_rfl) (by kernel_rfl) rfl ?_
 refine zw ?_
 refine dc h fun r6 g7 h => ?_
 refine zw ?_
 refine dc h fun r8 g9 h => ?_
 refine OpsD.v rfl rfl (Yr rfl rfl) ?_
 refine OpsD.v rfl rfl (Yr rfl rfl) ?_
 refine OpsD.done ?_
 refine AW.seq ?_
 refine AW.block ?_
 refine AW.seq ?_
 refine AW.cut (τ := Bool) (fun x11 => ⟨[(1, C.im Y9g 3 p1), (3, pt b1), (5, pt b2), (8, C.bool r3.2), (9, C.int r6), (10, C.int r8), (29, C.bool x11)], [Obj.box b1 139 [C.int p0.room, C.im Y98 9 p0.events, C.im Y98 9 p0.parked], Obj.box b2 136 [C.int p2.id, C.int p2.room, C.int p2.author, C.int p2.kind, C.int p2.key, C.int p2.n, C.str p2.text, C.im kI64 1 p2.prev, C.int p2.time]]⟩) (fun x11 => Zdb p0 p1 p2 r3 r6 r8 x11 = some r) go fun x11 h => ?_
 replace h : Zdb p0 p1 p2 r3 r6 r8 x11 = some r := h
 unfold Zdb at h
 refine cnd h (fun hb12 h => go) fun hb12 h => ?_
 refine AW.cf hb12 rfl ?_
 refine zw ?_
 refine cnd h (fun hb13 h => go) fun hb13 h => ?_
 refine AW.cf hb13 rfl ?_
 refine zw ?_
 refine cnd h (fun hb14 h => ?_) fun hb14 h => ?_
 ·
  refine AW.cond rfl (fun hn => absurd ((Y3u hb14).symm.trans hn) (by decide)) (fun _ => ?_)
  refine AW.seq ?_
  refine AW.cut (τ := Bool) (fun x16 => ⟨[(1, C.im Y9g 3 p1), (3, pt b1), (5, pt b2), (9, C.int r6), (10, C.int r8), (43, C.bool x16)], [Obj.box b1 139 [C.int p0.room, C.im Y98 9 p0.events, C.im Y98 9 p0.parked], Obj.box b2 136 [C.int p2.id, C.int p2.room, C.int p2.author, C.int p2.kind, C.int p2.key, C.int p2.n, C.str p2.text, C.im kI64 1 p2.prev, C.int p2.time]]⟩) (fun x16 => Zda p0 p1 p2 r6 r8 x16 = some r) go fun x16 h => ?_
  replace h : Zda p0 p1 p2 r6 r8 x16 = some r := h
  unfold Zda at h
  refine cnd h (fun hb17 h => go) fun hb17 h => ?_
  refine AW.cf hb17 rfl ?_
  refine zw ?_
  refine cnd h (fun hb20 h => go) fun hb20 h => ?_
  refine AW.cf hb20 rfl ?_
  refine zw ?_
  refine cnd h (fun hb21 h => go) fun hb21 h => ?_
  refine AW.cf hb21 rfl ?_
  refine zw ?_
  refine cnd h (fun hb24 h => ?_) fun hb24 h => ?_
  ·
   refine AW.ct hb24 rfl ?_
   refine zw ?_
   refine cnd h (fun hb25 h => go) fun hb25 h => ?_
   refine zw ?_
   refine cnd h (fun hb28 h => go) fun hb28 h => ?_
   refine zw ?_
   refine cnd h (fun hb31 h => ?_) fun hb31 h => ?_
   ·
    refine zw ?_
    refine ob' h fun r32 g33 h => ?_
    refine Ops.ghd (ns := []) rfl rfl rfl rfl hb31 rfl (Y24 ((Zcu _ _ _).h _ g33) rfl rfl) ?_
    exact go
   exact go
  refine AW.cf hb24 rfl ?_
  refine AW.seq ?_
  refine AW.cut (τ := Bool) (fun x41 => ⟨[(3, pt b1), (5, pt b2), (10, C.int r8), (63, C.int p2.kind), (98, C.bool x41)], [Obj.box b1 139 [C.int p0.room, C.im Y98 9 p0.events, C.im Y98 9 p0.parked], Obj.box b2 136 [C.int p2.id, C.int p2.room, C.int p2.author, C.int p2.kind, C.int p2.key, C.int p2.n, C.str p2.text, C.im kI64 1 p2.prev, C.int p2.time]]⟩) (fun x41 => Zd9 p0 p2 r8 x41 = some r) ?_ ?_
  ·
   exact go
  intro x41 h
  replace h : Zd9 p0 p2 r8 x41 = some r := h
  unfold Zd9 at h
  refine cnd h (fun hb42 h => go) fun hb42 h => ?_
  refine AW.cf hb42 rfl ?_
  refine zw ?_
  refine cnd h (fun hb45 h => ?_) fun hb45 h => ?_
  ·
   refine AW.ct hb45 rfl ?_
   refine zw ?_
   refine oc h fun r46 g47 h => ?_
   refine zw ?_
   refine Ops.h (ns := []) rfl rfl (Y1p (cs := [C.int 0, C.int 0, C.int 0, C.int 0, C.int 0, C.int 0, C.str ByteArray.empty, C.val s0, C.int 0]) Ya7 (Y42 rfl rfl) rfl) ?_
   rintro _ _ ⟨b48, rfl, rfl⟩
   refine Ops.hd (ns := [0]) rfl rfl (Y1u (gs := [C.int r46.1.id, C.int r46.1.room, C.int r46.1.author, C.int r46.1.kind, C.int r46.1.key, C.int r46.1.n, C.str r46.1.text, C.im kI64 1 r46.1.prev, C.int r46.1.time]) Yao.h rfl rfl rfl rfl rfl) ?_
   exact go
  exact go
 exact go

def Zde (p0 : List Y92) : Option (List Y92) := (chk (decide (p0.length * 24 ≤ 140737488355328))).bind fun _ => some p0
theorem Zdf (p0 : List Y92) (r : List Y92) (h : Zde p0 = some r) : Ok Tryz.prog 252 [C.im Y9g 3 p0] [] (fun c qs => ∃ (v : Value), c = C.val v ∧ qs = [Obj.arr v 106 Y9g 3 r]) := by
 refine ob' h fun u hc h => ?_
 obtain rfl := Option.some.inj h
 have hc := of_decide_eq_true (Y3t hc)
 refine Ok.of_body (rs := [.tmp 2]) Tryz.func252 rfl rfl rfl rfl rfl fun X => ?_
 refine zw ?_
 refine Ops.h (ns := []) rfl rfl (Y5m Ybn.h rfl rfl) ?_
 rintro _ _ ⟨b, hb, rfl, rfl⟩
 refine zw ?_
 refine tf' b (fun hq => ?_) (fun hq => ?_)
 ·
  refine AW.cond rfl (fun _ => ?_) (fun hn => absurd (hq.symm.trans hn) (by decide))
  refine zw ?_
  refine AW.ret ?_
  obtain rfl := hb hq
  exact ⟨[C.val s0], _, Y21.nil 106 Y9g 3, .cons (.tmp rfl) .nil, [0], _, _, rfl, ⟨_, rfl, rfl⟩⟩
 refine AW.cond rfl (fun hn => absurd (hq.symm.trans hn) (by decide)) (fun _ => ?_)
 refine zw ?_
 refine Ops.h (ns := []) rfl rfl (Y39 (k := Y9g) (ys := ([] : List Y92)) Ybt .nil rfl rfl rfl) ?_
 rintro _ _ ⟨b1, rfl, rfl⟩
 refine zw ?_
 refine Ops.h (ns := [0]) rfl rfl (Y2r Ybt rfl rfl (by simpa using hc) (by simp; omega) rfl) ?_
 rintro _ _ ⟨v, rfl, rfl⟩
 refine zw ?_
 refine AW.ret ?_
 exact ⟨[C.val v], _, Y21.refl _, .cons (.tmp rfl) .nil, [0], _, _, rfl, ⟨v, rfl, rfl⟩⟩
instance Zdf' (p0 : List Y92) : Sp Tryz.prog 252 [C.im Y9g 3 p0] (Zde p0) (fun r => C.im Y9g 3 r) := ⟨fun r h => Ok.freeze (Zdf p0 r h) (by rintro c qs ⟨v, rfl, rfl⟩; exact Frz.arr)⟩

def Zdg (p0 : List Y92) (p1 : Int) (p2 : Int) : Option (List Y92) := delI p0 p1 p2
set_option maxHeartbeats 1000000 in
theorem Zdh {w1 : Value} (p0 : List Y92) (p1 : Int) (p2 : Int) (r : List Y92) (h : Zdg p0 p1 p2 = some r) : Ok Tryz.prog 254 [C.val w1, C.int p1, C.int p2] [Obj.arr w1 106 Y9g 3 p0] (fun c qs => ∃ (v : Value), c = C.val v ∧ qs = [Obj.arr v 106 Y9g 3 r]) := by
 obtain ⟨a, b, rfl, rfl, hij, hj, rfl⟩ := Y7g h
 refine Ok.of_body (rs := [.tmp 6]) Tryz.func254 rfl rfl rfl rfl rfl fun X => ?_
 refine AW.learn (Sim.arr_cap (p := 0) rfl) fun hw => ?_
 obtain ⟨A, cap, rfl, hc, _, _⟩ := hw
 refine zw ?_
 refine Ops.v rfl (Y7h (p := 0) Ybn.h rfl rfl rfl rfl rfl hij hj rfl) ?_
 refine zw ?_
 refine tf' (((a : Nat) : Int) == ((b : Nat) : Int)) (fun hq => ?_) (fun hq => ?_)
 ·
  refine AW.cond rfl (fun _ => ?_) (fun hn => absurd (hq.symm.trans hn) (by decide))
  refine zw ?_
  refine AW.ret ?_
  obtain rfl : a = b := by have := eq_of_beq hq; omega
  rw [List.take_append_drop]
  exact ⟨[C.val (.slice A p0.length cap)], _, Y21.refl _, .cons (.tmp rfl) .nil, [0], _, _, rfl, ⟨_, rfl, rfl⟩⟩
 refine AW.cond rfl (fun hn => absurd (hq.symm.trans hn) (by decide)) (fun _ => ?_)
 refine zw ?_
 refine AW.regionD (L := []) (Lt := []) (k := dec [0,3,6,9,12,15,20,21]) (ns := []) (by kernel_rfl) (by kernel_rfl) (by kernel_rfl) (by kernel_rfl) rfl ?_
 refine zw ?_
 refine OpsD.v rfl rfl (Y7l Ybn.h rfl rfl (by omega) hc rfl) ?_
 refine zw ?_
 refine OpsD.v rfl rfl (Y7k Ybn.h rfl rfl hj hc rfl) ?_
 refine OpsD.one ?_
 refine Y3n.h (ns := [0]) rfl rfl rfl (Y7i (v := .slice A p0.length cap) Ybt rfl rfl hij hj rfl) ?_
 rintro _ _ ⟨rfl, rfl⟩
 refine zw ?_
 refine Ops.v rfl (Y2d Ybn.h rfl rfl) ?_
 refine zw ?_
 refine Ops.v rfl (Y7j (p := 0) (h := p0.length) (v := .slice A p0.length cap) (l := a + (p0.length - b)) Ybn.h rfl rfl rfl rfl (by omega) (by simp; omega) rfl) ?_
 refine Ops.h (ns := [0]) rfl rfl (Y7d (v := .slice A p0.length cap) (l := a + (p0.length - b)) (z := (Y92.mk 0 0 0)) Ybt Yc0 (Y42 rfl rfl) rfl (by simp <;> omega)) ?_
 rintro _ _ ⟨rfl, rfl⟩
 refine zw ?_
 refine AW.ret ?_
 exact ⟨[C.val (Y73 (.slice A p0.length cap) (a + (p0.length - b)))], _, Y21.prefix (p := 0) (h := a + (p0.length - b)) rfl (by simp; omega), .cons (.tmp rfl) .nil, [0], _, _, rfl, ⟨_, rfl, by rw [Y7m hij hj]⟩⟩
def Zdi (p0 : List Y92) (p1 : Int) (p2 : List Y92) : Option (List Y92) := insI 24 p0 p1 p2
set_option maxHeartbeats 1000000 in
theorem Zdj {w1 w2 : Value} (p0 : List Y92) (p1 : Int) (p2 : List Y92) (r : List Y92) (h : Zdi p0 p1 p2 = some r) : Ok Tryz.prog 255 [C.val w1, C.int p1, C.val w2] [Obj.arr w1 106 Y9g 3 p0, Obj.arr w2 106 Y9g 3 p2] (fun c qs => ∃ (v : Value), c = C.val v ∧ qs = [Obj.arr v 106 Y9g 3 r]) := by
 obtain ⟨i, rfl, hi, hm, hb, rfl⟩ := Y54 h
 refine Ok.of_body (rs := [.tmp 6]) Tryz.func255 rfl rfl rfl rfl rfl fun X => ?_
 refine AW.learn (Sim.arr_cap (p := 0) rfl) fun hw => ?_
 obtain ⟨A, cap, rfl, hc, hmax, hA⟩ := hw
 have hmax0 := hmax
 simp only [maxLen] at hmax
 refine zw ?_
 refine Ops.v rfl (Y52 Ybn.h rfl rfl hi hc rfl) ?_
 refine zw ?_
 refine AW.cond rfl (fun hn => absurd ((beq_false_of_ne (by omega)).symm.trans hn) (by decide)) (fun _ => ?_)
 refine zw ?_
 refine tf' (((i : Nat) : Int) == (p0.length : Int)) (fun hq => ?_) (fun hq => ?_)
 ·
  refine AW.cond rfl (fun _ => ?_) (fun hn => absurd (hq.symm.trans hn) (by decide))
  refine zw ?_
  refine Ops.h (ns := [0, 0]) rfl rfl (Y2s Ybt rfl rfl hb (by omega) rfl) ?_
  rintro _ _ ⟨v, rfl, rfl⟩
  refine zw ?_
  refine AW.ret ?_
  obtain rfl : i = p0.length := by have := eq_of_beq hq; omega
  rw [List.take_of_length_le (Nat.le_refl _), List.drop_of_length_le (Nat.le_refl _), List.append_nil]
  exact ⟨[C.val v], _, Y21.refl _, .cons (.tmp rfl) .nil, [0], _, _, rfl, ⟨v, rfl, rfl⟩⟩
 have hlt : i < p0.length := by have := ne_of_beq_false hq; omega
 obtain ⟨b, rfl⟩ := hA.resolve_left (fun e => by rw [e.1] at hlt; exact absurd hlt (Nat.not_lt_zero _))
 refine AW.ghost (Y21.raw (p := 0) rfl) ?_
 rw [← Y51 b 3 p0.length cap]
 refine AW.cond rfl (fun hn => absurd (hq.symm.trans hn) (by decide)) (fun _ => ?_)
 refine AW.skip ?_
 refine AW.seq ?_
 refine AW.seq ?_
 refine AW.region ?_
 refine Ops.v rfl (Yq rfl rfl) ?_
 refine Ops.v rfl (Yq rfl rfl) ?_
 refine Ops.v rfl (Yv (r := .int .i64 ((p0.length + p2.length : Nat) : Int)) rfl rfl (Y59 (by omega) (by omega)) rfl) ?_
 refine zw ?_
 refine Ops.v rfl (Y4s Ybn.h rfl rfl) ?_
 refine zw ?_
 refine tf' (decide (((p0.length + p2.length : Nat) : Int) > (cap : Int))) (fun hg => ?_) (fun hg => ?_)
 ·
  have hg1 := of_decide_eq_true hg
  refine AW.cond rfl (fun _ => ?_) (fun hn => absurd (hg.symm.trans hn) (by decide))
  refine zw ?_
  refine Ops.v rfl (Y4r Ybn.h rfl rfl (by omega) (by omega) rfl) ?_
  refine Ops.v rfl (Yq rfl rfl) ?_
  refine Ops.v rfl (Yq rfl rfl) ?_
  refine Ops.v rfl (Yv (r := .int .i64 ((p0.length + p2.length : Nat) : Int)) rfl rfl (Y59 (by omega) (by omega)) rfl) ?_
  refine Ops.v rfl (Yq rfl rfl) ?_
  refine Ops.v rfl (Yv (r := .int .i64 ((p0.length + p2.length - i : Nat) : Int)) rfl rfl (Y5a (by omega) (by omega)) rfl) ?_
  refine Ops.h (ns := [0]) rfl rfl (Y58 (N := p0.length + p2.length) (k := Y9g) (z0 := (Y92.mk 0 0 0)) Ybt un_3 Yc0 (Y42 rfl rfl) rfl rfl (xs := p0.take i) (by rw [List.drop_zero, List.take_append_of_le_length (by simp; omega), List.map_take]) (by simp; omega) (by omega) (by omega) (by omega) hb (by decide) rfl) ?_
  rintro _ _ ⟨b2, c2, hc2, hm2, rfl, rfl⟩
  refine zw ?_
  refine Ops.v rfl (Y57 (o' := i) (l' := p0.length + p2.length - i) (c' := c2 - i) Ybn.h rfl rfl (by omega) (by omega) (by omega) (by omega) (by omega) (by omega) rfl) ?_
  refine zw ?_
  refine Ops.h (ns := [0, 1]) rfl rfl (Y4w (xs := p2) Ybn.h rfl rfl (by rw [List.take_of_length_le (by omega)]) (by simp; omega) rfl) ?_
  rintro _ _ ⟨rfl, rfl⟩
  refine zw ?_
  refine AW.regionD (L := []) (Lt := []) (k := dec [0,3,6,9,12,15,18,21,26]) (ns := []) (by kernel_rfl) (by kernel_rfl) (by kernel_rfl) (by kernel_rfl) rfl ?_
  refine OpsD.v rfl rfl (Yq rfl rfl) ?_
  refine OpsD.v rfl rfl (Yq rfl rfl) ?_
  refine OpsD.v rfl rfl (Yq rfl rfl) ?_
  refine OpsD.v rfl rfl (Yv (r := .int .i64 ((i + p2.length : Nat) : Int)) rfl rfl (Y59 (by omega) (by omega)) rfl) ?_
  refine OpsD.v rfl rfl (Y57 (o' := i + p2.length) (l' := p0.length - i) (c' := c2 - (i + p2.length)) Ybn.h rfl rfl (by omega) (by omega) (by omega) (by omega) (by omega) (by omega) rfl) ?_
  refine zw ?_
  refine OpsD.v rfl rfl (Y57 (o' := i) (l' := p0.length - i) (c' := cap - i) Ybn.h rfl rfl (by omega) (by omega) (by omega) (by omega) (by omega) (by omega) rfl) ?_
  refine OpsD.one ?_
  refine Y3n.h (ns := [0, 1]) rfl rfl rfl (Y53 (xs := p0.drop i) Ybn.h rfl rfl (by rw [Y5b, List.drop_append_of_le_length (by simp; omega), List.take_append_of_le_length (by simp), List.take_of_length_le (by simp), List.map_drop]) (by rw [Y5b]; simp) (by simp; omega) rfl) ?_
  rintro _ _ ⟨rfl, rfl⟩
  refine zw ?_
  refine AW.ret ?_
  obtain ⟨q1, q2, q3, q4⟩ := Y56 (xs := p0) (ys := p2) (z := (Y92.mk 0 0 0)) (m := p2.length) hlt hc2 rfl _ _ rfl rfl
  exact ⟨[C.val _], _, Y21.arr2 (p := 0) (m := p0.length + p2.length) rfl q1 (by omega) q2 (by omega) (Y51 _ _ _ _), .cons (.tmp rfl) .nil, [0], _, _, rfl, ⟨_, rfl, rfl⟩⟩
 have hg1 := of_decide_eq_false hg
 refine AW.cond rfl (fun hn => absurd (hg.symm.trans hn) (by decide)) (fun _ => ?_)
 refine AW.skip ?_
 refine AW.seq ?_
 refine AW.region ?_
 refine Ops.v rfl (Yq rfl rfl) ?_
 refine Ops.v rfl (Yq rfl rfl) ?_
 refine Ops.v rfl (Yq rfl rfl) ?_
 refine Ops.v rfl (Yv (r := .int .i64 ((p0.length + p2.length : Nat) : Int)) rfl rfl (Y59 (by omega) (by omega)) rfl) ?_
 refine Ops.v rfl (Y4r Ybn.h rfl rfl (by omega) (by omega) rfl) ?_
 refine Ops.v rfl (Yr rfl rfl) ?_
 refine Ops.nil ?_
 refine AW.seq ?_
 refine AW.seq ?_
 refine AW.region ?_
 refine Ops.v rfl (Yq rfl rfl) ?_
 refine Ops.v rfl (Yq rfl rfl) ?_
 refine Ops.v rfl (Yq rfl rfl) ?_
 refine Ops.v rfl (Yq rfl rfl) ?_
 refine Ops.v rfl (Yv (r := .int .i64 ((i + p2.length : Nat) : Int)) rfl rfl (Y59 (by omega) (by omega)) rfl) ?_
 refine Ops.v rfl (Y57 (o' := i + p2.length) (l' := p0.length - i) (c' := cap - (i + p2.length)) Ybn.h rfl rfl (by omega) (by omega) (by omega) (by omega) (by omega) (by omega) rfl) ?_
 refine Ops.h (ns := [0, 0]) rfl rfl (Y4x (tR := 4) (k := Y9g) (zs := p2) (ys := p0.map some ++ List.replicate (cap - p0.length) none) Ybt Tryz.func296 rfl rfl (by kernel_rfl) (by kernel_rfl) rfl rfl (by intro e; rw [e] at hm; exact absurd hm (by decide)) (by intro e; have := congrArg List.length e; simp at this; omega) rfl) ?_
 rintro _ _ ⟨rfl, rfl⟩
 refine zw ?_
 refine AW.cond rfl (fun _ => ?_) (fun hn => absurd hn (by decide))
 refine zw ?_
 refine AW.regionD (L := []) (Lt := []) (k := dec [0,3,6,9,12,15,18,21,26]) (ns := []) (by kernel_rfl) (by kernel_rfl) (by kernel_rfl) (by kernel_rfl) rfl ?_
 refine OpsD.v rfl rfl (Yq rfl rfl) ?_
 refine OpsD.v rfl rfl (Yq rfl rfl) ?_
 refine OpsD.v rfl rfl (Yq rfl rfl) ?_
 refine OpsD.v rfl rfl (Yv (r := .int .i64 ((i + p2.length : Nat) : Int)) rfl rfl (Y59 (by omega) (by omega)) rfl) ?_
 refine OpsD.v rfl rfl (Y57 (o' := i + p2.length) (l' := p0.length - i) (c' := cap - (i + p2.length)) Ybn.h rfl rfl (by omega) (by omega) (by omega) (by omega) (by omega) (by omega) rfl) ?_
 refine zw ?_
 refine OpsD.v rfl rfl (Y57 (o' := i) (l' := p0.length + p2.length - i) (c' := cap - i) Ybn.h rfl rfl (by omega) (by omega) (by omega) (by omega) (by omega) (by omega) rfl) ?_
 refine OpsD.one ?_
 refine Y3n.h (ns := [0]) rfl rfl rfl (Y4v (xs := p0.drop i) Ybn.h rfl rfl (by rw [Y5c (by omega), List.drop_append_of_le_length (by simp; omega), List.take_append_of_le_length (by simp), List.take_of_length_le (by simp), List.map_drop]) (by rw [Y5c (by omega)]; simp) (by simp; omega) rfl) ?_
 rintro _ _ ⟨rfl, rfl⟩
 refine zw ?_
 refine Ops.v rfl (Y57 (o' := i) (l' := p0.length + p2.length - i) (c' := cap - i) Ybn.h rfl rfl (by omega) (by omega) (by omega) (by omega) (by omega) (by omega) rfl) ?_
 refine zw ?_
 refine Ops.h (ns := [0, 0]) rfl rfl (Y4w (xs := p2) Ybn.h rfl rfl (by rw [List.take_of_length_le (by omega)]) (by simp; omega) rfl) ?_
 rintro _ _ ⟨rfl, rfl⟩
 refine zw ?_
 refine AW.ret ?_
 obtain ⟨q1, q2, q3, q4⟩ := Y55 (xs := p0) (ys := p2) (m := p2.length) (c := cap) hlt (by omega) rfl _ _ rfl rfl
 exact ⟨[C.val _], _, Y21.arr2 (p := 0) (m := p0.length + p2.length) (c := cap) rfl q1 (by omega) q2 hmax0 (Y51 _ _ _ _), .cons (.tmp rfl) .nil, [0], _, _, rfl, ⟨_, rfl, rfl⟩⟩
def Zdk (p1 : Y92) (r2 : List Y92) (r5 : Int × Bool) (x8 : Bool) : Option (List Y92) := cond x8 ((Zdg r2 r5.1 (IntKind.i64.wrap (r5.1 + 1))).bind fun r10 => some r10) (cond (p1.id == 0) (some r2) (cond r5.2 ((getI r2 r5.1).bind fun e15 => some (List.set r2 (Int.toNat r5.1) p1)) ((Zdi r2 r5.1 [p1]).bind fun r18 => some r18)))
def Zdl (p0 : List Y92) (p1 : Y92) : Option (List Y92) := (Zde p0).bind fun r2 => (Zck r2 p1).bind fun r5 => cond (p1.id == 0) (Zdk p1 r2 r5 r5.2) (Zdk p1 r2 r5 false)
set_option maxHeartbeats 1000000 in
theorem Zdm (p0 : List Y92) (p1 : Y92) (r : List Y92) (h : Zdl p0 p1 = some r) : Ok Tryz.prog 204 [C.im Y9g 3 p0, C.agg [C.int p1.kind, C.int p1.key, C.int p1.id]] [] (fun c qs => ∃ (v21 : Value), c = C.val v21 ∧ qs = [Obj.arr v21 106 Y9g 3 r]) := by
 refine Ok.of_body (rs := [.tmp 4]) Tryz.func204 rfl rfl rfl rfl rfl fun X => ?_
 unfold Zdl at h
 refine zw ?_
 refine ox fun b1 => ?_
 refine zw ?_
 refine ob' h fun r2 g3 h => ?_
 refine Ops.h (ns := []) rfl rfl (Y23 (Zdf _ _ g3) rfl rfl) ?_
 rintro _ _ ⟨_, ⟨v4, rfl, rfl⟩, rfl⟩
 refine zw ?_
 refine ob' h fun r5 g6 h => ?_
 refine Ops.hd (ns := [0]) rfl rfl (Y24 (Ok.lendE ((Zcl r2 p1).h _ g6) (FrzT.cons (os := [_]) Frz.arr (FrzT.cons (os := []) (Frz.same _) (FrzT.nil))) (Y44.tup (Y45.cons (Y44.val _) (Y45.cons (Y44.val _) (Y45.nil))))) rfl rfl) ?_
 refine Ops.v rfl (Yq rfl rfl) ?_
 refine Ops.v rfl (Y13 rfl rfl rfl) ?_
 refine Ops.v rfl (Y13 rfl rfl rfl) ?_
 refine Ops.v rfl (Yr rfl rfl) ?_
 refine Ops.v rfl (Yr rfl rfl) ?_
 refine Ops.nil ?_
 refine AW.seq ?_
 refine AW.block ?_
 refine AW.seq ?_
 refine AW.cut (τ := Bool) (fun x8 => ⟨[(3, pt b1), (5, C.val v4), (6, C.int r5.1), (7, C.bool r5.2), (16, C.bool x8)], [Obj.box b1 106 [C.int p1.kind, C.int p1.key, C.int p1.id], Obj.arr v4 106 Y9g 3 r2]⟩) (fun x8 => Zdk p1 r2 r5 x8 = some r) go fun x8 h => ?_
 replace h : Zdk p1 r2 r5 x8 = some r := h
 unfold Zdk at h
 refine cnd h (fun hb9 h => ?_) fun hb9 h => ?_
 ·
  refine AW.ct hb9 rfl ?_
  refine zw ?_
  refine ob' h fun r10 g11 h => ?_
  refine Ops.h (ns := [1]) rfl rfl (Y23 (Zdh r2 r5.1 (IntKind.i64.wrap (r5.1 + 1)) _ g11) rfl rfl) ?_
  rintro _ _ ⟨_, ⟨v12, rfl, rfl⟩, rfl⟩
  refine zw ?_
  refine AW.ret ?_
  rw [← Option.some.inj h]
  exact ⟨[C.val v12], _, Y21.refl _, (.cons (.tmp rfl) .nil), [0], _, _, rfl, ⟨v12, rfl, rfl⟩⟩
 refine AW.cf hb9 rfl ?_
 refine zw ?_
 refine cnd h (fun hb13 h => ?_) fun hb13 h => ?_
 ·
  refine AW.ct hb13 rfl ?_
  refine zw ?_
  refine AW.ret ?_
  rw [← Option.some.inj h]
  exact ⟨[C.val v4], _, Y21.refl _, (.cons (.tmp rfl) .nil), [1], _, _, rfl, ⟨v4, rfl, rfl⟩⟩
 refine AW.cf hb13 rfl ?_
 refine zw ?_
 refine cnd h (fun hb14 h => ?_) fun hb14 h => ?_
 ·
  refine AW.ct hb14 rfl ?_
  refine zw ?_
  refine ob' h fun e15 g16 h => ?_
  refine Ops.v rfl (Y2x (p := 1) Ybn.h rfl rfl rfl g16 rfl) ?_
  refine Ops.hd (ns := [1]) rfl rfl (Y34 (e' := p1) Ybu.h rfl rfl rfl (Y29 g16).2.2 rfl rfl) ?_
  refine zw ?_
  refine AW.ret ?_
  rw [← Option.some.inj h]
  exact ⟨[C.val v4], _, Y21.refl _, (.cons (.tmp rfl) .nil), [0], _, _, rfl, ⟨v4, rfl, rfl⟩⟩
 refine AW.cf hb14 rfl ?_
 refine zw ?_
 refine Ops.h (ns := []) rfl rfl (Y39 (k := Y9g) (ys := [p1]) Ybt (.agg rfl rfl .nil) rfl rfl rfl) ?_
 rintro _ _ ⟨b17, rfl, rfl⟩
 refine ob' h fun r18 g19 h => ?_
 refine Ops.h (ns := [2, 0]) rfl rfl (Y23 (Zdj r2 r5.1 [p1] _ g19) rfl rfl) ?_
 rintro _ _ ⟨_, ⟨v20, rfl, rfl⟩, rfl⟩
 refine zw ?_
 refine AW.ret ?_
 rw [← Option.some.inj h]
 exact ⟨[C.val v20], _, Y21.refl _, (.cons (.tmp rfl) .nil), [0], _, _, rfl, ⟨v20, rfl, rfl⟩⟩
instance Zdm' (p0 : List Y92) (p1 : Y92) : Sp Tryz.prog 204 [C.im Y9g 3 p0, C.agg [C.int p1.kind, C.int p1.key, C.int p1.id]] (Zdl p0 p1) (fun r => C.im Y9g 3 r) := ⟨fun r h => Ok.freeze (Zdm p0 p1 r h) (by rintro c qs ⟨v21, rfl, rfl⟩; exact Frz.arr)⟩

def Zdn (p0 : List Y92) (q0 : Y92) : Option Bool := (Zc4 p0 q0).bind fun r1 => some (!r1)
theorem Zdo {b00 : Nat} (p0 : List Y92) (q0 : Y92) (r : Bool) (h : Zdn p0 q0 = some r) : Ok Tryz.prog 196 [C.im Y9g 3 p0, pt b00] [Obj.box b00 106 [C.int q0.kind, C.int q0.key, C.int q0.id]] (fun c qs => c = C.bool r ∧ qs = [Obj.box b00 106 [C.int q0.kind, C.int q0.key, C.int q0.id]]) := by
 refine Ok.of_body (rs := [.tmp 3]) Tryz.func196 rfl rfl rfl rfl rfl fun X => ?_
 unfold Zdn at h
 refine zw ?_
 refine oc h fun r1 g2 h => ?_
 refine zw ?_
 refine AW.ret ?_
 rw [← Option.some.inj h]
 exact ⟨[C.bool (!r1)], _, Y21.refl _, (.cons (.tmp rfl) .nil), [0], _, _, rfl, ⟨rfl, rfl⟩⟩

def Zdp : Option Int := some (-1)
def Zdq (p0 : List (List Y92)) (p1_0 : Y92) (x7 : Int) : Option (Int ⊕ (Int ⊕ Unit)) := cond (decide (x7 < (p0.length : Int))) ((getI p0 x7).bind fun e9 => (Zdn e9 p1_0).bind fun r11 => cond r11 (some (.inr (.inl x7))) (some (.inl (IntKind.i64.wrap (x7 + 1))))) (some (.inr (.inr ())))
def Zdr (p0 : List (List Y92)) (p1_0 : Y92) : Option Int := (iter (Zdq p0 p1_0) big 0).bind (fun z15 => match z15 with | .inl y14 => some y14 | .inr () => Zdp)
set_option maxHeartbeats 1000000 in
theorem Zds {b00 : Nat} (p0 : List (List Y92)) (p1_0 : Y92) (r : Int) (h : Zdr p0 p1_0 = some r) : Ok Tryz.prog 243 [C.im Y9h 1 p0, C.clo 196 [pt b00]] [Obj.box b00 106 [C.int p1_0.kind, C.int p1_0.key, C.int p1_0.id]] (fun c qs => c = C.int r ∧ qs = [Obj.box b00 106 [C.int p1_0.kind, C.int p1_0.key, C.int p1_0.id]]) := by
 refine Ok.of_body (rs := [.tmp 4]) Tryz.func243 rfl rfl rfl rfl rfl fun X => ?_
 unfold Zdr at h
 refine AW.seq ?_
 refine AW.region ?_
 refine Ops.v rfl (Yr rfl rfl) ?_
 refine Ops.nil ?_
 refine AW.seq ?_
 refine AW.cut (τ := Unit) (fun (_ : Unit) => ⟨[], [Obj.box b00 106 [C.int p1_0.kind, C.int p1_0.key, C.int p1_0.id]]⟩) (fun (_ : Unit) => Zdp = some r) ?_ ?_
 ·
  refine zw ?_
  refine AW.lp (v := ()) h (fun x7 (_ : Unit) => ⟨[(0, C.im Y9h 1 p0), (1, C.clo 196 [pt b00]), (7, C.int (p0.length : Int)), (8, C.int x7)], [Obj.box b00 106 [C.int p1_0.kind, C.int p1_0.key, C.int p1_0.id]]⟩) (gb [0]) ?_
  rintro x7 _ y21 h
  refine zw ?_
  refine cnd h (fun hb8 h => ?_) fun hb8 h => ?_
  ·
   refine AW.ct hb8 rfl ?_
   refine zw ?_
   refine oi h fun e9 g10 h => ?_
   refine zw ?_
   refine ob' h fun r11 g12 h => ?_
   refine Ops.hd (ns := [0]) rfl rfl (Y6s (cs := [_]) (ds := [_]) rfl (Zdo e9 p1_0 _ g12) rfl rfl) ?_
   refine zw ?_
   refine cnd h (fun hb13 h => ?_) fun hb13 h => ?_
   ·
    refine AW.ct hb13 rfl ?_
    refine zw ?_
    refine AW.ret ?_
    refine lx h fun h => ?_
    rw [← Option.some.inj h]
    exact ⟨[C.int x7], _, Y21.refl _, (.cons (.tmp rfl) .nil), [0], _, _, rfl, ⟨rfl, rfl⟩⟩
   exact go
  exact go
 rintro ⟨⟩ h
 replace h : Zdp = some r := h
 unfold Zdp at h
 refine zw ?_
 refine AW.ret ?_
 rw [← Option.some.inj h]
 exact ⟨[C.int (-1)], _, Y21.refl _, (.cons (.tmp rfl) .nil), [0], _, _, rfl, ⟨rfl, rfl⟩⟩

def Zdt (p0 : List (List Y92)) (p1_0 : Y92) : Option Bool := (Zdr p0 p1_0).bind fun r1 => some (decide (r1 ≥ 0))
theorem Zdu {b00 : Nat} (p0 : List (List Y92)) (p1_0 : Y92) (r : Bool) (h : Zdt p0 p1_0 = some r) : Ok Tryz.prog 195 [C.im Y9h 1 p0, C.clo 196 [pt b00]] [Obj.box b00 106 [C.int p1_0.kind, C.int p1_0.key, C.int p1_0.id]] (fun c qs => c = C.bool r ∧ qs = [Obj.box b00 106 [C.int p1_0.kind, C.int p1_0.key, C.int p1_0.id]]) := by
 refine Ok.of_body (rs := [.tmp 4]) Tryz.func195 rfl rfl rfl rfl rfl fun X => ?_
 unfold Zdt at h
 refine zw ?_
 refine ob' h fun r1 g2 h => ?_
 refine Ops.hd (ns := [0]) rfl rfl (Y24 (Zds p0 p1_0 _ g2) rfl rfl) ?_
 refine zw ?_
 refine AW.ret ?_
 rw [← Option.some.inj h]
 exact ⟨[C.bool (decide (r1 ≥ 0))], _, Y21.refl _, (.cons (.tmp rfl) .nil), [0], _, _, rfl, ⟨rfl, rfl⟩⟩

def Zdv (p0 : Y8w) (p1 : Y8w) (q0 : Y96) : Option Int := (Zc7 p0).bind fun r3 => (Zc7 p1).bind fun r5 => cond (r3 == r5) ((Z8x (Option.getD (mget q0.depth p0.id) 0) (Option.getD (mget q0.depth p1.id) 0)).bind fun r11 => (Z8x p0.time p1.time).bind fun r13 => (Z8x p0.id p1.id).bind fun r15 => (Zcb [r11, r13, r15]).bind fun r18 => some r18) ((Zc7 p0).bind fun r8 => cond r8 (some (-1)) (some 1))
set_option maxHeartbeats 1000000 in
instance Zdw (p0 : Y8w) (p1 : Y8w) (q0 : Y96) : Sp Tryz.prog 199 [C.agg [C.int p0.id, C.int p0.room, C.int p0.author, C.int p0.kind, C.int p0.key, C.int p0.n, C.str p0.text, C.im kI64 1 p0.prev, C.int p0.time], C.agg [C.int p1.id, C.int p1.room, C.int p1.author, C.int p1.kind, C.int p1.key, C.int p1.n, C.str p1.text, C.im kI64 1 p1.prev, C.int p1.time], C.ip [C.ip [C.int q0.graph.room, C.im Y98 9 q0.graph.events, C.im Y98 9 q0.graph.parked, C.imap .i64 Y9l q0.depth, C.imap .i64 Y9m q0.before, C.imap .i64 Y9m q0.after, C.imap .i64 Y9l q0.refused]]] (Zdv p0 p1 q0) C.int := sp Tryz.func199 rfl rfl fun r X h => by
 unfold Zdv at h
 refine zw ?_
 refine ox fun b1 => ?_
 refine ox fun b2 => ?_
 refine zw ?_
 refine AW.regionD (L := [0, 2]) (Lt := []) (k := dec [1,7,5,11,12]) (ns := [0, 0]) (by kernel_rfl) (by kernel_rfl) (by kernel_rfl) (by kernel_rfl) rfl ?_
 refine zw ?_
 refine dc h fun r3 g4 h => ?_
 refine zw ?_
 refine dc h fun r5 g6 h => ?_
 refine OpsD.v rfl rfl (Y11 un_4 rfl rfl rfl) ?_
 refine zw ?_
 refine cnd h (fun hb7 h => ?_) fun hb7 h => ?_
 ·
  refine AW.cond rfl (fun hn => absurd ((Y3u hb7).symm.trans hn) (by decide)) (fun _ => ?_)
  refine zw ?_
  refine AW.regionD (L := [0, 3, 5, 6, 7, 10, 12, 13, 16, 18, 21, 23]) (Lt := []) (k := dec [1,3,6,10,12,16,19,22,24,27,31,33,37,40,45,49,51,55,60,64,66,70,44,59,74,77,80,81]) (ns := [0, 0]) (by kernel_rfl) (by kernel_rfl) (by kernel_rfl) (by kernel_rfl) rfl ?_
  refine zw ?_
  refine OpsD.v rfl rfl (Y8a (kc := Y9l) (z0 := 0) Yd9 zv_2 (fun _ _ => rfl) rfl rfl rfl) ?_
  refine zw ?_
  refine OpsD.v rfl rfl (Y8a (kc := Y9l) (z0 := 0) Yd9 zv_2 (fun _ _ => rfl) rfl rfl rfl) ?_
  refine zw ?_
  refine dc h fun r11 g12 h => ?_
  refine zw ?_
  refine dc h fun r13 g14 h => ?_
  refine zw ?_
  refine dc h fun r15 g16 h => ?_
  refine OpsD.one ?_
  refine Y3n.h (ns := []) rfl rfl rfl (Y39 (k := kI64) (ys := [r11, r13, r15]) Ycx (.one rfl (One.val rfl) rfl rfl (.one rfl (One.val rfl) rfl rfl (.one rfl (One.val rfl) rfl rfl .nil))) rfl rfl rfl) ?_
  rintro _ _ ⟨b17, rfl, rfl⟩
  refine zw ?_
  refine ob' h fun r18 g19 h => ?_
  refine Y3n.h (ns := [0]) rfl rfl rfl (Y24 (Ok.lendE ((Zcc [r11, r13, r15]).h _ g19) (FrzT.cons (os := [_]) Frz.arr (FrzT.nil)) (Y44.val _)) rfl rfl) ?_
  rintro _ _ ⟨rfl, rfl⟩
  exact go
 exact go

def Zdx (l205 : List Y92) : Option (List Y92) := some l205
def Zdy (x194 : Int) (l204 : List Y92) : Option ((List Y92 × Int) ⊕ ((List Y92))) := some (.inl (l204, (IntKind.i64.wrap (x194 + 1))))
def Zdz (p0 : Y96) (r176 : List Y8w) (l193 : List Y92) (x194 : Int) : Option ((List Y92 × Int) ⊕ ((List Y92))) := cond (decide (x194 < (r176.length : Int))) ((getI r176 x194).bind fun e196 => (Zdc p0.graph l193 e196).bind fun r199 => cond (r199 == 0) ((Zdl l193 (Y92.mk e196.kind e196.key e196.id)).bind fun r202 => Zdy x194 r202) (Zdy x194 l193)) (some (.inr l193))
def Ze0 (p0 : Y96) (l37 : List Y92) (l175 : List Y8w) : Option (List Y92) := (Y7w (fun z1 z2 => Zdv z1 z2 p0) l175).bind fun r176 => (iter (fun z206 => Zdz p0 r176 z206.1 z206.2) big (l37, 0)).bind fun y207 => Zdx y207
def Ze1 (x113 : Int) (l172 : List Y8w) (m173 : List (Int × Bool)) : Option ((List Y8w × (List (Int × Bool)) × Int) ⊕ ((List Y8w))) := some (.inl (l172, m173, (IntKind.i64.wrap (x113 + 1))))
def Ze2 (x145 : Int) (l169 : List Y8w) (m170 : List (Int × Bool)) : Option ((List Y8w × (List (Int × Bool)) × Int) ⊕ ((List Y8w × (List (Int × Bool))))) := some (.inl (l169, m170, (IntKind.i64.wrap (x145 + 1))))
def Ze3 (l143 : List Y8w) (m144 : List (Int × Bool)) (x145 : Int) (e147 : Y92) (x155 : Int) (x156 : Int) (x157 : Int) (x158 : Int) (x159 : Int) (x160 : Int) (x161 : ByteArray) (l162 : List Int) (x163 : Int) : Option ((List Y8w × (List (Int × Bool)) × Int) ⊕ ((List Y8w × (List (Int × Bool))))) := (chk (decide ((l143.length + [(Y8w.mk x155 x156 x157 x158 x159 x160 x161 l162 x163)].length) * 96 ≤ 140737488355328))).bind fun u166 => Ze2 x145 (l143 ++ [(Y8w.mk x155 x156 x157 x158 x159 x160 x161 l162 x163)]) (mset m144 e147.id true)
def Ze4 (p0 : Y96) (e115 : List Y92) (l143 : List Y8w) (m144 : List (Int × Bool)) (x145 : Int) : Option ((List Y8w × (List (Int × Bool)) × Int) ⊕ ((List Y8w × (List (Int × Bool))))) := cond (decide (x145 < (e115.length : Int))) ((getI e115 x145).bind fun e147 => cond (Option.getD (mget m144 e147.id) false) (Ze2 x145 l143 m144) ((Zbu p0.graph e147.id).bind fun r151 => Ze3 l143 m144 x145 e147 r151.1.id r151.1.room r151.1.author r151.1.kind r151.1.key r151.1.n r151.1.text r151.1.prev r151.1.time)) (some (.inr (l143, m144)))
def Ze5 (p0 : Y96) (p1 : List (List Y92)) (l111 : List Y8w) (m112 : List (Int × Bool)) (x113 : Int) : Option ((List Y8w × (List (Int × Bool)) × Int) ⊕ ((List Y8w))) := cond (decide (x113 < (p1.length : Int))) ((getI p1 x113).bind fun e115 => (iter (fun z208 => Ze4 p0 e115 z208.1 z208.2.1 z208.2.2) big (l111, m112, 0)).bind fun (y209, y210) => Ze1 x113 y209 y210) (some (.inr l111))
def Ze6 (p0 : Y96) (p1 : List (List Y92)) (l37 : List Y92) (m49 : List (Int × Bool)) : Option (List Y92) := (iter (fun z211 => Ze5 p0 p1 z211.1 z211.2.1 z211.2.2) big (([] : List Y8w), m49, 0)).bind fun y212 => Ze0 p0 l37 y212
def Ze7 (l37 : List Y92) (m43 : List (Int × Bool)) (x44 : Int) : Option (((List (Int × Bool)) × Int) ⊕ ((List (Int × Bool)))) := cond (decide (x44 < (l37.length : Int))) ((getI l37 x44).bind fun e46 => some (.inl ((mset m43 e46.id true), (IntKind.i64.wrap (x44 + 1))))) (some (.inr m43))
def Ze8 (p0 : Y96) (p1 : List (List Y92)) (l37 : List Y92) : Option (List Y92) := (iter (fun z213 => Ze7 l37 z213.1 z213.2) big (([] : List (Int × Bool)), 0)).bind fun y214 => Ze6 p0 p1 l37 y214
def Ze9 (x22 : Int) (l35 : List Y92) : Option ((List Y92 × Int) ⊕ ((List Y92))) := some (.inl (l35, (IntKind.i64.wrap (x22 + 1))))
def Zea (p1 : List (List Y92)) (e5 : List Y92) (l21 : List Y92) (x22 : Int) : Option ((List Y92 × Int) ⊕ ((List Y92))) := cond (decide (x22 < (e5.length : Int))) ((getI e5 x22).bind fun e24 => (Zdt p1 e24).bind fun r27 => cond r27 (Ze9 x22 l21) ((chk (decide ((l21.length + [e24].length) * 24 ≤ 140737488355328))).bind fun u32 => Ze9 x22 (l21 ++ [e24]))) (some (.inr l21))
def Zeb (p0 : Y96) (p1 : List (List Y92)) : Option (List Y92) := cond (decide ((p1.length : Int) > 0)) ((getI p1 0).bind fun e5 => (iter (fun z215 => Zea p1 e5 z215.1 z215.2) big (([] : List Y92), 0)).bind fun y216 => Ze8 p0 p1 y216) (Ze8 p0 p1 ([] : List Y92))
set_option maxHeartbeats 1000000 in
theorem Zec {b00 : Nat} {b01 : Nat} {b02 : Nat} {b03 : Nat} {b04 : Nat} (p0 : Y96) (p1 : List (List Y92)) (r : List Y92) (h : Zeb p0 p1 = some r) : Ok Tryz.prog 142 [pt b00, C.im Y9h 1 p1] [Obj.box b00 196 [C.int p0.graph.room, C.im Y98 9 p0.graph.events, C.im Y98 9 p0.graph.parked, mt b01, mt b02, mt b03, mt b04], Abs.Obj.map b01 .i64 Y9l p0.depth, Abs.Obj.map b02 .i64 Y9m p0.before, Abs.Obj.map b03 .i64 Y9m p0.after, Abs.Obj.map b04 .i64 Y9l p0.refused] (fun c qs => c = C.im Y9g 3 r ∧ qs = [Obj.box b00 196 [C.int p0.graph.room, C.im Y98 9 p0.graph.events, C.im Y98 9 p0.graph.parked, mt b01, mt b02, mt b03, mt b04], Abs.Obj.map b01 .i64 Y9l p0.depth, Abs.Obj.map b02 .i64 Y9m p0.before, Abs.Obj.map b03 .i64 Y9m p0.after, Abs.Obj.map b04 .i64 Y9l p0.refused]) := by
 refine Ok.of_body (rs := [.tmp 4]) Tryz.func142 rfl rfl rfl rfl rfl fun X => ?_
 unfold Zeb at h
 refine zw ?_
 refine Ops.h (ns := []) rfl rfl (Y1q rfl (One.val rfl) rfl) ?_
 rintro _ _ ⟨b1, rfl, rfl⟩
 refine zw ?_
 refine Ops.h (ns := []) rfl rfl (Y39 (k := Y9g) (ys := ([] : List Y92)) Ybt .nil rfl rfl rfl) ?_
 rintro _ _ ⟨b2, rfl, rfl⟩
 refine Ops.h (ns := []) rfl rfl (Y39 (k := Y98) (ys := ([] : List Y8w)) Yap .nil rfl rfl rfl) ?_
 rintro _ _ ⟨b3, rfl, rfl⟩
 refine Ops.v rfl (Yr rfl rfl) ?_
 refine Ops.v rfl (Yr rfl rfl) ?_
 refine Ops.nil ?_
 refine AW.seq ?_
 refine AW.cut (τ := List Y92 × Value) (fun (l37, v36) => ⟨[(1, C.im Y9h 1 p1), (2, pt b1), (5, C.val v36), (6, C.val (sv b3 0 0))], [Obj.box b1 186 [pt b00], Obj.box b00 196 [C.int p0.graph.room, C.im Y98 9 p0.graph.events, C.im Y98 9 p0.graph.parked, mt b01, mt b02, mt b03, mt b04], Abs.Obj.map b01 .i64 Y9l p0.depth, Abs.Obj.map b02 .i64 Y9m p0.before, Abs.Obj.map b03 .i64 Y9m p0.after, Abs.Obj.map b04 .i64 Y9l p0.refused, Obj.arr v36 106 Y9g 3 l37, Obj.arr (sv b3 0 0) 136 Y98 9 ([] : List Y8w)]⟩) (fun (l37, v36) => Ze8 p0 p1 l37 = some r) ?_ ?_
 ·
  refine zw ?_
  refine cnd h (fun hb4 h => ?_) fun hb4 h => ?_
  ·
   refine AW.ct hb4 rfl ?_
   refine zw ?_
   refine oi h fun e5 g6 h => ?_
   refine zw ?_
   refine AW.lp h (fun (l21, x22) (v20 : Value) => ⟨[(1, C.im Y9h 1 p1), (2, pt b1), (5, C.val v20), (6, C.val (sv b3 0 0)), (27, C.im Y9g 3 e5), (28, C.int (e5.length : Int)), (29, C.int x22)], [Obj.box b1 186 [pt b00], Obj.box b00 196 [C.int p0.graph.room, C.im Y98 9 p0.graph.events, C.im Y98 9 p0.graph.parked, mt b01, mt b02, mt b03, mt b04], Abs.Obj.map b01 .i64 Y9l p0.depth, Abs.Obj.map b02 .i64 Y9m p0.before, Abs.Obj.map b03 .i64 Y9m p0.after, Abs.Obj.map b04 .i64 Y9l p0.refused, Obj.arr v20 106 Y9g 3 l21, Obj.arr (sv b3 0 0) 136 Y98 9 ([] : List Y8w)]⟩) (gb [2, 2, 2, 2, 2, 2, 1, 0]) ?_
   rintro ⟨l21, x22⟩ v20 y250 h
   refine zw ?_
   refine cnd h (fun hb23 h => ?_) fun hb23 h => ?_
   ·
    refine AW.ct hb23 rfl ?_
    refine AW.skip ?_
    refine AW.seq ?_
    refine AW.cut (τ := List Y92 × Value) (fun (l35, v34) => ⟨[(1, C.im Y9h 1 p1), (2, pt b1), (5, C.val v34), (6, C.val (sv b3 0 0)), (27, C.im Y9g 3 e5), (28, C.int (e5.length : Int)), (29, C.int x22)], [Obj.box b1 186 [pt b00], Obj.box b00 196 [C.int p0.graph.room, C.im Y98 9 p0.graph.events, C.im Y98 9 p0.graph.parked, mt b01, mt b02, mt b03, mt b04], Abs.Obj.map b01 .i64 Y9l p0.depth, Abs.Obj.map b02 .i64 Y9m p0.before, Abs.Obj.map b03 .i64 Y9m p0.after, Abs.Obj.map b04 .i64 Y9l p0.refused, Obj.arr v34 106 Y9g 3 l35, Obj.arr (sv b3 0 0) 136 Y98 9 ([] : List Y8w)]⟩) (fun (l35, v34) => Ze9 x22 l35 = some y250) ?_ ?_
    ·
     refine zw ?_
     refine oi h fun e24 g25 h => ?_
     refine zw ?_
     refine Ops.h (ns := []) rfl rfl (Y1p (cs := [C.int 0, C.int 0, C.int 0]) Yc0 (Y42 rfl rfl) rfl) ?_
     rintro _ _ ⟨b26, rfl, rfl⟩
     refine Ops.hd (ns := [0]) rfl rfl (Y1u (gs := [C.int e24.kind, C.int e24.key, C.int e24.id]) Ybu.h rfl rfl rfl rfl rfl) ?_
     refine zw ?_
     refine Ops.v rfl (Y6q rfl rfl) ?_
     refine ob' h fun r27 g28 h => ?_
     refine Ops.hd (ns := [0]) rfl rfl (Y24 (Zdu p1 e24 _ g28) rfl rfl) ?_
     refine zw ?_
     refine cnd h (fun hb29 h => ?_) fun hb29 h => ?_
     ·
      refine AW.cond rfl (fun hn => absurd ((Y3u hb29).symm.trans hn) (by decide)) (fun _ => ?_)
      refine zw ?_
      exact ⟨(l21, v20), h, Y21.both (ns := [1, 1, 1, 1, 1, 1, 1, 1]) rfl rfl⟩
     refine AW.cond rfl (fun _ => ?_) (fun hn => absurd ((Y3v hb29).symm.trans hn) (by decide))
     refine zw ?_
     refine Ops.h (ns := []) rfl rfl (Y39 (k := Y9g) (ys := [e24]) Ybt (.agg rfl rfl .nil) rfl rfl rfl) ?_
     rintro _ _ ⟨b30, rfl, rfl⟩
     refine ob' h fun u32 c31 h => ?_
     refine Ops.h (ns := [8, 0]) rfl rfl (Y2s Ybt rfl rfl (of_decide_eq_true (Y3t c31)) (Y3w (by decide) c31) rfl) ?_
     rintro _ _ ⟨v33, rfl, rfl⟩
     refine zw ?_
     exact ⟨((l21 ++ [e24]), v33), h, Y21.both (ns := [2, 2, 2, 2, 2, 2, 0, 1]) rfl rfl⟩
    rintro ⟨l35, v34⟩ h
    replace h : Ze9 x22 l35 = some y250 := h
    unfold Ze9 at h
    refine zw ?_
    exact le h (gb [0, 0, 0, 0, 0, 0, 0, 0])
   refine AW.cf hb23 rfl ?_
   refine AW.exit ?_
   refine lx h fun h => ?_
   exact ⟨(l21, v20), h, Y21.both (ns := [0, 0, 0, 0, 0, 0, 0, 0]) rfl rfl⟩
  refine AW.cf hb4 rfl ?_
  refine zw ?_
  exact ⟨(([] : List Y92), (sv b2 0 0)), h, Y21.both (ns := [2, 2, 2, 2, 2, 2, 1, 0]) rfl rfl⟩
 rintro ⟨l37, v36⟩ h
 replace h : Ze8 p0 p1 l37 = some r := h
 unfold Ze8 at h
 refine zw ?_
 refine Ops.h (ns := []) rfl rfl (Y6j (kd := .i64) (kc := Y9n) rfl) ?_
 rintro _ _ ⟨b38, rfl, rfl⟩
 refine Ops.v rfl (Yr rfl rfl) ?_
 refine Ops.nil ?_
 refine AW.seq ?_
 refine AW.cut (τ := (List (Int × Bool))) (fun m49 => ⟨[(1, C.im Y9h 1 p1), (2, pt b1), (5, C.val v36), (6, C.val (sv b3 0 0)), (9, mt b38)], [Obj.box b1 186 [pt b00], Obj.box b00 196 [C.int p0.graph.room, C.im Y98 9 p0.graph.events, C.im Y98 9 p0.graph.parked, mt b01, mt b02, mt b03, mt b04], Abs.Obj.map b01 .i64 Y9l p0.depth, Abs.Obj.map b02 .i64 Y9m p0.before, Abs.Obj.map b03 .i64 Y9m p0.after, Abs.Obj.map b04 .i64 Y9l p0.refused, Obj.arr v36 106 Y9g 3 l37, Obj.arr (sv b3 0 0) 136 Y98 9 ([] : List Y8w), Abs.Obj.map b38 .i64 Y9n m49]⟩) (fun m49 => Ze6 p0 p1 l37 m49 = some r) ?_ ?_
 ·
  refine AW.seq ?_
  refine AW.region ?_
  refine Ops.v rfl (Yq rfl rfl) ?_
  refine Ops.v rfl (Y2u (p := 7) Ybn.h rfl rfl rfl) ?_
  refine zw ?_
  refine AW.lp (v := ()) h (fun (m43, x44) (_ : Unit) => ⟨[(1, C.im Y9h 1 p1), (2, pt b1), (5, C.val v36), (6, C.val (sv b3 0 0)), (9, mt b38), (43, C.val v36), (44, C.int (l37.length : Int)), (45, C.int x44)], [Obj.box b1 186 [pt b00], Obj.box b00 196 [C.int p0.graph.room, C.im Y98 9 p0.graph.events, C.im Y98 9 p0.graph.parked, mt b01, mt b02, mt b03, mt b04], Abs.Obj.map b01 .i64 Y9l p0.depth, Abs.Obj.map b02 .i64 Y9m p0.before, Abs.Obj.map b03 .i64 Y9m p0.after, Abs.Obj.map b04 .i64 Y9l p0.refused, Obj.arr v36 106 Y9g 3 l37, Obj.arr (sv b3 0 0) 136 Y98 9 ([] : List Y8w), Abs.Obj.map b38 .i64 Y9n m43]⟩) (gb [1, 1, 1, 1, 1, 1, 1, 1, 0]) ?_
  rintro ⟨m43, x44⟩ _ y243 h
  refine zw ?_
  refine cnd h (fun hb45 h => ?_) fun hb45 h => ?_
  ·
   refine AW.ct hb45 rfl ?_
   refine zw ?_
   refine ob' h fun e46 g47 h => ?_
   refine Ops.v rfl (Y2x (p := 6) Ybn.h rfl rfl rfl g47 rfl) ?_
   refine Ops.v rfl (Y31 (p := 6) Ybu.h rfl rfl (Y29 g47).2.2 rfl rfl rfl) ?_
   refine Ops.h (ns := []) rfl rfl (Y1p (cs := [C.int 0, C.int 0, C.int 0]) Yc0 (Y42 rfl rfl) rfl) ?_
   rintro _ _ ⟨b48, rfl, rfl⟩
   refine Ops.hd (ns := [0]) rfl rfl (Y1u (gs := [C.int e46.kind, C.int e46.key, C.int e46.id]) Ybu.h rfl rfl rfl rfl rfl) ?_
   refine zw ?_
   refine Ops.hd (ns := [9]) rfl rfl (Y6m (kc := Y9n) (v := true) Yd4 rfl rfl rfl rfl) ?_
   refine zw ?_
   exact lu h (gb [2, 2, 2, 2, 2, 2, 2, 2, 0])
  refine AW.cf hb45 rfl ?_
  refine AW.exit ?_
  refine lx h fun h => ?_
  exact ⟨m43, h, Y21.both (ns := [0, 0, 0, 0, 0, 0, 0, 0, 0]) rfl rfl⟩
 intro m49 h
 replace h : Ze6 p0 p1 l37 m49 = some r := h
 unfold Ze6 at h
 refine AW.seq ?_
 refine AW.cut (τ := List Y8w × Value) (fun (l175, v174) => ⟨[(2, pt b1), (5, C.val v36), (6, C.val v174)], [Obj.box b1 186 [pt b00], Obj.box b00 196 [C.int p0.graph.room, C.im Y98 9 p0.graph.events, C.im Y98 9 p0.graph.parked, mt b01, mt b02, mt b03, mt b04], Abs.Obj.map b01 .i64 Y9l p0.depth, Abs.Obj.map b02 .i64 Y9m p0.before, Abs.Obj.map b03 .i64 Y9m p0.after, Abs.Obj.map b04 .i64 Y9l p0.refused, Obj.arr v36 106 Y9g 3 l37, Obj.arr v174 136 Y98 9 l175]⟩) (fun (l175, v174) => Ze0 p0 l37 l175 = some r) ?_ ?_
 ·
  refine zw ?_
  refine AW.lp h (fun (l111, m112, x113) (v110 : Value) => ⟨[(2, pt b1), (5, C.val v36), (6, C.val v110), (9, mt b38), (53, C.im Y9h 1 p1), (54, C.int (p1.length : Int)), (55, C.int x113)], [Obj.box b1 186 [pt b00], Obj.box b00 196 [C.int p0.graph.room, C.im Y98 9 p0.graph.events, C.im Y98 9 p0.graph.parked, mt b01, mt b02, mt b03, mt b04], Abs.Obj.map b01 .i64 Y9l p0.depth, Abs.Obj.map b02 .i64 Y9m p0.before, Abs.Obj.map b03 .i64 Y9m p0.after, Abs.Obj.map b04 .i64 Y9l p0.refused, Obj.arr v36 106 Y9g 3 l37, Obj.arr v110 136 Y98 9 l111, Abs.Obj.map b38 .i64 Y9n m112]⟩) (gb [0, 0, 0, 0, 0, 0, 0, 0, 0]) ?_
  rintro ⟨l111, m112, x113⟩ v110 y229 h
  refine zw ?_
  refine cnd h (fun hb114 h => ?_) fun hb114 h => ?_
  ·
   refine AW.ct hb114 rfl ?_
   refine AW.skip ?_
   refine AW.seq ?_
   refine AW.cut (τ := List Y8w × (List (Int × Bool)) × Value) (fun (l172, m173, v171) => ⟨[(2, pt b1), (5, C.val v36), (6, C.val v171), (9, mt b38), (53, C.im Y9h 1 p1), (54, C.int (p1.length : Int)), (55, C.int x113)], [Obj.box b1 186 [pt b00], Obj.box b00 196 [C.int p0.graph.room, C.im Y98 9 p0.graph.events, C.im Y98 9 p0.graph.parked, mt b01, mt b02, mt b03, mt b04], Abs.Obj.map b01 .i64 Y9l p0.depth, Abs.Obj.map b02 .i64 Y9m p0.before, Abs.Obj.map b03 .i64 Y9m p0.after, Abs.Obj.map b04 .i64 Y9l p0.refused, Obj.arr v36 106 Y9g 3 l37, Obj.arr v171 136 Y98 9 l172, Abs.Obj.map b38 .i64 Y9n m173]⟩) (fun (l172, m173, v171) => Ze1 x113 l172 m173 = some y229) ?_ ?_
   ·
    refine zw ?_
    refine oi h fun e115 g116 h => ?_
    refine zw ?_
    refine AW.lp h (fun (l143, m144, x145) (v142 : Value) => ⟨[(2, pt b1), (5, C.val v36), (6, C.val v142), (9, mt b38), (53, C.im Y9h 1 p1), (54, C.int (p1.length : Int)), (55, C.int x113), (59, C.im Y9g 3 e115), (60, C.int (e115.length : Int)), (61, C.int x145)], [Obj.box b1 186 [pt b00], Obj.box b00 196 [C.int p0.graph.room, C.im Y98 9 p0.graph.events, C.im Y98 9 p0.graph.parked, mt b01, mt b02, mt b03, mt b04], Abs.Obj.map b01 .i64 Y9l p0.depth, Abs.Obj.map b02 .i64 Y9m p0.before, Abs.Obj.map b03 .i64 Y9m p0.after, Abs.Obj.map b04 .i64 Y9l p0.refused, Obj.arr v36 106 Y9g 3 l37, Obj.arr v142 136 Y98 9 l143, Abs.Obj.map b38 .i64 Y9n m144]⟩) (gb [0, 0, 0, 0, 0, 0, 0, 0, 0]) ?_
    rintro ⟨l143, m144, x145⟩ v142 y236 h
    refine zw ?_
    refine cnd h (fun hb146 h => ?_) fun hb146 h => ?_
    ·
     refine AW.ct hb146 rfl ?_
     refine AW.skip ?_
     refine AW.seq ?_
     refine AW.cut (τ := List Y8w × (List (Int × Bool)) × Value) (fun (l169, m170, v168) => ⟨[(2, pt b1), (5, C.val v36), (6, C.val v168), (9, mt b38), (53, C.im Y9h 1 p1), (54, C.int (p1.length : Int)), (55, C.int x113), (59, C.im Y9g 3 e115), (60, C.int (e115.length : Int)), (61, C.int x145)], [Obj.box b1 186 [pt b00], Obj.box b00 196 [C.int p0.graph.room, C.im Y98 9 p0.graph.events, C.im Y98 9 p0.graph.parked, mt b01, mt b02, mt b03, mt b04], Abs.Obj.map b01 .i64 Y9l p0.depth, Abs.Obj.map b02 .i64 Y9m p0.before, Abs.Obj.map b03 .i64 Y9m p0.after, Abs.Obj.map b04 .i64 Y9l p0.refused, Obj.arr v36 106 Y9g 3 l37, Obj.arr v168 136 Y98 9 l169, Abs.Obj.map b38 .i64 Y9n m170]⟩) (fun (l169, m170, v168) => Ze2 x145 l169 m170 = some y236) ?_ ?_
     ·
      refine zw ?_
      refine oi h fun e147 g148 h => ?_
      refine zw ?_
      refine Ops.h (ns := []) rfl rfl (Y1p (cs := [C.int 0, C.int 0, C.int 0]) Yc0 (Y42 rfl rfl) rfl) ?_
      rintro _ _ ⟨b149, rfl, rfl⟩
      refine Ops.hd (ns := [0]) rfl rfl (Y1u (gs := [C.int e147.kind, C.int e147.key, C.int e147.id]) Ybu.h rfl rfl rfl rfl rfl) ?_
      refine zw ?_
      refine Ops.v rfl (Y6l (p := 9) (kc := Y9n) (z0 := false) Yd4 zv_4 (fun _ _ => rfl) rfl rfl rfl rfl) ?_
      refine zw ?_
      refine cnd h (fun hb150 h => ?_) fun hb150 h => ?_
      ·
       refine AW.cond rfl (fun hn => absurd ((Y3u hb150).symm.trans hn) (by decide)) (fun _ => ?_)
       refine zw ?_
       exact ⟨(l143, m144, v142), h, Y21.both (ns := [1, 1, 1, 1, 1, 1, 1, 1, 1]) rfl rfl⟩
      refine AW.cond rfl (fun _ => ?_) (fun hn => absurd ((Y3v hb150).symm.trans hn) (by decide))
      refine zw ?_
      refine Ops.hd (ns := [9]) rfl rfl (Y6m (kc := Y9n) (v := true) Yd4 rfl rfl rfl rfl) ?_
      refine Ops.nil ?_
      refine AW.seq ?_
      refine AW.cut (τ := Int × Int × Int × Int × Int × Int × ByteArray × List Int × Int × Nat) (fun (x155, x156, x157, x158, x159, x160, x161, l162, x163, b154) => ⟨[(2, pt b1), (5, C.val v36), (6, C.val v142), (9, mt b38), (16, pt b154), (53, C.im Y9h 1 p1), (54, C.int (p1.length : Int)), (55, C.int x113), (59, C.im Y9g 3 e115), (60, C.int (e115.length : Int)), (61, C.int x145)], [Obj.box b1 186 [pt b00], Obj.box b00 196 [C.int p0.graph.room, C.im Y98 9 p0.graph.events, C.im Y98 9 p0.graph.parked, mt b01, mt b02, mt b03, mt b04], Abs.Obj.map b01 .i64 Y9l p0.depth, Abs.Obj.map b02 .i64 Y9m p0.before, Abs.Obj.map b03 .i64 Y9m p0.after, Abs.Obj.map b04 .i64 Y9l p0.refused, Obj.arr v36 106 Y9g 3 l37, Obj.arr v142 136 Y98 9 l143, Abs.Obj.map b38 .i64 Y9n (mset m144 e147.id true), Obj.box b154 136 [C.int x155, C.int x156, C.int x157, C.int x158, C.int x159, C.int x160, C.str x161, C.im kI64 1 l162, C.int x163]]⟩) (fun (x155, x156, x157, x158, x159, x160, x161, l162, x163, b154) => Ze3 l143 m144 x145 e147 x155 x156 x157 x158 x159 x160 x161 l162 x163 = some y236) ?_ ?_
      ·
       refine AW.regionD (L := [0, 3, 5]) (Lt := [11]) (k := .light 0 true (.light 1 false (.light 2 false (.light 3 true (.light 4 false (.light 5 true (.two 6 10 (.light 7 false (.light 8 false (.light 9 false (.one 10 (.late 11 (.light 12 false .done)))))) (.one 6 (.light 7 false (.light 8 false (.light 9 false (.late 11 (.light 12 false .done))))))))))))) (ns := [0, 0, 0, 0, 0, 0, 0, 0, 0, 0]) (by kernel_rfl) (by kernel_rfl) (by kernel_rfl) (by kernel_rfl) rfl ?_
       refine OpsD.v rfl rfl (Y1k (p := 2) Yd5.h rfl rfl rfl rfl) ?_
       refine OpsD.v rfl rfl (Y14 rfl rfl) ?_
       refine OpsD.v rfl rfl (Y1b Yd6.h rfl rfl) ?_
       refine OpsD.v rfl rfl (Y1l (p := 3) (ds := [C.int p0.graph.room, C.im Y98 9 p0.graph.events, C.im Y98 9 p0.graph.parked]) Yaz.h rfl rfl rfl rfl rfl) ?_
       refine zw ?_
       refine ob' h fun r151 g152 h => ?_
       refine OpsD.two ?_ ?_
       ·
        refine Y3n.h (ns := []) rfl rfl rfl (Y24 ((Zbv _ _).h _ g152) rfl rfl) ?_
        rintro _ _ ⟨rfl, rfl⟩
        refine OpsD.v rfl rfl (Yq rfl rfl) ?_
        refine OpsD.v rfl rfl (Y13 rfl rfl rfl) ?_
        refine OpsD.v rfl rfl (Y13 rfl rfl rfl) ?_
        refine OpsD.one ?_
        refine Y3n.h (ns := []) rfl rfl rfl (Y1p (cs := [C.int 0, C.int 0, C.int 0, C.int 0, C.int 0, C.int 0, C.str ByteArray.empty, C.val s0, C.int 0]) Ya7 (Y42 rfl rfl) rfl) ?_
        rintro _ _ ⟨b153, rfl, rfl⟩
        refine OpsD.late (ns := [10]) rfl rfl rfl (Y1u (gs := [C.int r151.1.id, C.int r151.1.room, C.int r151.1.author, C.int r151.1.kind, C.int r151.1.key, C.int r151.1.n, C.str r151.1.text, C.im kI64 1 r151.1.prev, C.int r151.1.time]) Yao.h rfl rfl rfl rfl rfl) ?_
        rintro _ _ ⟨rfl, rfl⟩
        refine zw ?_
        exact ⟨(r151.1.id, r151.1.room, r151.1.author, r151.1.kind, r151.1.key, r151.1.n, r151.1.text, r151.1.prev, r151.1.time, b153), h, Y21.both (ns := [3, 3, 3, 3, 3, 3, 3, 3, 1, 0]) rfl rfl⟩
       refine Y3n.h (ns := []) rfl rfl rfl (Y1p (cs := [C.int 0, C.int 0, C.int 0, C.int 0, C.int 0, C.int 0, C.str ByteArray.empty, C.val s0, C.int 0]) Ya7 (Y42 rfl rfl) rfl) ?_
       rintro _ _ ⟨b153, rfl, rfl⟩
       refine OpsD.one ?_
       refine Y3n.h (ns := []) rfl rfl rfl (Y24 ((Zbv _ _).h _ g152) rfl rfl) ?_
       rintro _ _ ⟨rfl, rfl⟩
       refine zw ?_
       refine OpsD.late (ns := [10]) rfl rfl rfl (Y1u (gs := [C.int r151.1.id, C.int r151.1.room, C.int r151.1.author, C.int r151.1.kind, C.int r151.1.key, C.int r151.1.n, C.str r151.1.text, C.im kI64 1 r151.1.prev, C.int r151.1.time]) Yao.h rfl rfl rfl rfl rfl) ?_
       rintro _ _ ⟨rfl, rfl⟩
       refine zw ?_
       exact ⟨(r151.1.id, r151.1.room, r151.1.author, r151.1.kind, r151.1.key, r151.1.n, r151.1.text, r151.1.prev, r151.1.time, b153), h, Y21.both (ns := [3, 3, 3, 3, 3, 3, 3, 3, 1, 0]) rfl rfl⟩
      rintro ⟨x155, x156, x157, x158, x159, x160, x161, l162, x163, b154⟩ h
      replace h : Ze3 l143 m144 x145 e147 x155 x156 x157 x158 x159 x160 x161 l162 x163 = some y236 := h
      unfold Ze3 at h
      refine AW.region ?_
      refine Ops.v rfl (Yq rfl rfl) ?_
      refine Ops.v rfl (Y1l (p := 9) (ds := [C.int x155, C.int x156, C.int x157, C.int x158, C.int x159, C.int x160, C.str x161, C.im kI64 1 l162, C.int x163]) Yao.h rfl rfl rfl rfl rfl) ?_
      refine Ops.h (ns := []) rfl rfl (Y39 (k := Y98) (ys := [(Y8w.mk x155 x156 x157 x158 x159 x160 x161 l162 x163)]) Yap (.agg rfl rfl .nil) rfl rfl rfl) ?_
      rintro _ _ ⟨b164, rfl, rfl⟩
      refine ob' h fun u166 c165 h => ?_
      refine Ops.h (ns := [8, 0]) rfl rfl (Y2s Yap rfl rfl (of_decide_eq_true (Y3t c165)) (Y3w (by decide) c165) rfl) ?_
      rintro _ _ ⟨v167, rfl, rfl⟩
      refine zw ?_
      exact ⟨((l143 ++ [(Y8w.mk x155 x156 x157 x158 x159 x160 x161 l162 x163)]), (mset m144 e147.id true), v167), h, Y21.both (ns := [1, 1, 1, 1, 1, 1, 1, 0, 0]) rfl rfl⟩
     rintro ⟨l169, m170, v168⟩ h
     replace h : Ze2 x145 l169 m170 = some y236 := h
     unfold Ze2 at h
     refine zw ?_
     exact le h (gb [0, 0, 0, 0, 0, 0, 0, 0, 0])
    refine AW.cf hb146 rfl ?_
    refine AW.exit ?_
    refine lx h fun h => ?_
    exact ⟨(l143, m144, v142), h, Y21.both (ns := [0, 0, 0, 0, 0, 0, 0, 0, 0]) rfl rfl⟩
   rintro ⟨l172, m173, v171⟩ h
   replace h : Ze1 x113 l172 m173 = some y229 := h
   unfold Ze1 at h
   refine zw ?_
   exact le h (gb [0, 0, 0, 0, 0, 0, 0, 0, 0])
  refine AW.cf hb114 rfl ?_
  refine AW.exit ?_
  refine lx h fun h => ?_
  exact ⟨(l111, v110), h, Y21.both (ns := [0, 0, 0, 0, 0, 0, 0, 0]) rfl rfl⟩
 rintro ⟨l175, v174⟩ h
 replace h : Ze0 p0 l37 l175 = some r := h
 unfold Ze0 at h
 refine zw ?_
 refine Ops.v rfl (Y6q rfl rfl) ?_
 refine ob' h fun r176 g177 h => ?_
 refine Ops.hd (ns := [7, 0, 0, 0, 0, 0, 0]) rfl rfl (Y87 (k := Y98) Y8u rfl rfl (Y86.clo rfl) (FrzT.cons (os := [_, _, _, _, _, _]) (Frz.box (FrzL.cons (os := [_, _, _, _, _]) (Frz.box (FrzL.cons (os := []) (Frz.same _) (FrzL.cons (os := []) (Frz.same _) (FrzL.cons (os := []) (Frz.same _) (FrzL.cons (os := [_]) Frz.map (FrzL.cons (os := [_]) Frz.map (FrzL.cons (os := [_]) Frz.map (FrzL.cons (os := [_]) Frz.map FrzL.nil)))))))) FrzL.nil)) FrzT.nil) (fun z1 z2 r_ h_ => (Zdw z1 z2 p0).h r_ h_) g177 rfl) ?_
 refine Ops.nil ?_
 refine AW.seq ?_
 refine AW.cut (τ := List Y92) (fun l205 => ⟨[(5, C.im Y9g 3 l205)], [Obj.box b00 196 [C.int p0.graph.room, C.im Y98 9 p0.graph.events, C.im Y98 9 p0.graph.parked, mt b01, mt b02, mt b03, mt b04], Abs.Obj.map b01 .i64 Y9l p0.depth, Abs.Obj.map b02 .i64 Y9m p0.before, Abs.Obj.map b03 .i64 Y9m p0.after, Abs.Obj.map b04 .i64 Y9l p0.refused]⟩) (fun l205 => Zdx l205 = some r) ?_ ?_
 ·
  refine zw ?_
  refine AW.lp (v := ()) h (fun (l193, x194) (_ : Unit) => ⟨[(2, pt b1), (5, C.im Y9g 3 l193), (92, C.val v174), (93, C.int (r176.length : Int)), (94, C.int x194)], [Obj.box b1 186 [pt b00], Obj.box b00 196 [C.int p0.graph.room, C.im Y98 9 p0.graph.events, C.im Y98 9 p0.graph.parked, mt b01, mt b02, mt b03, mt b04], Abs.Obj.map b01 .i64 Y9l p0.depth, Abs.Obj.map b02 .i64 Y9m p0.before, Abs.Obj.map b03 .i64 Y9m p0.after, Abs.Obj.map b04 .i64 Y9l p0.refused, Obj.arr v174 136 Y98 9 r176]⟩) ((Y21.freeze (p := 7) (t := 5) rfl rfl).trans (Y21.both (ns := [1, 1, 1, 1, 1, 1, 0]) rfl rfl)) ?_
  rintro ⟨l193, x194⟩ _ y222 h
  refine zw ?_
  refine cnd h (fun hb195 h => ?_) fun hb195 h => ?_
  ·
   refine AW.ct hb195 rfl ?_
   refine AW.skip ?_
   refine AW.seq ?_
   refine AW.cut (τ := List Y92) (fun l204 => ⟨[(2, pt b1), (5, C.im Y9g 3 l204), (92, C.val v174), (93, C.int (r176.length : Int)), (94, C.int x194)], [Obj.box b1 186 [pt b00], Obj.box b00 196 [C.int p0.graph.room, C.im Y98 9 p0.graph.events, C.im Y98 9 p0.graph.parked, mt b01, mt b02, mt b03, mt b04], Abs.Obj.map b01 .i64 Y9l p0.depth, Abs.Obj.map b02 .i64 Y9m p0.before, Abs.Obj.map b03 .i64 Y9m p0.after, Abs.Obj.map b04 .i64 Y9l p0.refused, Obj.arr v174 136 Y98 9 r176]⟩) (fun l204 => Zdy x194 l204 = some y222) ?_ ?_
   ·
    refine zw ?_
    refine ob' h fun e196 g197 h => ?_
    refine Ops.v rfl (Y2x (p := 6) Yas.h rfl rfl rfl g197 rfl) ?_
    refine Ops.v rfl (Y31 (p := 6) Yao.h rfl rfl (Y29 g197).2.2 rfl rfl rfl) ?_
    refine Ops.h (ns := []) rfl rfl (Y1p (cs := [C.int 0, C.int 0, C.int 0, C.int 0, C.int 0, C.int 0, C.str ByteArray.empty, C.val s0, C.int 0]) Ya7 (Y42 rfl rfl) rfl) ?_
    rintro _ _ ⟨b198, rfl, rfl⟩
    refine Ops.hd (ns := [0]) rfl rfl (Y1u (gs := [C.int e196.id, C.int e196.room, C.int e196.author, C.int e196.kind, C.int e196.key, C.int e196.n, C.str e196.text, C.im kI64 1 e196.prev, C.int e196.time]) Yao.h rfl rfl rfl rfl rfl) ?_
    refine zw ?_
    refine AW.regionD (L := [0, 3, 5]) (Lt := []) (k := dec [1,3,6,10,12,16,20,21]) (ns := [0, 0, 0, 0, 0, 0, 0, 0]) (by kernel_rfl) (by kernel_rfl) (by kernel_rfl) (by kernel_rfl) rfl ?_
    refine zw ?_
    refine dc h fun r199 g200 h => ?_
    refine zw ?_
    refine cnd h (fun hb201 h => ?_) fun hb201 h => ?_
    ·
     refine AW.ct hb201 rfl ?_
     refine zw ?_
     refine Ops.v rfl (Y38 (ds := [C.int e196.kind, C.int e196.key, C.int e196.id]) Ybz Yc0 (Y42 rfl rfl) (.one rfl (One.val rfl) rfl rfl (.one rfl (One.val rfl) rfl rfl (.one rfl (One.val rfl) rfl rfl .nil))) rfl) ?_
     refine oc h fun r202 g203 h => ?_
     refine zw ?_
     exact ⟨r202, h, Y21.both (ns := [1, 1, 1, 1, 1, 1, 1]) rfl rfl⟩
    refine AW.cf hb201 rfl ?_
    refine zw ?_
    exact ⟨l193, h, Y21.both (ns := [1, 1, 1, 1, 1, 1, 1]) rfl rfl⟩
   intro l204 h
   replace h : Zdy x194 l204 = some y222 := h
   unfold Zdy at h
   refine zw ?_
   exact lu h (gb [0, 0, 0, 0, 0, 0, 0])
  refine AW.cf hb195 rfl ?_
  refine AW.exit ?_
  refine lx h fun h => ?_
  exact ⟨l193, h, Y21.both (ns := [1, 1, 1, 1, 1]) rfl rfl⟩
 intro l205 h
 replace h : Zdx l205 = some r := h
 unfold Zdx at h
 refine zw ?_
 refine AW.ret ?_
 rw [← Option.some.inj h]
 exact ⟨[C.im Y9g 3 l205], _, Y21.refl _, (.cons (.tmp rfl) .nil), [0, 0, 0, 0, 0], _, _, rfl, ⟨rfl, rfl⟩⟩

def Zed (p0 : List Int) : Option (List Int) := (chk (decide (p0.length * 8 ≤ 140737488355328))).bind fun _ => some p0
theorem Zee (p0 : List Int) (r : List Int) (h : Zed p0 = some r) : Ok Tryz.prog 110 [C.im kI64 1 p0] [] (fun c qs => ∃ (v : Value), c = C.val v ∧ qs = [Obj.arr v 2 kI64 1 r]) := by
 refine ob' h fun u hc h => ?_
 obtain rfl := Option.some.inj h
 have hc := of_decide_eq_true (Y3t hc)
 refine Ok.of_body (rs := [.tmp 2]) Tryz.func110 rfl rfl rfl rfl rfl fun X => ?_
 refine zw ?_
 refine Ops.h (ns := []) rfl rfl (Y5m Y9p.h rfl rfl) ?_
 rintro _ _ ⟨b, hb, rfl, rfl⟩
 refine zw ?_
 refine tf' b (fun hq => ?_) (fun hq => ?_)
 ·
  refine AW.cond rfl (fun _ => ?_) (fun hn => absurd (hq.symm.trans hn) (by decide))
  refine zw ?_
  refine AW.ret ?_
  obtain rfl := hb hq
  exact ⟨[C.val s0], _, Y21.nil 2 kI64 1, .cons (.tmp rfl) .nil, [0], _, _, rfl, ⟨_, rfl, rfl⟩⟩
 refine AW.cond rfl (fun hn => absurd (hq.symm.trans hn) (by decide)) (fun _ => ?_)
 refine zw ?_
 refine Ops.h (ns := []) rfl rfl (Y39 (k := kI64) (ys := ([] : List Int)) Ya6 .nil rfl rfl rfl) ?_
 rintro _ _ ⟨b1, rfl, rfl⟩
 refine zw ?_
 refine Ops.h (ns := [0]) rfl rfl (Y2r Ya6 rfl rfl (by simpa using hc) (by simp; omega) rfl) ?_
 rintro _ _ ⟨v, rfl, rfl⟩
 refine zw ?_
 refine AW.ret ?_
 exact ⟨[C.val v], _, Y21.refl _, .cons (.tmp rfl) .nil, [0], _, _, rfl, ⟨v, rfl, rfl⟩⟩
instance Zee' (p0 : List Int) : Sp Tryz.prog 110 [C.im kI64 1 p0] (Zed p0) (fun r => C.im kI64 1 r) := ⟨fun r h => Ok.freeze (Zee p0 r h) (by rintro c qs ⟨v, rfl, rfl⟩; exact Frz.arr)⟩

def Zef : Option Bool := some false
def Zeg (x24 : Int) (m36 : List (Int × Bool)) (l38 : List Int) : Option (((List (Int × Bool)) × List Int × Int) ⊕ (Bool ⊕ Unit)) := some (.inl (m36, l38, (IntKind.i64.wrap (x24 + 1))))
def Zeh (p0 : Y90) (p1 : Int) (m21 : List (Int × Bool)) (l23 : List Int) (x24 : Int) : Option (((List (Int × Bool)) × List Int × Int) ⊕ (Bool ⊕ Unit)) := cond (decide (x24 < (l23.length : Int))) ((getI l23 x24).bind fun e26 => cond (e26 == p1) (some (.inr (.inl true))) (cond (Option.getD (mget m21 e26) false) (Zeg x24 m21 l23) ((Zbu p0 e26).bind fun r30 => (chk (decide ((l23.length + r30.1.prev.length) * 8 ≤ 140737488355328))).bind fun u34 => Zeg x24 (mset m21 e26 true) (l23 ++ r30.1.prev)))) (some (.inr (.inr ())))
def Zei (p0 : Y90) (p1 : Int) (p2 : Y8w) : Option Bool := (Zed p2.prev).bind fun r4 => (iter (fun z39 => Zeh p0 p1 z39.1 z39.2.1 z39.2.2) big (([] : List (Int × Bool)), r4, 0)).bind (fun z41 => match z41 with | .inl y40 => some y40 | .inr () => Zef)
set_option maxHeartbeats 1000000 in
instance Zej (p0 : Y90) (p1 : Int) (p2 : Y8w) : Sp Tryz.prog 240 [C.agg [C.int p0.room, C.im Y98 9 p0.events, C.im Y98 9 p0.parked], C.int p1, C.agg [C.int p2.id, C.int p2.room, C.int p2.author, C.int p2.kind, C.int p2.key, C.int p2.n, C.str p2.text, C.im kI64 1 p2.prev, C.int p2.time]] (Zei p0 p1 p2) C.bool := sp Tryz.func240 rfl rfl fun r X h => by
 unfold Zei at h
 refine zw ?_
 refine ox fun b1 => ?_
 refine ox fun b2 => ?_
 refine zw ?_
 refine Ops.h (ns := []) rfl rfl (Y6j (kd := .i64) (kc := Y9n) rfl) ?_
 rintro _ _ ⟨b3, rfl, rfl⟩
 refine zw ?_
 refine ob' h fun r4 g5 h => ?_
 refine Ops.h (ns := []) rfl rfl (Y23 (Zee _ _ g5) rfl rfl) ?_
 rintro _ _ ⟨_, ⟨v6, rfl, rfl⟩, rfl⟩
 refine zw ?_
 refine AW.lp h (fun (m21, l23, x24) (v22 : Value) => ⟨[(1, C.int p1), (3, pt b1), (7, mt b3), (8, C.val v22), (9, C.int x24)], [Obj.box b1 139 [C.int p0.room, C.im Y98 9 p0.events, C.im Y98 9 p0.parked], Abs.Obj.map b3 .i64 Y9n m21, Obj.arr v22 2 kI64 1 l23]⟩) (gb [3, 1, 0]) ?_
 rintro ⟨m21, l23, x24⟩ v22 y47 h
 refine AW.seq ?_
 refine AW.seq ?_
 refine AW.region ?_
 refine Ops.v rfl (Yq rfl rfl) ?_
 refine Ops.v rfl (Yq rfl rfl) ?_
 refine Ops.v rfl (Y2u (p := 2) Y9p.h rfl rfl rfl) ?_
 refine zw ?_
 refine cnd h (fun hb25 h => ?_) fun hb25 h => ?_
 ·
  refine AW.ct hb25 rfl ?_
  refine zw ?_
  refine ob' h fun e26 g27 h => ?_
  refine Ops.v rfl (Y2x (p := 2) Y9p.h rfl rfl rfl g27 rfl) ?_
  refine Ops.v rfl (Y30 (p := 2) ld_2.h rfl rfl (Y29 g27).2.2 rfl rfl) ?_
  refine zw ?_
  refine cnd h (fun hb28 h => go) fun hb28 h => ?_
  refine AW.cf hb28 rfl ?_
  refine zw ?_
  refine Ops.v rfl (Y6l (p := 1) (kc := Y9n) (z0 := false) Yd4 zv_4 (fun _ _ => rfl) rfl rfl rfl rfl) ?_
  refine zw ?_
  refine cnd h (fun hb29 h => go) fun hb29 h => ?_
  refine AW.cond rfl (fun _ => ?_) (fun hn => absurd ((Y3v hb29).symm.trans hn) (by decide))
  refine zw ?_
  refine Ops.hd (ns := [1]) rfl rfl (Y6m (kc := Y9n) (v := true) Yd4 rfl rfl rfl rfl) ?_
  refine zw ?_
  refine oc h fun r30 g31 h => ?_
  refine zw ?_
  refine Ops.h (ns := []) rfl rfl (Y1p (cs := [C.int 0, C.int 0, C.int 0, C.int 0, C.int 0, C.int 0, C.str ByteArray.empty, C.val s0, C.int 0]) Ya7 (Y42 rfl rfl) rfl) ?_
  rintro _ _ ⟨b32, rfl, rfl⟩
  refine Ops.hd (ns := [0]) rfl rfl (Y1u (gs := [C.int r30.1.id, C.int r30.1.room, C.int r30.1.author, C.int r30.1.kind, C.int r30.1.key, C.int r30.1.n, C.str r30.1.text, C.im kI64 1 r30.1.prev, C.int r30.1.time]) Yao.h rfl rfl rfl rfl rfl) ?_
  refine zw ?_
  refine ob' h fun u34 c33 h => ?_
  refine Ops.h (ns := [3]) rfl rfl (Y2r Ya6 rfl rfl (of_decide_eq_true (Y3t c33)) (Y3w (by decide) c33) rfl) ?_
  rintro _ _ ⟨v35, rfl, rfl⟩
  exact go
 exact go

def Zek (p0 : Y96) (p1 : Y8w) (r5 : List Y92) (x15 : Int) (x29 : Bool) : Option ((List (Int × List Y92)) × (List (Int × List Y92)) × (List (Int × Int))) := cond x29 ((Zdl r5 (Y92.mk p1.kind p1.key p1.id)).bind fun r31 => some ((mset p0.before p1.id r5), (mset (mset p0.after p1.id r5) p1.id r31), (mset p0.refused p1.id x15))) (some ((mset p0.before p1.id r5), (mset p0.after p1.id r5), (mset p0.refused p1.id x15)))
def Zel (p0 : Y96) (p1 : Y8w) (r5 : List Y92) (x15 : Int) : Option ((List (Int × List Y92)) × (List (Int × List Y92)) × (List (Int × Int))) := cond (x15 == 0) (Zek p0 p1 r5 x15 (decide (p1.kind ≤ 6))) (Zek p0 p1 r5 x15 false)
def Zem (p0 : Y96) (p1 : Y8w) (r5 : List Y92) (r7 : Int) (x13 : Bool) : Option ((List (Int × List Y92)) × (List (Int × List Y92)) × (List (Int × Int))) := cond x13 (Zel p0 p1 r5 6) (Zel p0 p1 r5 r7)
def Zen (p0 : Y96) (p1 : Y8w) : Option ((List (Int × List Y92)) × (List (Int × List Y92)) × (List (Int × Int))) := (Zby p0 p1.prev).bind fun r2 => (Zeb p0 r2).bind fun r5 => (Zdc p0.graph r5 p1).bind fun r7 => cond (r7 == 0) (cond (p1.kind == 8) ((Zei p0.graph p1.key p1).bind fun r11 => Zem p0 p1 r5 r7 (!r11)) (Zem p0 p1 r5 r7 false)) (Zem p0 p1 r5 r7 false)
set_option maxHeartbeats 1000000 in
theorem Zeo {b00 : Nat} {b01 : Nat} {b02 : Nat} {b03 : Nat} {b04 : Nat} (p0 : Y96) (p1 : Y8w) (r : (List (Int × List Y92)) × (List (Int × List Y92)) × (List (Int × Int))) (h : Zen p0 p1 = some r) : Ok Tryz.prog 192 [pt b00, C.agg [C.int p1.id, C.int p1.room, C.int p1.author, C.int p1.kind, C.int p1.key, C.int p1.n, C.str p1.text, C.im kI64 1 p1.prev, C.int p1.time]] [Obj.box b00 196 [C.int p0.graph.room, C.im Y98 9 p0.graph.events, C.im Y98 9 p0.graph.parked, mt b01, mt b02, mt b03, mt b04], Abs.Obj.map b01 .i64 Y9l p0.depth, Abs.Obj.map b02 .i64 Y9m p0.before, Abs.Obj.map b03 .i64 Y9m p0.after, Abs.Obj.map b04 .i64 Y9l p0.refused] (fun c qs => c = C.tup [] ∧ qs = [Obj.box b00 196 [C.int p0.graph.room, C.im Y98 9 p0.graph.events, C.im Y98 9 p0.graph.parked, mt b01, mt b02, mt b03, mt b04], Abs.Obj.map b01 .i64 Y9l p0.depth, Abs.Obj.map b02 .i64 Y9m r.1, Abs.Obj.map b03 .i64 Y9m r.2.1, Abs.Obj.map b04 .i64 Y9l r.2.2]) := by
 refine Ok.of_body (rs := []) Tryz.func192 rfl rfl rfl rfl rfl fun X => ?_
 unfold Zen at h
 refine zw ?_
 refine ox fun b1 => ?_
 refine zw ?_
 refine ob' h fun r2 g3 h => ?_
 refine Ops.h (ns := [1, 1, 1, 1, 1]) rfl rfl (Y23 (Zbz p0 p1.prev _ g3) rfl rfl) ?_
 rintro _ _ ⟨_, ⟨v4, rfl, rfl⟩, rfl⟩
 refine ob' h fun r5 g6 h => ?_
 refine Ops.hd (ns := [0, 0, 0, 0, 0, 0]) rfl rfl (HOp.frz (t := 10) rfl Frz.arr (Y24 (Zec p0 r2 _ g6) rfl rfl)) ?_
 refine zw ?_
 refine AW.regionD (L := [3, 5]) (Lt := []) (k := dec [0,3,6,10,12,16,20,21]) (ns := [0, 0, 0, 0, 0, 0]) (by kernel_rfl) (by kernel_rfl) (by kernel_rfl) (by kernel_rfl) rfl ?_
 refine OpsD.v rfl rfl (Yq rfl rfl) ?_
 refine OpsD.v rfl rfl (Y14 rfl rfl) ?_
 refine OpsD.v rfl rfl (Y1b Yd6.h rfl rfl) ?_
 refine OpsD.v rfl rfl (Y1l (p := 0) (ds := [C.int p0.graph.room, C.im Y98 9 p0.graph.events, C.im Y98 9 p0.graph.parked]) Yaz.h rfl rfl rfl rfl rfl) ?_
 refine OpsD.v rfl rfl (Yq rfl rfl) ?_
 refine OpsD.v rfl rfl (Y1l (p := 5) (ds := [C.int p1.id, C.int p1.room, C.int p1.author, C.int p1.kind, C.int p1.key, C.int p1.n, C.str p1.text, C.im kI64 1 p1.prev, C.int p1.time]) Yao.h rfl rfl rfl rfl rfl) ?_
 refine zw ?_
 refine dc h fun r7 g8 h => ?_
 refine OpsD.v rfl rfl (Yr rfl rfl) ?_
 refine OpsD.done ?_
 refine AW.seq ?_
 refine AW.cut (τ := Int) (fun x15 => ⟨[(0, pt b00), (3, pt b1), (4, C.im Y9g 3 r5), (5, C.int x15)], [Obj.box b00 196 [C.int p0.graph.room, C.im Y98 9 p0.graph.events, C.im Y98 9 p0.graph.parked, mt b01, mt b02, mt b03, mt b04], Abs.Obj.map b01 .i64 Y9l p0.depth, Abs.Obj.map b02 .i64 Y9m p0.before, Abs.Obj.map b03 .i64 Y9m p0.after, Abs.Obj.map b04 .i64 Y9l p0.refused, Obj.box b1 136 [C.int p1.id, C.int p1.room, C.int p1.author, C.int p1.kind, C.int p1.key, C.int p1.n, C.str p1.text, C.im kI64 1 p1.prev, C.int p1.time]]⟩) (fun x15 => Zel p0 p1 r5 x15 = some r) ?_ ?_
 ·
  refine AW.seq ?_
  refine AW.cut (τ := Bool) (fun x13 => ⟨[(0, pt b00), (3, pt b1), (4, C.im Y9g 3 r5), (5, C.int r7), (36, C.bool x13)], [Obj.box b00 196 [C.int p0.graph.room, C.im Y98 9 p0.graph.events, C.im Y98 9 p0.graph.parked, mt b01, mt b02, mt b03, mt b04], Abs.Obj.map b01 .i64 Y9l p0.depth, Abs.Obj.map b02 .i64 Y9m p0.before, Abs.Obj.map b03 .i64 Y9m p0.after, Abs.Obj.map b04 .i64 Y9l p0.refused, Obj.box b1 136 [C.int p1.id, C.int p1.room, C.int p1.author, C.int p1.kind, C.int p1.key, C.int p1.n, C.str p1.text, C.im kI64 1 p1.prev, C.int p1.time]]⟩) (fun x13 => Zem p0 p1 r5 r7 x13 = some r) ?_ ?_
  ·
   refine AW.regionD (L := [4, 11, 13, 14]) (Lt := []) (k := dec [0,3,6,9,13,15,18,21,24,27,30,34,36,40,43,47,48,51]) (ns := [0, 0, 0, 0, 0, 0]) (by kernel_rfl) (by kernel_rfl) (by kernel_rfl) (by kernel_rfl) rfl ?_
   refine zw ?_
   refine cnd h (fun hb9 h => ?_) fun hb9 h => ?_
   ·
    refine OpsD.gv rfl rfl rfl rfl rfl hb9 (Y1b Yaf.h rfl rfl) ?_
    refine OpsD.gv rfl rfl rfl rfl rfl hb9 (Y1k (p := 5) ld_2.h rfl rfl rfl rfl) ?_
    refine zw ?_
    refine cnd h (fun hb10 h => ?_) fun hb10 h => ?_
    ·
     refine OpsD.gv rfl rfl rfl rfl rfl hb10 (Yq rfl rfl) ?_
     refine OpsD.gv rfl rfl rfl rfl rfl hb10 (Y14 rfl rfl) ?_
     refine OpsD.gv rfl rfl rfl rfl rfl hb10 (Y1b Yd6.h rfl rfl) ?_
     refine OpsD.gv rfl rfl rfl rfl rfl hb10 (Y1l (p := 0) (ds := [C.int p0.graph.room, C.im Y98 9 p0.graph.events, C.im Y98 9 p0.graph.parked]) Yaz.h rfl rfl rfl rfl rfl) ?_
     refine OpsD.gv rfl rfl rfl rfl rfl hb10 (Y1b Yah.h rfl rfl) ?_
     refine OpsD.gv rfl rfl rfl rfl rfl hb10 (Y1k (p := 5) ld_2.h rfl rfl rfl rfl) ?_
     refine OpsD.gv rfl rfl rfl rfl rfl hb10 (Y1l (p := 5) (ds := [C.int p1.id, C.int p1.room, C.int p1.author, C.int p1.kind, C.int p1.key, C.int p1.n, C.str p1.text, C.im kI64 1 p1.prev, C.int p1.time]) Yao.h rfl rfl rfl rfl rfl) ?_
     refine zw ?_
     refine ob' h fun r11 g12 h => ?_
     refine Y3n.gh (ns := []) rfl rfl rfl rfl rfl hb10 rfl (Y24 ((Zej _ _ _).h _ g12) rfl rfl) ?_
     rintro _ _ ⟨rfl, rfl⟩
     refine zw ?_
     exact ⟨(!r11), h, Y21.both (ns := [0, 0, 0, 0, 0, 0]) rfl rfl⟩
    refine OpsD.gs rfl rfl rfl rfl (.b rfl hb10) rfl rfl ?_
    refine OpsD.gs rfl rfl rfl rfl (.b rfl hb10) rfl rfl ?_
    refine OpsD.gs rfl rfl rfl rfl (.b rfl hb10) rfl rfl ?_
    refine OpsD.gs rfl rfl rfl rfl (.b rfl hb10) rfl rfl ?_
    refine OpsD.gs rfl rfl rfl rfl (.b rfl hb10) rfl rfl ?_
    refine OpsD.gs rfl rfl rfl rfl (.b rfl hb10) rfl rfl ?_
    refine OpsD.gs rfl rfl rfl rfl (.b rfl hb10) rfl rfl ?_
    refine OpsD.one ?_
    refine Y3n.gs rfl rfl rfl rfl (.b rfl hb10) rfl rfl ?_
    refine zw ?_
    exact ⟨false, h, Y21.both (ns := [0, 0, 0, 0, 0, 0]) rfl rfl⟩
   refine OpsD.gs rfl rfl rfl rfl (.b rfl hb9) rfl rfl ?_
   refine OpsD.gs rfl rfl rfl rfl (.b rfl hb9) rfl rfl ?_
   refine OpsD.gs rfl rfl rfl rfl (.b rfl hb9) rfl rfl ?_
   refine OpsD.v rfl rfl (Yt rfl hb9 rfl rfl) ?_
   refine OpsD.v rfl rfl (Yq rfl rfl) ?_
   refine OpsD.gs rfl rfl rfl rfl (.b rfl rfl) rfl rfl ?_
   refine OpsD.gs rfl rfl rfl rfl (.b rfl rfl) rfl rfl ?_
   refine OpsD.gs rfl rfl rfl rfl (.b rfl rfl) rfl rfl ?_
   refine OpsD.gs rfl rfl rfl rfl (.b rfl rfl) rfl rfl ?_
   refine OpsD.gs rfl rfl rfl rfl (.b rfl rfl) rfl rfl ?_
   refine OpsD.gs rfl rfl rfl rfl (.b rfl rfl) rfl rfl ?_
   refine OpsD.gs rfl rfl rfl rfl (.b rfl rfl) rfl rfl ?_
   refine OpsD.one ?_
   refine Y3n.gs rfl rfl rfl rfl (.b rfl rfl) rfl rfl ?_
   refine zw ?_
   exact ⟨false, h, Y21.both (ns := [0, 0, 0, 0, 0, 0]) rfl rfl⟩
  intro x13 h
  replace h : Zem p0 p1 r5 r7 x13 = some r := h
  unfold Zem at h
  refine cnd h (fun hb14 h => ?_) fun hb14 h => ?_
  ·
   refine AW.ct hb14 rfl ?_
   refine zw ?_
   exact ⟨6, h, Y21.both (ns := [0, 0, 0, 0, 0, 0]) rfl rfl⟩
  refine AW.cf hb14 rfl ?_
  refine zw ?_
  exact ⟨r7, h, Y21.both (ns := [0, 0, 0, 0, 0, 0]) rfl rfl⟩
 intro x15 h
 replace h : Zel p0 p1 r5 x15 = some r := h
 unfold Zel at h
 refine zw ?_
 refine AW.regionD (L := [3, 5, 9, 11, 15, 17]) (Lt := [29]) (k := .light 0 false (.light 1 false (.light 2 false (.light 3 true (.light 4 false (.light 5 true (.light 6 false (.light 7 false (.light 8 false (.light 9 true (.light 10 false (.light 11 true (.light 12 false (.light 13 false (.light 14 false (.light 15 true (.light 16 false (.light 17 true (.light 18 false (.light 19 false (.light 20 false (.one 21 (.light 22 false (.one 23 (.one 24 (.light 25 false (.one 26 (.one 27 (.light 28 false (.late 29 (.done))))))))))))))))))))))))))))))) (ns := [0, 0, 3]) (by kernel_rfl) (by kernel_rfl) (by kernel_rfl) (by kernel_rfl) rfl ?_
 refine OpsD.v rfl rfl (Yq rfl rfl) ?_
 refine OpsD.v rfl rfl (Y14 rfl rfl) ?_
 refine OpsD.v rfl rfl (Y1b Yda.h rfl rfl) ?_
 refine OpsD.v rfl rfl (Y1k (p := 0) Yd0.h rfl rfl rfl rfl) ?_
 refine OpsD.v rfl rfl (Y1b Ya9.h rfl rfl) ?_
 refine OpsD.v rfl rfl (Y1k (p := 2) ld_2.h rfl rfl rfl rfl) ?_
 refine OpsD.v rfl rfl (Yq rfl rfl) ?_
 refine OpsD.v rfl rfl (Y14 rfl rfl) ?_
 refine OpsD.v rfl rfl (Y1b Ycz.h rfl rfl) ?_
 refine OpsD.v rfl rfl (Y1k (p := 0) Yd0.h rfl rfl rfl rfl) ?_
 refine OpsD.v rfl rfl (Y1b Ya9.h rfl rfl) ?_
 refine OpsD.v rfl rfl (Y1k (p := 2) ld_2.h rfl rfl rfl rfl) ?_
 refine OpsD.v rfl rfl (Yq rfl rfl) ?_
 refine OpsD.v rfl rfl (Y14 rfl rfl) ?_
 refine OpsD.v rfl rfl (Y1b Ydb.h rfl rfl) ?_
 refine OpsD.v rfl rfl (Y1k (p := 0) Yd8.h rfl rfl rfl rfl) ?_
 refine OpsD.v rfl rfl (Y1b Ya9.h rfl rfl) ?_
 refine OpsD.v rfl rfl (Y1k (p := 2) ld_2.h rfl rfl rfl rfl) ?_
 refine OpsD.v rfl rfl (Yq rfl rfl) ?_
 refine OpsD.v rfl rfl (Yq rfl rfl) ?_
 refine OpsD.v rfl rfl (Yq rfl rfl) ?_
 refine OpsD.one ?_
 refine Y3n.h (ns := [0]) rfl rfl rfl (Y6o (kc := Y9m) (z0 := ([] : List Y92)) Yd1 Yd2 (fun w F => Imp.nil Y9g 3 w F _ rfl) rfl rfl rfl) ?_
 rintro _ _ ⟨st25, rfl, rfl⟩
 refine OpsD.v rfl rfl (Y13 rfl rfl rfl) ?_
 refine OpsD.one ?_
 refine Y3n.h (ns := [0]) rfl rfl rfl (Y6p (kc := Y9m) (v := r5) rfl rfl rfl rfl) ?_
 rintro _ _ ⟨rfl, rfl⟩
 refine OpsD.one ?_
 refine Y3n.h (ns := [1]) rfl rfl rfl (Y6o (kc := Y9m) (z0 := ([] : List Y92)) Yd1 Yd2 (fun w F => Imp.nil Y9g 3 w F _ rfl) rfl rfl rfl) ?_
 rintro _ _ ⟨st26, rfl, rfl⟩
 refine OpsD.v rfl rfl (Y13 rfl rfl rfl) ?_
 refine OpsD.one ?_
 refine Y3n.h (ns := [0]) rfl rfl rfl (Y6p (kc := Y9m) (v := r5) rfl rfl rfl rfl) ?_
 rintro _ _ ⟨rfl, rfl⟩
 refine OpsD.one ?_
 refine Y3n.h (ns := [2]) rfl rfl rfl (Y6o (kc := Y9l) (z0 := 0) Yd9 zv_2 (fun _ _ => rfl) rfl rfl rfl) ?_
 rintro _ _ ⟨st27, rfl, rfl⟩
 refine zw ?_
 refine OpsD.late (ns := [3]) rfl rfl rfl (Y6p (kc := Y9l) (v := x15) rfl rfl rfl rfl) ?_
 rintro _ _ ⟨rfl, rfl⟩
 refine OpsD.done ?_
 refine AW.seq ?_
 refine AW.cut (τ := Bool) (fun x29 => ⟨[(0, pt b00), (3, pt b1), (4, C.im Y9g 3 r5), (70, C.bool x29)], [Obj.box b00 196 [C.int p0.graph.room, C.im Y98 9 p0.graph.events, C.im Y98 9 p0.graph.parked, mt b01, mt b02, mt b03, mt b04], Abs.Obj.map b01 .i64 Y9l p0.depth, Abs.Obj.map b02 .i64 Y9m (mset p0.before p1.id r5), Abs.Obj.map b03 .i64 Y9m (mset p0.after p1.id r5), Abs.Obj.map b04 .i64 Y9l (mset p0.refused p1.id x15), Obj.box b1 136 [C.int p1.id, C.int p1.room, C.int p1.author, C.int p1.kind, C.int p1.key, C.int p1.n, C.str p1.text, C.im kI64 1 p1.prev, C.int p1.time]]⟩) (fun x29 => Zek p0 p1 r5 x15 x29 = some r) ?_ ?_
 ·
  refine zw ?_
  refine cnd h (fun hb28 h => ?_) fun hb28 h => ?_
  ·
   refine zw ?_
   exact ⟨decide (p1.kind ≤ 6), h, Y21.both (ns := [1, 1, 3, 2, 0, 0]) rfl rfl⟩
  refine zw ?_
  exact ⟨false, h, Y21.both (ns := [1, 1, 3, 2, 0, 0]) rfl rfl⟩
 intro x29 h
 replace h : Zek p0 p1 r5 x15 x29 = some r := h
 unfold Zek at h
 refine cnd h (fun hb30 h => ?_) fun hb30 h => ?_
 ·
  refine AW.ct hb30 rfl ?_
  refine AW.regionD (L := [3, 5, 8, 10, 12]) (Lt := [15]) (k := .light 0 false (.light 1 false (.light 2 false (.light 3 true (.light 4 false (.light 5 true (.light 6 false (.light 7 false (.light 8 true (.light 9 false (.light 10 true (.light 11 false (.light 12 true (.light 13 false (.one 14 (.late 15 (.done))))))))))))))))) (ns := [0, 0, 0, 0, 0, 0]) (by kernel_rfl) (by kernel_rfl) (by kernel_rfl) (by kernel_rfl) rfl ?_
  refine OpsD.v rfl rfl (Yq rfl rfl) ?_
  refine OpsD.v rfl rfl (Y14 rfl rfl) ?_
  refine OpsD.v rfl rfl (Y1b Ycz.h rfl rfl) ?_
  refine OpsD.v rfl rfl (Y1k (p := 0) Yd0.h rfl rfl rfl rfl) ?_
  refine OpsD.v rfl rfl (Y1b Ya9.h rfl rfl) ?_
  refine OpsD.v rfl rfl (Y1k (p := 5) ld_2.h rfl rfl rfl rfl) ?_
  refine OpsD.v rfl rfl (Yq rfl rfl) ?_
  refine OpsD.v rfl rfl (Y1b Yaf.h rfl rfl) ?_
  refine OpsD.v rfl rfl (Y1k (p := 5) ld_2.h rfl rfl rfl rfl) ?_
  refine OpsD.v rfl rfl (Y1b Yah.h rfl rfl) ?_
  refine OpsD.v rfl rfl (Y1k (p := 5) ld_2.h rfl rfl rfl rfl) ?_
  refine OpsD.v rfl rfl (Y1b Ya9.h rfl rfl) ?_
  refine OpsD.v rfl rfl (Y1k (p := 5) ld_2.h rfl rfl rfl rfl) ?_
  refine OpsD.v rfl rfl (Y38 (ds := [C.int p1.kind, C.int p1.key, C.int p1.id]) Ybz Yc0 (Y42 rfl rfl) (.one rfl (One.val rfl) rfl rfl (.one rfl (One.val rfl) rfl rfl (.one rfl (One.val rfl) rfl rfl .nil))) rfl) ?_
  refine zw ?_
  refine dc h fun r31 g32 h => ?_
  refine OpsD.late (ns := [3]) rfl rfl rfl (Y6m (kc := Y9m) (v := r31) Yd1 rfl rfl rfl rfl) ?_
  rintro _ _ ⟨rfl, rfl⟩
  refine zw ?_
  rw [← Option.some.inj h]
  exact ⟨[], _, Y21.refl _, .nil, [1, 1, 1, 0, 0], _, _, rfl, ⟨rfl, rfl⟩⟩
 refine AW.cf hb30 rfl ?_
 refine zw ?_
 rw [← Option.some.inj h]
 exact ⟨[], _, Y21.refl _, .nil, [0, 0, 0, 0, 0], _, _, rfl, ⟨rfl, rfl⟩⟩

def Zep (p0 : Y90) (m23 : List (Int × Int)) (m46 : List (Int × List Y92)) (m47 : List (Int × List Y92)) (m48 : List (Int × Int)) : Option Y96 := some (Y96.mk p0 m23 m46 m47 m48)
def Zeq (p0 : Y90) (m23 : List (Int × Int)) (r24 : List Int) (m34 : List (Int × List Y92)) (m35 : List (Int × List Y92)) (m36 : List (Int × Int)) (x37 : Int) : Option (((List (Int × List Y92)) × (List (Int × List Y92)) × (List (Int × Int)) × Int) ⊕ (((List (Int × List Y92)) × (List (Int × List Y92)) × (List (Int × Int))))) := cond (decide (x37 < (r24.length : Int))) ((getI r24 x37).bind fun e39 => (Zbu p0 e39).bind fun r41 => (Zen (Y96.mk p0 m23 m34 m35 m36) r41.1).bind fun r44 => some (.inl (r44.1, r44.2.1, r44.2.2, (IntKind.i64.wrap (x37 + 1))))) (some (.inr (m34, m35, m36)))
def Zer (p0 : Y90) (m23 : List (Int × Int)) : Option Y96 := (Zbs p0).bind fun r24 => (iter (fun z54 => Zeq p0 m23 r24 z54.1 z54.2.1 z54.2.2.1 z54.2.2.2) big (([] : List (Int × List Y92)), ([] : List (Int × List Y92)), ([] : List (Int × Int)), 0)).bind fun (y55, y56, y57) => Zep p0 m23 y55 y56 y57
def Zes (p0 : Y90) (r7 : List Int × Bool) (m15 : List (Int × Int)) (x16 : Int) : Option (((List (Int × Int)) × Int) ⊕ ((List (Int × Int)))) := cond (decide (x16 < (p0.events.length : Int))) ((getI p0.events x16).bind fun e18 => (getI r7.1 x16).bind fun e21 => some (.inl ((mset m15 e18.id e21), (IntKind.i64.wrap (x16 + 1))))) (some (.inr m15))
def Zet (p0 : Y90) : Option Y96 := (Z9r p0).bind fun r7 => (iter (fun z58 => Zes p0 r7 z58.1 z58.2) big (([] : List (Int × Int)), 0)).bind fun y59 => Zer p0 y59
set_option maxHeartbeats 1000000 in
theorem Zeu (p0 : Y90) (r : Y96) (h : Zet p0 = some r) : Ok Tryz.prog 136 [C.agg [C.int p0.room, C.im Y98 9 p0.events, C.im Y98 9 p0.parked]] [] (fun c qs => ∃ (b49 : Nat) (b50 : Nat) (b51 : Nat) (b52 : Nat) (b53 : Nat), c = pt b49 ∧ qs = [Obj.box b49 196 [C.int r.graph.room, C.im Y98 9 r.graph.events, C.im Y98 9 r.graph.parked, mt b50, mt b51, mt b52, mt b53], Abs.Obj.map b50 .i64 Y9l r.depth, Abs.Obj.map b51 .i64 Y9m r.before, Abs.Obj.map b52 .i64 Y9m r.after, Abs.Obj.map b53 .i64 Y9l r.refused]) := by
 refine Ok.of_body (rs := [.tmp 2]) Tryz.func136 rfl rfl rfl rfl rfl fun X => ?_
 unfold Zet at h
 refine zw ?_
 refine ox fun b1 => ?_
 refine zw ?_
 refine Ops.h (ns := []) rfl rfl (Y6j (kd := .i64) (kc := Y9l) rfl) ?_
 rintro _ _ ⟨b2, rfl, rfl⟩
 refine Ops.h (ns := []) rfl rfl (Y6j (kd := .i64) (kc := Y9m) rfl) ?_
 rintro _ _ ⟨b3, rfl, rfl⟩
 refine Ops.h (ns := []) rfl rfl (Y6j (kd := .i64) (kc := Y9m) rfl) ?_
 rintro _ _ ⟨b4, rfl, rfl⟩
 refine Ops.h (ns := []) rfl rfl (Y6j (kd := .i64) (kc := Y9l) rfl) ?_
 rintro _ _ ⟨b5, rfl, rfl⟩
 refine Ops.v rfl (Y38 (ds := [C.int p0.room, C.im Y98 9 p0.events, C.im Y98 9 p0.parked, mt b2, mt b3, mt b4, mt b5]) Ydc Ydd (Y42 rfl rfl) (.agg rfl rfl rfl (.one rfl (One.val rfl) rfl rfl (.one rfl (One.val rfl) rfl rfl (.one rfl (One.val rfl) rfl rfl (.one rfl (One.val rfl) rfl rfl .nil))))) rfl) ?_
 refine ox fun b6 => ?_
 refine Ops.v rfl (Yr rfl rfl) ?_
 refine Ops.nil ?_
 refine AW.seq ?_
 refine AW.region ?_
 refine Ops.v rfl (Y1l (p := 5) (ds := [C.int p0.room, C.im Y98 9 p0.events, C.im Y98 9 p0.parked]) Yaz.h rfl rfl rfl rfl rfl) ?_
 refine oc h fun r7 g8 h => ?_
 refine Ops.v rfl (Yq rfl rfl) ?_
 refine Ops.v rfl (Y13 rfl rfl rfl) ?_
 refine Ops.v rfl (Y13 rfl rfl rfl) ?_
 refine Ops.v rfl (Yr rfl rfl) ?_
 refine Ops.v rfl (Yr rfl rfl) ?_
 refine Ops.nil ?_
 refine AW.seq ?_
 refine AW.cut (τ := (List (Int × Int))) (fun m23 => ⟨[(1, pt b1), (3, pt b6)], [Obj.box b1 139 [C.int p0.room, C.im Y98 9 p0.events, C.im Y98 9 p0.parked], Obj.box b6 196 [C.int p0.room, C.im Y98 9 p0.events, C.im Y98 9 p0.parked, mt b2, mt b3, mt b4, mt b5], Abs.Obj.map b2 .i64 Y9l m23, Abs.Obj.map b3 .i64 Y9m ([] : List (Int × List Y92)), Abs.Obj.map b4 .i64 Y9m ([] : List (Int × List Y92)), Abs.Obj.map b5 .i64 Y9l ([] : List (Int × Int))]⟩) (fun m23 => Zer p0 m23 = some r) ?_ ?_
 ·
  refine AW.seq ?_
  refine AW.region ?_
  refine Ops.v rfl (Y1b Yaw.h rfl rfl) ?_
  refine Ops.v rfl (Y1k (p := 5) Yax.h rfl rfl rfl rfl) ?_
  refine zw ?_
  refine AW.lp (v := ()) h (fun (m15, x16) (_ : Unit) => ⟨[(1, pt b1), (3, pt b6), (4, C.im kI64 1 r7.1), (25, C.im Y98 9 p0.events), (26, C.int (p0.events.length : Int)), (27, C.int x16)], [Obj.box b1 139 [C.int p0.room, C.im Y98 9 p0.events, C.im Y98 9 p0.parked], Obj.box b6 196 [C.int p0.room, C.im Y98 9 p0.events, C.im Y98 9 p0.parked, mt b2, mt b3, mt b4, mt b5], Abs.Obj.map b2 .i64 Y9l m15, Abs.Obj.map b3 .i64 Y9m ([] : List (Int × List Y92)), Abs.Obj.map b4 .i64 Y9m ([] : List (Int × List Y92)), Abs.Obj.map b5 .i64 Y9l ([] : List (Int × Int))]⟩) (gb [5, 0, 3, 2, 1, 0]) ?_
  rintro ⟨m15, x16⟩ _ y72 h
  refine zw ?_
  refine cnd h (fun hb17 h => ?_) fun hb17 h => ?_
  ·
   refine AW.ct hb17 rfl ?_
   refine zw ?_
   refine oi h fun e18 g19 h => ?_
   refine zw ?_
   refine Ops.h (ns := []) rfl rfl (Y1p (cs := [C.int 0, C.int 0, C.int 0, C.int 0, C.int 0, C.int 0, C.str ByteArray.empty, C.val s0, C.int 0]) Ya7 (Y42 rfl rfl) rfl) ?_
   rintro _ _ ⟨b20, rfl, rfl⟩
   refine zw ?_
   refine Ops.hd (ns := [0]) rfl rfl (Y1u (gs := [C.int e18.id, C.int e18.room, C.int e18.author, C.int e18.kind, C.int e18.key, C.int e18.n, C.str e18.text, C.im kI64 1 e18.prev, C.int e18.time]) Yao.h rfl rfl rfl rfl rfl) ?_
   refine zw ?_
   refine AW.regionD (L := [3, 5, 9]) (Lt := [10]) (k := .light 0 false (.light 1 false (.light 2 false (.light 3 true (.light 4 false (.light 5 true (.light 6 false (.light 7 false (.light 8 false (.light 9 true (.late 10 (.done)))))))))))) (ns := [0, 0, 0, 0, 0, 0, 0]) (by kernel_rfl) (by kernel_rfl) (by kernel_rfl) (by kernel_rfl) rfl ?_
   refine zw ?_
   refine di h fun e21 g22 h => ?_
   refine zw ?_
   refine OpsD.late (ns := [3]) rfl rfl rfl (Y6m (kc := Y9l) (v := e21) Yd9 rfl rfl rfl rfl) ?_
   rintro _ _ ⟨rfl, rfl⟩
   refine zw ?_
   exact lu h (gb [2, 2, 0, 1, 1, 1])
  refine AW.cf hb17 rfl ?_
  refine AW.exit ?_
  refine lx h fun h => ?_
  exact ⟨m15, h, Y21.both (ns := [0, 0, 0, 0, 0, 0]) rfl rfl⟩
 intro m23 h
 replace h : Zer p0 m23 = some r := h
 unfold Zer at h
 refine AW.seq ?_
 refine AW.cut (τ := (List (Int × List Y92)) × (List (Int × List Y92)) × (List (Int × Int))) (fun (m46, m47, m48) => ⟨[(3, pt b6)], [Obj.box b6 196 [C.int p0.room, C.im Y98 9 p0.events, C.im Y98 9 p0.parked, mt b2, mt b3, mt b4, mt b5], Abs.Obj.map b2 .i64 Y9l m23, Abs.Obj.map b3 .i64 Y9m m46, Abs.Obj.map b4 .i64 Y9m m47, Abs.Obj.map b5 .i64 Y9l m48]⟩) (fun (m46, m47, m48) => Zep p0 m23 m46 m47 m48 = some r) ?_ ?_
 ·
  refine zw ?_
  refine oc h fun r24 g25 h => ?_
  refine zw ?_
  refine AW.lp (v := ()) h (fun (m34, m35, m36, x37) (_ : Unit) => ⟨[(1, pt b1), (3, pt b6), (44, C.im kI64 1 r24), (45, C.int (r24.length : Int)), (46, C.int x37)], [Obj.box b1 139 [C.int p0.room, C.im Y98 9 p0.events, C.im Y98 9 p0.parked], Obj.box b6 196 [C.int p0.room, C.im Y98 9 p0.events, C.im Y98 9 p0.parked, mt b2, mt b3, mt b4, mt b5], Abs.Obj.map b2 .i64 Y9l m23, Abs.Obj.map b3 .i64 Y9m m34, Abs.Obj.map b4 .i64 Y9m m35, Abs.Obj.map b5 .i64 Y9l m36]⟩) (gb [0, 0, 0, 0, 0, 0]) ?_
  rintro ⟨m34, m35, m36, x37⟩ _ y65 h
  refine zw ?_
  refine cnd h (fun hb38 h => ?_) fun hb38 h => ?_
  ·
   refine AW.ct hb38 rfl ?_
   refine zw ?_
   refine oi h fun e39 g40 h => ?_
   refine zw ?_
   refine oc h fun r41 g42 h => ?_
   refine zw ?_
   refine Ops.h (ns := []) rfl rfl (Y1p (cs := [C.int 0, C.int 0, C.int 0, C.int 0, C.int 0, C.int 0, C.str ByteArray.empty, C.val s0, C.int 0]) Ya7 (Y42 rfl rfl) rfl) ?_
   rintro _ _ ⟨b43, rfl, rfl⟩
   refine Ops.hd (ns := [0]) rfl rfl (Y1u (gs := [C.int r41.1.id, C.int r41.1.room, C.int r41.1.author, C.int r41.1.kind, C.int r41.1.key, C.int r41.1.n, C.str r41.1.text, C.im kI64 1 r41.1.prev, C.int r41.1.time]) Yao.h rfl rfl rfl rfl rfl) ?_
   refine zw ?_
   refine ob' h fun r44 g45 h => ?_
   refine Ops.hd (ns := [2, 2, 2, 2, 2]) rfl rfl (Y24 (Zeo (Y96.mk p0 m23 m34 m35 m36) r41.1 _ g45) rfl rfl) ?_
   refine zw ?_
   exact lu h (gb [6, 0, 0, 0, 0, 0])
  refine AW.cf hb38 rfl ?_
  refine AW.exit ?_
  refine lx h fun h => ?_
  exact ⟨(m34, m35, m36), h, Y21.both (ns := [1, 1, 1, 1, 1]) rfl rfl⟩
 rintro ⟨m46, m47, m48⟩ h
 replace h : Zep p0 m23 m46 m47 m48 = some r := h
 unfold Zep at h
 refine zw ?_
 refine AW.ret ?_
 rw [← Option.some.inj h]
 exact ⟨[pt b6], _, Y21.refl _, (.cons (.tmp rfl) .nil), [0, 0, 0, 0, 0], _, _, rfl, ⟨b6, b2, b3, b4, b5, rfl, rfl⟩⟩
instance Zeu' (p0 : Y90) : Sp Tryz.prog 136 [C.agg [C.int p0.room, C.im Y98 9 p0.events, C.im Y98 9 p0.parked]] (Zet p0) (fun r => C.ip [C.int r.graph.room, C.im Y98 9 r.graph.events, C.im Y98 9 r.graph.parked, C.imap .i64 Y9l r.depth, C.imap .i64 Y9m r.before, C.imap .i64 Y9m r.after, C.imap .i64 Y9l r.refused]) := ⟨fun r h => Ok.freeze (Zeu p0 r h) (by rintro c qs ⟨b49, b50, b51, b52, b53, rfl, rfl⟩; exact Frz.box (FrzL.cons (os := []) (Frz.same _) (FrzL.cons (os := []) (Frz.same _) (FrzL.cons (os := []) (Frz.same _) (FrzL.cons (os := [_]) (Frz.map) (FrzL.cons (os := [_]) (Frz.map) (FrzL.cons (os := [_]) (Frz.map) (FrzL.cons (os := [_]) (Frz.map) (FrzL.nil)))))))))⟩

end Go.Proofs.YtbgichfjcnibpaaGreat
