/- Printed by gen.py: plain functions for Go functions, and that the walks keep to them. -/
import Derived.Test.YtbgichfjcnibpaaGreatEQ3
set_option autoImplicit false
set_option linter.unusedVariables false
set_option linter.unusedSimpArgs false
set_option maxRecDepth 100000
namespace Go.Proofs.YtbgichfjcnibpaaGreat
open Go Go.Abs
attribute [local irreducible] AW Ops OpsD Y3n
def Z8a (x5 : Bool) : Option Bool := some x5
def Z8b (x13 : Bool) : Option Bool := some x13
def Z8c (x21 : Bool) : Option Bool := some x21
def Z8d (x25 : Bool) : Option Bool := some x25
def Z8e (x31 : Bool) : Option Bool := some x31
def Z8f (x37 : Bool) : Option Bool := some x37
def Z8g (x43 : Bool) : Option Bool := some x43
def Z8h (x49 : Bool) : Option Bool := some x49
def Z8i (p0 : Y8w) : Option Bool := cond (p0.kind == 1) (cond (p0.key == 0) (cond (p0.n == 0) (Z8a ((p0.text.size : Int) == 0)) (Z8a false)) (Z8a false)) (cond (p0.kind == 2) ((Z7v p0.key).bind fun r7 => cond r7 ((Z7p p0.n 1 4).bind fun r10 => cond r10 (Z8b ((p0.text.size : Int) == 0)) (Z8b false)) (Z8b false)) (cond (p0.kind == 3) ((Z7v p0.key).bind fun r15 => cond r15 ((Z7p p0.n 0 100).bind fun r18 => cond r18 (Z8c ((p0.text.size : Int) == 0)) (Z8c false)) (Z8c false)) (cond (p0.kind == 4) (cond (p0.key == 0) (cond (p0.n == 0) (Z8d (decide ((p0.text.size : Int) ≤ 30))) (Z8d false)) (Z8d false)) (cond (p0.kind == 5) (cond (p0.key == 0) ((Z7p p0.n 1 2).bind fun r28 => cond r28 (Z8e ((p0.text.size : Int) == 0)) (Z8e false)) (Z8e false)) (cond (p0.kind == 6) (cond (p0.key == 0) ((Z7p p0.n 1 3).bind fun r34 => cond r34 (Z8f ((p0.text.size : Int) == 0)) (Z8f false)) (Z8f false)) (cond (p0.kind == 7) (cond (p0.key == 0) (cond (p0.n == 0) ((Z7p (p0.text.size : Int) 1 30).bind fun r41 => Z8g r41) (Z8g false)) (Z8g false)) (cond (p0.kind == 8) ((Z7t p0.key).bind fun r45 => cond r45 (cond (p0.n == 0) (Z8h ((p0.text.size : Int) == 0)) (Z8h false)) (Z8h false)) (Z8h false))))))))
set_option maxHeartbeats 1000000 in
instance Z8j (p0 : Y8w) : Sp Tryz.prog 304 [C.agg [C.int p0.id, C.int p0.room, C.int p0.author, C.int p0.kind, C.int p0.key, C.int p0.n, C.str p0.text, C.im kI64 1 p0.prev, C.int p0.time]] (Z8i p0) C.bool := sp Tryz.func304 rfl rfl fun r X h => by
 unfold Z8i at h
 refine zw ?_
 refine ox fun b1 => ?_
 refine zw ?_
 refine AW.regionD (L := [1, 4, 7]) (Lt := []) (k := dec [0,4,6,9,13,15,18,22,24,27,30,33]) (ns := [0]) (by kernel_rfl) (by kernel_rfl) (by kernel_rfl) (by kernel_rfl) rfl ?_
 refine zw ?_
 refine cnd h (fun hb2 h => go) fun hb2 h => ?_
 refine AW.cf hb2 rfl ?_
 refine zw ?_
 refine cnd h (fun hb6 h => ?_) fun hb6 h => ?_
 ·
  refine AW.ct hb6 rfl ?_
  refine zw ?_
  refine oc h fun r7 g8 h => ?_
  refine zw ?_
  refine cnd h (fun hb9 h => ?_) fun hb9 h => ?_
  ·
   refine zw ?_
   refine ob' h fun r10 g11 h => ?_
   refine Ops.ghd (ns := []) rfl rfl rfl rfl hb9 rfl (Y24 ((Z7q _ _ _).h _ g11) rfl rfl) ?_
   exact go
  exact go
 refine AW.cf hb6 rfl ?_
 refine zw ?_
 refine cnd h (fun hb14 h => ?_) fun hb14 h => ?_
 ·
  refine AW.ct hb14 rfl ?_
  refine zw ?_
  refine oc h fun r15 g16 h => ?_
  refine zw ?_
  refine cnd h (fun hb17 h => ?_) fun hb17 h => ?_
  ·
   refine zw ?_
   refine ob' h fun r18 g19 h => ?_
   refine Ops.ghd (ns := []) rfl rfl rfl rfl hb17 rfl (Y24 ((Z7q _ _ _).h _ g19) rfl rfl) ?_
   exact go
  exact go
 refine AW.cf hb14 rfl ?_
 refine zw ?_
 refine cnd h (fun hb22 h => go) fun hb22 h => ?_
 refine AW.cf hb22 rfl ?_
 refine zw ?_
 refine cnd h (fun hb26 h => ?_) fun hb26 h => ?_
 ·
  refine AW.ct hb26 rfl ?_
  refine zw ?_
  refine cnd h (fun hb27 h => ?_) fun hb27 h => ?_
  ·
   refine zw ?_
   refine ob' h fun r28 g29 h => ?_
   refine Ops.ghd (ns := []) rfl rfl rfl rfl hb27 rfl (Y24 ((Z7q _ _ _).h _ g29) rfl rfl) ?_
   exact go
  exact go
 refine AW.cf hb26 rfl ?_
 refine zw ?_
 refine cnd h (fun hb32 h => ?_) fun hb32 h => ?_
 ·
  refine AW.ct hb32 rfl ?_
  refine zw ?_
  refine cnd h (fun hb33 h => ?_) fun hb33 h => ?_
  ·
   refine zw ?_
   refine ob' h fun r34 g35 h => ?_
   refine Ops.ghd (ns := []) rfl rfl rfl rfl hb33 rfl (Y24 ((Z7q _ _ _).h _ g35) rfl rfl) ?_
   exact go
  exact go
 refine AW.cf hb32 rfl ?_
 refine zw ?_
 refine cnd h (fun hb38 h => ?_) fun hb38 h => ?_
 ·
  refine AW.ct hb38 rfl ?_
  refine zw ?_
  refine cnd h (fun hb39 h => ?_) fun hb39 h => ?_
  ·
   refine zw ?_
   refine cnd h (fun hb40 h => ?_) fun hb40 h => ?_
   ·
    refine zw ?_
    refine ob' h fun r41 g42 h => ?_
    refine Ops.ghd (ns := []) rfl rfl rfl rfl hb40 rfl (Y24 ((Z7q _ _ _).h _ g42) rfl rfl) ?_
    exact go
   exact go
  exact go
 refine AW.cf hb38 rfl ?_
 refine zw ?_
 refine cnd h (fun hb44 h => ?_) fun hb44 h => ?_
 ·
  refine zw ?_
  refine ob' h fun r45 g46 h => ?_
  refine Ops.ghd (ns := []) rfl rfl rfl rfl hb44 rfl (Y24 ((Z7u _).h _ g46) rfl rfl) ?_
  exact go
 exact go

def Z8k (x23 : Bool) : Option Bool := some x23
def Z8l (p0 : Y8w) : Option Bool := (Z7t p0.id).bind fun r2 => cond r2 ((Z7r p0.room).bind fun r5 => cond r5 ((Z7v p0.author).bind fun r8 => cond r8 ((Z7x p0.time).bind fun r11 => cond r11 (cond (decide ((p0.prev.length : Int) ≤ 4)) ((Z82 p0.prev 1 1000000).bind fun r15 => cond r15 ((Z88 p0.prev p0.id).bind fun r18 => cond r18 (Z8k false) ((Z8i p0).bind fun r21 => Z8k r21)) (Z8k false)) (Z8k false)) (Z8k false)) (Z8k false)) (Z8k false)) (Z8k false)
set_option maxHeartbeats 1000000 in
instance Z8m (p0 : Y8w) : Sp Tryz.prog 282 [C.agg [C.int p0.id, C.int p0.room, C.int p0.author, C.int p0.kind, C.int p0.key, C.int p0.n, C.str p0.text, C.im kI64 1 p0.prev, C.int p0.time]] (Z8l p0) C.bool := sp Tryz.func282 rfl rfl fun r X h => by
 unfold Z8l at h
 refine zw ?_
 refine ox fun b1 => ?_
 refine zw ?_
 refine oc h fun r2 g3 h => ?_
 refine zw ?_
 refine cnd h (fun hb4 h => ?_) fun hb4 h => ?_
 ·
  refine zw ?_
  refine ob' h fun r5 g6 h => ?_
  refine Ops.ghd (ns := []) rfl rfl rfl rfl hb4 rfl (Y24 ((Z7s _).h _ g6) rfl rfl) ?_
  refine zw ?_
  refine cnd h (fun hb7 h => ?_) fun hb7 h => ?_
  ·
   refine zw ?_
   refine ob' h fun r8 g9 h => ?_
   refine Ops.ghd (ns := []) rfl rfl rfl rfl hb7 rfl (Y24 ((Z7w _).h _ g9) rfl rfl) ?_
   refine zw ?_
   refine cnd h (fun hb10 h => ?_) fun hb10 h => ?_
   ·
    refine zw ?_
    refine ob' h fun r11 g12 h => ?_
    refine Ops.ghd (ns := []) rfl rfl rfl rfl hb10 rfl (Y24 ((Z7y _).h _ g12) rfl rfl) ?_
    refine zw ?_
    refine cnd h (fun hb13 h => ?_) fun hb13 h => ?_
    ·
     refine zw ?_
     refine cnd h (fun hb14 h => ?_) fun hb14 h => ?_
     ·
      refine zw ?_
      refine ob' h fun r15 g16 h => ?_
      refine Ops.ghd (ns := []) rfl rfl rfl rfl hb14 rfl (Y24 ((Z83 _ _ _).h _ g16) rfl rfl) ?_
      refine zw ?_
      refine cnd h (fun hb17 h => ?_) fun hb17 h => ?_
      ·
       refine zw ?_
       refine ob' h fun r18 g19 h => ?_
       refine Ops.ghd (ns := []) rfl rfl rfl rfl hb17 rfl (Y24 ((Z89 _ _).h _ g19) rfl rfl) ?_
       refine zw ?_
       refine cnd h (fun hb20 h => go) fun hb20 h => ?_
       refine zw ?_
       refine ob' h fun r21 g22 h => ?_
       refine Ops.ghd (ns := []) rfl rfl rfl rfl (Y3v hb20) rfl (Y24 ((Z8j _).h _ g22) rfl rfl) ?_
       exact go
      exact go
     exact go
    exact go
   exact go
  exact go
 exact go

def Z8n (x5 : Bool) : Option Bool := some x5
def Z8o (p0 : Y8w) : Option Bool := (Z8l p0).bind fun r2 => cond r2 (Z8n ((p0.kind == 1) == ((p0.prev.length : Int) == 0))) (Z8n false)
set_option maxHeartbeats 1000000 in
instance Z8p (p0 : Y8w) : Sp Tryz.prog 235 [C.agg [C.int p0.id, C.int p0.room, C.int p0.author, C.int p0.kind, C.int p0.key, C.int p0.n, C.str p0.text, C.im kI64 1 p0.prev, C.int p0.time]] (Z8o p0) C.bool := sp Tryz.func235 rfl rfl fun r X h => by
 unfold Z8o at h
 refine zw ?_
 refine ox fun b1 => ?_
 refine zw ?_
 refine oc h fun r2 g3 h => ?_
 refine zw ?_
 refine cnd h (fun hb4 h => ?_) fun hb4 h => ?_
 ·
  refine zw ?_
  refine Ops.gv rfl rfl rfl rfl hb4 (Y10 un_4 rfl rfl rfl) ?_
  exact go
 exact go

def Z8q : Option Bool := some true
def Z8r (x15 : Int) (x27 : Bool) : Option (Int ⊕ (Bool ⊕ Unit)) := cond x27 (some (.inr (.inl false))) (some (.inl (IntKind.i64.wrap (x15 + 1))))
def Z8s (p0 : Y90) (p1 : List Y8w) (x15 : Int) : Option (Int ⊕ (Bool ⊕ Unit)) := cond (decide (x15 < (p1.length : Int))) ((getI p1 x15).bind fun e17 => (Z8o e17).bind fun r20 => cond r20 (cond (e17.room != p0.room) (Z8r x15 true) (cond (decide (x15 > 0)) ((getI p1 (IntKind.i64.wrap (x15 - 1))).bind fun e25 => Z8r x15 (decide (e25.id ≥ e17.id))) (Z8r x15 false))) (Z8r x15 true)) (some (.inr (.inr ())))
def Z8t (p0 : Y90) (p1 : List Y8w) : Option Bool := (iter (Z8s p0 p1) big 0).bind (fun z30 => match z30 with | .inl y29 => some y29 | .inr () => Z8q)
set_option maxHeartbeats 1000000 in
instance Z8u (p0 : Y90) (p1 : List Y8w) : Sp Tryz.prog 184 [C.agg [C.int p0.room, C.im Y98 9 p0.events, C.im Y98 9 p0.parked], C.im Y98 9 p1] (Z8t p0 p1) C.bool := sp Tryz.func184 rfl rfl fun r X h => by
 unfold Z8t at h
 refine zw ?_
 refine ox fun b1 => ?_
 refine zw ?_
 refine AW.lp (v := ()) h (fun x15 (_ : Unit) => ⟨[(1, C.im Y98 9 p1), (2, pt b1), (7, C.im Y98 9 p1), (8, C.int (p1.length : Int)), (9, C.int x15)], [Obj.box b1 139 [C.int p0.room, C.im Y98 9 p0.events, C.im Y98 9 p0.parked]]⟩) (gb [0]) ?_
 rintro x15 _ y36 h
 refine zw ?_
 refine cnd h (fun hb16 h => ?_) fun hb16 h => ?_
 ·
  refine AW.ct hb16 rfl ?_
  refine zw ?_
  refine oi h fun e17 g18 h => ?_
  refine zw ?_
  refine Ops.h (ns := []) rfl rfl (Y1p (cs := [C.int 0, C.int 0, C.int 0, C.int 0, C.int 0, C.int 0, C.str ByteArray.empty, C.val s0, C.int 0]) Ya7 (Y42 rfl rfl) rfl) ?_
  rintro _ _ ⟨b19, rfl, rfl⟩
  refine zw ?_
  refine Ops.hd (ns := [0]) rfl rfl (Y1u (gs := [C.int e17.id, C.int e17.room, C.int e17.author, C.int e17.kind, C.int e17.key, C.int e17.n, C.str e17.text, C.im kI64 1 e17.prev, C.int e17.time]) Yao.h rfl rfl rfl rfl rfl) ?_
  refine zw ?_
  refine AW.regionD (L := [0, 5, 7, 19, 21]) (Lt := []) (k := dec [1,5,6,9,12,16,18,22,24,27,30,33,36,39,42,45,48,51,54,58,60,64,66,69,72]) (ns := [0, 0]) (by kernel_rfl) (by kernel_rfl) (by kernel_rfl) (by kernel_rfl) rfl ?_
  exact go
 exact go

def Z8v (p0 : Int) : Option Bool := some (p0 != p0)
instance Z8w (p0 : Int) : Sp Tryz.prog 247 [C.int p0] (Z8v p0) C.bool := sp Tryz.func247 rfl rfl fun r X h => go

def Z8x (p0 : Int) (p1 : Int) : Option Int := (Z8v p0).bind fun r1 => (Z8v p1).bind fun r3 => cond r1 (cond r3 (some 0) (some (-1))) (cond r3 (some 1) (cond (decide (p0 < p1)) (some (-1)) (cond (decide (p0 > p1)) (some 1) (some 0))))
set_option maxHeartbeats 1000000 in
instance Z8y (p0 : Int) (p1 : Int) : Sp Tryz.prog 202 [C.int p0, C.int p1] (Z8x p0 p1) C.int := sp Tryz.func202 rfl rfl fun r X h => go

def Z8z (p0 : Y8w) (p1 : Int) : Option Int := (Z8x p0.id p1).bind fun r2 => some r2
instance Z90 (p0 : Y8w) (p1 : Int) : Sp Tryz.prog 242 [C.agg [C.int p0.id, C.int p0.room, C.int p0.author, C.int p0.kind, C.int p0.key, C.int p0.n, C.str p0.text, C.im kI64 1 p0.prev, C.int p0.time], C.int p1] (Z8z p0 p1) C.int := sp Tryz.func242 rfl rfl fun r X h => go

def Z91 (x15 : Int) (x21 : Bool) : Option (Int × Bool) := some (x15, x21)
def Z92 (p0 : List Y8w) (p1 : Int) (x15 : Int) : Option (Int × Bool) := cond (decide (x15 < (p0.length : Int))) ((getI p0 x15).bind fun e17 => (Z8z e17 p1).bind fun r19 => Z91 x15 (r19 == 0)) (Z91 x15 false)
def Z93 (p0 : List Y8w) (p1 : Int) (x7 : Int) (x8 : Int) : Option ((Int × Int) ⊕ (Int)) := cond (decide (x7 < x8)) ((getI p0 (IntKind.i64.wrap (shrI .u64 (IntKind.u64.wrap (IntKind.i64.wrap (x7 + x8))) 1))).bind fun e10 => (Z8z e10 p1).bind fun r12 => cond (decide (r12 < 0)) (some (.inl ((IntKind.i64.wrap ((IntKind.i64.wrap (shrI .u64 (IntKind.u64.wrap (IntKind.i64.wrap (x7 + x8))) 1)) + 1)), x8))) (some (.inl (x7, (IntKind.i64.wrap (shrI .u64 (IntKind.u64.wrap (IntKind.i64.wrap (x7 + x8))) 1)))))) (some (.inr x7))
def Z94 (p0 : List Y8w) (p1 : Int) : Option (Int × Bool) := (iter (fun z22 => Z93 p0 p1 z22.1 z22.2) big (0, (p0.length : Int))).bind fun y23 => Z92 p0 p1 y23
set_option maxHeartbeats 1000000 in
instance Z95 (p0 : List Y8w) (p1 : Int) : Sp Tryz.prog 241 [C.im Y98 9 p0, C.int p1, C.val (.func (.func 242) #[] #[])] (Z94 p0 p1) (fun r => C.tup [C.int r.1, C.bool r.2]) := sp Tryz.func241 rfl rfl fun r X h => by
 unfold Z94 at h
 refine AW.seq ?_
 refine AW.region ?_
 refine Ops.v rfl (Yr rfl rfl) ?_
 refine Ops.v rfl (Yr rfl rfl) ?_
 refine Ops.nil ?_
 refine AW.seq ?_
 refine AW.region ?_
 refine Ops.v rfl (Yq rfl rfl) ?_
 refine Ops.v rfl (Y2c Yas.h rfl rfl) ?_
 refine Ops.v rfl (Yr rfl rfl) ?_
 refine Ops.nil ?_
 refine AW.seq ?_
 refine AW.region ?_
 refine Ops.v rfl (Yq rfl rfl) ?_
 refine Ops.v rfl (Yr rfl rfl) ?_
 refine Ops.v rfl (Yr rfl rfl) ?_
 refine Ops.nil ?_
 refine AW.seq ?_
 refine AW.cut (τ := Int) (fun x15 => ⟨[(0, C.im Y98 9 p0), (1, C.int p1), (2, C.val (.func (.func 242) #[] #[])), (8, C.int (p0.length : Int)), (9, C.int x15)], []⟩) (fun x15 => Z92 p0 p1 x15 = some r) ?_ ?_
 ·
  refine zw ?_
  refine AW.lp (v := ()) h (fun (x7, x8) (_ : Unit) => ⟨[(0, C.im Y98 9 p0), (1, C.int p1), (2, C.val (.func (.func 242) #[] #[])), (8, C.int (p0.length : Int)), (9, C.int x7), (10, C.int x8)], []⟩) (gb []) ?_
  rintro ⟨x7, x8⟩ _ y29 h
  refine zw ?_
  refine cnd h (fun hb9 h => ?_) fun hb9 h => ?_
  ·
   refine AW.ct hb9 rfl ?_
   refine zw ?_
   refine Ops.v rfl (Y12 un_3 Ycv rfl rfl) ?_
   refine Ops.v rfl (Yz rfl rfl rfl rfl) ?_
   refine Ops.v rfl (Y12 Ycv un_3 rfl rfl) ?_
   refine zw ?_
   refine oi h fun e10 g11 h => ?_
   refine zw ?_
   refine ob' h fun r12 g13 h => ?_
   refine Ops.h (ns := []) rfl rfl (Y26 (cs := [_, _]) rfl rfl ((Z90 _ _).h _ g13) rfl rfl) ?_
   rintro _ _ ⟨_, ⟨rfl, rfl⟩, rfl⟩
   exact go
  exact go
 intro x15 h
 replace h : Z92 p0 p1 x15 = some r := h
 unfold Z92 at h
 refine AW.seq ?_
 refine AW.cut (τ := Bool) (fun x21 => ⟨[(6, C.int x15), (7, C.bool x21)], []⟩) (fun x21 => Z91 x15 x21 = some r) ?_ ?_
 ·
  refine zw ?_
  refine cnd h (fun hb16 h => ?_) fun hb16 h => ?_
  ·
   refine zw ?_
   refine ob' h fun e17 g18 h => ?_
   refine zw ?_
   refine ob' h fun r19 g20 h => ?_
   refine Ops.gh (ns := []) rfl rfl rfl rfl hb16 rfl (Y26 (cs := [_, _]) rfl rfl ((Z90 _ _).h _ g20) rfl rfl) ?_
   rintro _ _ ⟨_, ⟨rfl, rfl⟩, rfl⟩
   exact go
  exact go
 intro x21 h
 replace h : Z91 x15 x21 = some r := h
 unfold Z91 at h
 refine AW.ret ?_
 rw [← Option.some.inj h]
 exact ⟨[C.int x15, C.bool x21], _, Y21.refl _, (.cons (.tmp rfl) (.cons (.tmp rfl) .nil)), [], _, _, rfl, ⟨rfl, rfl⟩⟩

def Z96 (p0 : List Y8w) (p1 : Int) : Option (Int × Bool) := (Z94 p0 p1).bind fun r1 => some (r1.1, r1.2)
instance Z97 (p0 : List Y8w) (p1 : Int) : Sp Tryz.prog 193 [C.im Y98 9 p0, C.int p1] (Z96 p0 p1) (fun r => C.tup [C.int r.1, C.bool r.2]) := sp Tryz.func193 rfl rfl fun r X h => by
 unfold Z96 at h
 refine zw ?_
 refine oc h fun r1 g2 h => ?_
 refine zw ?_
 refine AW.ret ?_
 rw [← Option.some.inj h]
 exact ⟨[C.int r1.1, C.bool r1.2], _, Y21.refl _, (.cons (.tmp rfl) (.cons (.tmp rfl) .nil)), [], _, _, rfl, ⟨rfl, rfl⟩⟩

def Z98 (p0 : Y90) (p1 : Int) : Option Bool := (Z96 p0.events p1).bind fun r2 => some r2.2
instance Z99 (p0 : Y90) (p1 : Int) : Sp Tryz.prog 189 [C.agg [C.int p0.room, C.im Y98 9 p0.events, C.im Y98 9 p0.parked], C.int p1] (Z98 p0 p1) C.bool := sp Tryz.func189 rfl rfl fun r X h => go

def Z9a (p0 : Int) (q0 : Y90) : Option Bool := (Z98 q0 p0).bind fun r1 => some (!r1)
theorem Z9b {b00 : Nat} (p0 : Int) (q0 : Y90) (r : Bool) (h : Z9a p0 q0 = some r) : Ok Tryz.prog 237 [C.int p0, pt b00] [Obj.box b00 139 [C.int q0.room, C.im Y98 9 q0.events, C.im Y98 9 q0.parked]] (fun c qs => c = C.bool r ∧ qs = [Obj.box b00 139 [C.int q0.room, C.im Y98 9 q0.events, C.im Y98 9 q0.parked]]) := by
 refine Ok.of_body (rs := [.tmp 3]) Tryz.func237 rfl rfl rfl rfl rfl fun X => ?_
 unfold Z9a at h
 refine zw ?_
 refine oc h fun r1 g2 h => ?_
 refine zw ?_
 refine AW.ret ?_
 rw [← Option.some.inj h]
 exact ⟨[C.bool (!r1)], _, Y21.refl _, (.cons (.tmp rfl) .nil), [0], _, _, rfl, ⟨rfl, rfl⟩⟩

def Z9c : Option Int := some (-1)
def Z9d (p0 : List Int) (p1_0 : Y90) (x7 : Int) : Option (Int ⊕ (Int ⊕ Unit)) := cond (decide (x7 < (p0.length : Int))) ((getI p0 x7).bind fun e9 => (Z9a e9 p1_0).bind fun r11 => cond r11 (some (.inr (.inl x7))) (some (.inl (IntKind.i64.wrap (x7 + 1))))) (some (.inr (.inr ())))
def Z9e (p0 : List Int) (p1_0 : Y90) : Option Int := (iter (Z9d p0 p1_0) big 0).bind (fun z15 => match z15 with | .inl y14 => some y14 | .inr () => Z9c)
set_option maxHeartbeats 1000000 in
theorem Z9f {b00 : Nat} (p0 : List Int) (p1_0 : Y90) (r : Int) (h : Z9e p0 p1_0 = some r) : Ok Tryz.prog 194 [C.im kI64 1 p0, C.clo 237 [pt b00]] [Obj.box b00 139 [C.int p1_0.room, C.im Y98 9 p1_0.events, C.im Y98 9 p1_0.parked]] (fun c qs => c = C.int r ∧ qs = [Obj.box b00 139 [C.int p1_0.room, C.im Y98 9 p1_0.events, C.im Y98 9 p1_0.parked]]) := by
 refine Ok.of_body (rs := [.tmp 4]) Tryz.func194 rfl rfl rfl rfl rfl fun X => ?_
 unfold Z9e at h
 refine AW.seq ?_
 refine AW.region ?_
 refine Ops.v rfl (Yr rfl rfl) ?_
 refine Ops.nil ?_
 refine AW.seq ?_
 refine AW.cut (τ := Unit) (fun (_ : Unit) => ⟨[], [Obj.box b00 139 [C.int p1_0.room, C.im Y98 9 p1_0.events, C.im Y98 9 p1_0.parked]]⟩) (fun (_ : Unit) => Z9c = some r) ?_ ?_
 ·
  refine zw ?_
  refine AW.lp (v := ()) h (fun x7 (_ : Unit) => ⟨[(0, C.im kI64 1 p0), (1, C.clo 237 [pt b00]), (7, C.int (p0.length : Int)), (8, C.int x7)], [Obj.box b00 139 [C.int p1_0.room, C.im Y98 9 p1_0.events, C.im Y98 9 p1_0.parked]]⟩) (gb [0]) ?_
  rintro x7 _ y21 h
  refine zw ?_
  refine cnd h (fun hb8 h => ?_) fun hb8 h => ?_
  ·
   refine AW.ct hb8 rfl ?_
   refine zw ?_
   refine oi h fun e9 g10 h => ?_
   refine zw ?_
   refine ob' h fun r11 g12 h => ?_
   refine Ops.hd (ns := [0]) rfl rfl (Y6s (cs := [_]) (ds := [_]) rfl (Z9b e9 p1_0 _ g12) rfl rfl) ?_
   refine zw ?_
   refine cnd h (fun hb13 h => ?_) fun hb13 h => ?_
   ·
    refine AW.ct hb13 rfl ?_
    refine zw ?_
    refine AW.ret ?_
    refine lx h fun h => ?_
    rw [← Option.some.inj h]
    exact ⟨[C.int x7], _, Y21.refl _, (.cons (.tmp rfl) .nil), [0], _, _, rfl, ⟨rfl, rfl⟩⟩
   exact go
  exact go
 rintro ⟨⟩ h
 replace h : Z9c = some r := h
 unfold Z9c at h
 refine zw ?_
 refine AW.ret ?_
 rw [← Option.some.inj h]
 exact ⟨[C.int (-1)], _, Y21.refl _, (.cons (.tmp rfl) .nil), [0], _, _, rfl, ⟨rfl, rfl⟩⟩

def Z9g (p0 : List Int) (p1_0 : Y90) : Option Bool := (Z9e p0 p1_0).bind fun r1 => some (decide (r1 ≥ 0))
theorem Z9h {b00 : Nat} (p0 : List Int) (p1_0 : Y90) (r : Bool) (h : Z9g p0 p1_0 = some r) : Ok Tryz.prog 140 [C.im kI64 1 p0, C.clo 237 [pt b00]] [Obj.box b00 139 [C.int p1_0.room, C.im Y98 9 p1_0.events, C.im Y98 9 p1_0.parked]] (fun c qs => c = C.bool r ∧ qs = [Obj.box b00 139 [C.int p1_0.room, C.im Y98 9 p1_0.events, C.im Y98 9 p1_0.parked]]) := by
 refine Ok.of_body (rs := [.tmp 4]) Tryz.func140 rfl rfl rfl rfl rfl fun X => ?_
 unfold Z9g at h
 refine zw ?_
 refine ob' h fun r1 g2 h => ?_
 refine Ops.hd (ns := [0]) rfl rfl (Y24 (Z9f p0 p1_0 _ g2) rfl rfl) ?_
 refine zw ?_
 refine AW.ret ?_
 rw [← Option.some.inj h]
 exact ⟨[C.bool (decide (r1 ≥ 0))], _, Y21.refl _, (.cons (.tmp rfl) .nil), [0], _, _, rfl, ⟨rfl, rfl⟩⟩

def Z9i (p0 : Y90) (p1 : Y8w) : Option Bool := (Z9g p1.prev p0).bind fun r3 => some (!r3)
instance Z9j (p0 : Y90) (p1 : Y8w) : Sp Tryz.prog 187 [C.agg [C.int p0.room, C.im Y98 9 p0.events, C.im Y98 9 p0.parked], C.agg [C.int p1.id, C.int p1.room, C.int p1.author, C.int p1.kind, C.int p1.key, C.int p1.n, C.str p1.text, C.im kI64 1 p1.prev, C.int p1.time]] (Z9i p0 p1) C.bool := sp Tryz.func187 rfl rfl fun r X h => by
 unfold Z9i at h
 refine zw ?_
 refine ox fun b1 => ?_
 refine ox fun b2 => ?_
 refine zw ?_
 refine Ops.v rfl (Y6q rfl rfl) ?_
 refine ob' h fun r3 g4 h => ?_
 refine Ops.hd (ns := [1]) rfl rfl (Y24 (Z9h p1.prev p0 _ g4) rfl rfl) ?_
 exact go

def Z9k (l140 : List Int) (x141 : Int) : Option (List Int × Bool) := some (l140, (x141 == 0))
def Z9l (x109 : Int) (l137 : List Int) (x138 : Int) (x139 : Bool) : Option ((List Int × Int × Bool × Int) ⊕ ((List Int × Int × Bool))) := some (.inl (l137, x138, x139, (IntKind.i64.wrap (x109 + 1))))
def Z9m (l106 : List Int) (x107 : Int) (x108 : Bool) (x109 : Int) (x135 : Int) : Option ((List Int × Int × Bool × Int) ⊕ ((List Int × Int × Bool))) := cond (decide (x135 > 0)) (Z9l x109 (List.set l106 (Int.toNat x109) x135) (IntKind.i64.wrap (x107 - 1)) true) (Z9l x109 l106 x107 x108)
def Z9n (p0 : Y90) (l106 : List Int) (e111 : Y8w) (x125 : Int) (x126 : Int) : Option ((Int × Int) ⊕ (Int)) := cond (decide (x126 < (e111.prev.length : Int))) ((getI e111.prev x126).bind fun e128 => (Z96 p0.events e128).bind fun r130 => (getI l106 r130.1).bind fun e132 => cond (e132 == 0) (some (.inr 0)) (some (.inl ((if (IntKind.i64.wrap (e132 + 1)) > x125 then (IntKind.i64.wrap (e132 + 1)) else x125), (IntKind.i64.wrap (x126 + 1)))))) (some (.inr x125))
def Z9o (p0 : Y90) (l106 : List Int) (x107 : Int) (x108 : Bool) (x109 : Int) : Option ((List Int × Int × Bool × Int) ⊕ ((List Int × Int × Bool))) := cond (decide (x109 < (p0.events.length : Int))) ((getI p0.events x109).bind fun e111 => (getI l106 x109).bind fun e114 => cond (decide (e114 > 0)) (Z9l x109 l106 x107 x108) ((iter (fun z143 => Z9n p0 l106 e111 z143.1 z143.2) big (1, 0)).bind fun y144 => Z9m l106 x107 x108 x109 y144)) (some (.inr (l106, x107, x108)))
def Z9p (p0 : Y90) (l70 : List Int) (x71 : Int) (x74 : Bool) : Option ((List Int × Int × Bool) ⊕ ((List Int × Int))) := cond x74 ((iter (fun z145 => Z9o p0 z145.1 z145.2.1 z145.2.2.1 z145.2.2.2) big (l70, x71, false, 0)).bind fun (y146, y147, y148) => some (.inl (y146, y147, y148))) (some (.inr (l70, x71)))
def Z9q (p0 : Y90) (l70 : List Int) (x71 : Int) (x72 : Bool) : Option ((List Int × Int × Bool) ⊕ ((List Int × Int))) := cond x72 (Z9p p0 l70 x71 (decide (x71 > 0))) (Z9p p0 l70 x71 false)
def Z9r (p0 : Y90) : Option (List Int × Bool) := (chk (decide (0 ≤ (p0.events.length : Int) ∧ (p0.events.length : Int) * 8 ≤ 140737488355328))).bind fun u3 => (iter (fun z149 => Z9q p0 z149.1 z149.2.1 z149.2.2) big ((List.replicate (Int.toNat (p0.events.length : Int)) 0), (p0.events.length : Int), true)).bind fun (y150, y151) => Z9k y150 y151
set_option maxHeartbeats 1000000 in
theorem Z9s (p0 : Y90) (r : List Int × Bool) (h : Z9r p0 = some r) : Ok Tryz.prog 190 [C.agg [C.int p0.room, C.im Y98 9 p0.events, C.im Y98 9 p0.parked]] [] (fun c qs => ∃ (v142 : Value), c = C.tup [C.val v142, C.bool r.2] ∧ qs = [Obj.arr v142 2 kI64 1 r.1]) := by
 refine Ok.of_body (rs := [.tmp 2, .tmp 3]) Tryz.func190 rfl rfl rfl rfl rfl fun X => ?_
 unfold Z9r at h
 refine zw ?_
 refine ox fun b1 => ?_
 refine zw ?_
 refine AW.regionD (L := [1, 5]) (Lt := []) (k := dec [0,4,6,12,16,18,11,21,24]) (ns := [0]) (by kernel_rfl) (by kernel_rfl) (by kernel_rfl) (by kernel_rfl) rfl ?_
 refine zw ?_
 refine ob' h fun u3 c2 h => ?_
 refine Y3n.h (ns := []) rfl rfl rfl (Y3b (k := kI64) (z := 0) Ya6 ze_2 (Y42 rfl rfl) rfl rfl (Y3x c2).1 (Y3x c2).2 (Y3y (by decide) c2) rfl) ?_
 rintro _ _ ⟨b4, rfl, rfl⟩
 refine OpsD.v rfl rfl (Yr rfl rfl) ?_
 refine OpsD.v rfl rfl (Yr rfl rfl) ?_
 refine OpsD.done ?_
 refine AW.seq ?_
 refine AW.cut (τ := List Int × Int) (fun (l140, x141) => ⟨[(4, C.val (sv b4 (Int.toNat (p0.events.length : Int)) (Int.toNat (p0.events.length : Int)))), (5, C.int x141)], [Obj.arr (sv b4 (Int.toNat (p0.events.length : Int)) (Int.toNat (p0.events.length : Int))) 2 kI64 1 l140]⟩) (fun (l140, x141) => Z9k l140 x141 = some r) ?_ ?_
 ·
  refine zw ?_
  refine AW.lp (v := ()) h (fun (l70, x71, x72) (_ : Unit) => ⟨[(1, pt b1), (4, C.val (sv b4 (Int.toNat (p0.events.length : Int)) (Int.toNat (p0.events.length : Int)))), (5, C.int x71), (6, C.bool x72)], [Obj.box b1 139 [C.int p0.room, C.im Y98 9 p0.events, C.im Y98 9 p0.parked], Obj.arr (sv b4 (Int.toNat (p0.events.length : Int)) (Int.toNat (p0.events.length : Int))) 2 kI64 1 l70]⟩) (gb [0, 0]) ?_
  rintro ⟨l70, x71, x72⟩ _ y157 h
  refine AW.seq ?_
  refine AW.seq ?_
  refine AW.cut (τ := Bool) (fun x74 => ⟨[(1, pt b1), (4, C.val (sv b4 (Int.toNat (p0.events.length : Int)) (Int.toNat (p0.events.length : Int)))), (5, C.int x71), (25, C.bool x74)], [Obj.box b1 139 [C.int p0.room, C.im Y98 9 p0.events, C.im Y98 9 p0.parked], Obj.arr (sv b4 (Int.toNat (p0.events.length : Int)) (Int.toNat (p0.events.length : Int))) 2 kI64 1 l70]⟩) (fun x74 => Z9p p0 l70 x71 x74 = some y157) go fun x74 h => ?_
  replace h : Z9p p0 l70 x71 x74 = some y157 := h
  unfold Z9p at h
  refine cnd h (fun hb75 h => ?_) fun hb75 h => ?_
  ·
   refine AW.ct hb75 rfl ?_
   refine zw ?_
   refine AW.lp (v := ()) h (fun (l106, x107, x108, x109) (_ : Unit) => ⟨[(1, pt b1), (4, C.val (sv b4 (Int.toNat (p0.events.length : Int)) (Int.toNat (p0.events.length : Int)))), (5, C.int x107), (6, C.bool x108), (27, C.im Y98 9 p0.events), (28, C.int (p0.events.length : Int)), (29, C.int x109)], [Obj.box b1 139 [C.int p0.room, C.im Y98 9 p0.events, C.im Y98 9 p0.parked], Obj.arr (sv b4 (Int.toNat (p0.events.length : Int)) (Int.toNat (p0.events.length : Int))) 2 kI64 1 l106]⟩) (gb [0, 0]) ?_
   rintro ⟨l106, x107, x108, x109⟩ _ y164 h
   refine zw ?_
   refine cnd h (fun hb110 h => ?_) fun hb110 h => ?_
   ·
    refine AW.ct hb110 rfl ?_
    refine zw ?_
    refine oi h fun e111 g112 h => ?_
    refine zw ?_
    refine Ops.h (ns := []) rfl rfl (Y1p (cs := [C.int 0, C.int 0, C.int 0, C.int 0, C.int 0, C.int 0, C.str ByteArray.empty, C.val s0, C.int 0]) Ya7 (Y42 rfl rfl) rfl) ?_
    rintro _ _ ⟨b113, rfl, rfl⟩
    refine zw ?_
    refine Ops.hd (ns := [0]) rfl rfl (Y1u (gs := [C.int e111.id, C.int e111.room, C.int e111.author, C.int e111.kind, C.int e111.key, C.int e111.n, C.str e111.text, C.im kI64 1 e111.prev, C.int e111.time]) Yao.h rfl rfl rfl rfl rfl) ?_
    refine zw ?_
    refine ob' h fun e114 g115 h => ?_
    refine Ops.v rfl (Y2x (p := 2) Y9p.h rfl rfl rfl g115 rfl) ?_
    refine Ops.v rfl (Y30 (p := 2) ld_2.h rfl rfl (Y29 g115).2.2 rfl rfl) ?_
    refine zw ?_
    refine cnd h (fun hb116 h => go) fun hb116 h => ?_
    refine AW.cf hb116 rfl ?_
    refine AW.skip ?_
    refine AW.seq ?_
    refine AW.region ?_
    refine Ops.v rfl (Yr rfl rfl) ?_
    refine Ops.nil ?_
    refine AW.seq ?_
    refine AW.cut (τ := Int) (fun x135 => ⟨[(1, pt b1), (4, C.val (sv b4 (Int.toNat (p0.events.length : Int)) (Int.toNat (p0.events.length : Int)))), (5, C.int x107), (6, C.bool x108), (7, C.int x109), (9, C.int x135), (27, C.im Y98 9 p0.events), (28, C.int (p0.events.length : Int)), (29, C.int x109)], [Obj.box b1 139 [C.int p0.room, C.im Y98 9 p0.events, C.im Y98 9 p0.parked], Obj.arr (sv b4 (Int.toNat (p0.events.length : Int)) (Int.toNat (p0.events.length : Int))) 2 kI64 1 l106]⟩) (fun x135 => Z9m l106 x107 x108 x109 x135 = some y164) ?_ ?_
    ·
     refine zw ?_
     refine AW.lp (v := ()) h (fun (x125, x126) (_ : Unit) => ⟨[(1, pt b1), (4, C.val (sv b4 (Int.toNat (p0.events.length : Int)) (Int.toNat (p0.events.length : Int)))), (5, C.int x107), (6, C.bool x108), (7, C.int x109), (9, C.int x125), (27, C.im Y98 9 p0.events), (28, C.int (p0.events.length : Int)), (29, C.int x109), (40, C.im kI64 1 e111.prev), (41, C.int (e111.prev.length : Int)), (42, C.int x126)], [Obj.box b1 139 [C.int p0.room, C.im Y98 9 p0.events, C.im Y98 9 p0.parked], Obj.arr (sv b4 (Int.toNat (p0.events.length : Int)) (Int.toNat (p0.events.length : Int))) 2 kI64 1 l106]⟩) (gb [1, 1]) ?_
     rintro ⟨x125, x126⟩ _ y171 h
     refine zw ?_
     refine cnd h (fun hb127 h => ?_) fun hb127 h => ?_
     ·
      refine AW.ct hb127 rfl ?_
      refine zw ?_
      refine oi h fun e128 g129 h => ?_
      refine zw ?_
      refine oc h fun r130 g131 h => ?_
      refine zw ?_
      refine ob' h fun e132 g133 h => ?_
      refine Ops.v rfl (Y2x (p := 1) Y9p.h rfl rfl rfl g133 rfl) ?_
      refine Ops.v rfl (Y30 (p := 1) ld_2.h rfl rfl (Y29 g133).2.2 rfl rfl) ?_
      refine zw ?_
      refine cnd h (fun hb134 h => go) fun hb134 h => ?_
      refine AW.cf hb134 rfl ?_
      refine AW.skip ?_
      refine AW.region ?_
      refine Ops.v rfl (Yq rfl rfl) ?_
      refine Ops.v rfl (Yq rfl rfl) ?_
      refine Ops.v rfl (Yq rfl rfl) ?_
      refine Ops.v rfl (Y2x (p := 1) Y9p.h rfl rfl rfl g133 rfl) ?_
      refine Ops.v rfl (Y30 (p := 1) ld_2.h rfl rfl (Y29 g133).2.2 rfl rfl) ?_
      refine zw ?_
      refine Ops.v rfl (Y2f rfl rfl rfl) ?_
      exact go
     exact go
    intro x135 h
    replace h : Z9m l106 x107 x108 x109 x135 = some y164 := h
    unfold Z9m at h
    refine zw ?_
    refine cnd h (fun hb136 h => ?_) fun hb136 h => ?_
    ·
     refine AW.ct hb136 rfl ?_
     refine AW.region ?_
     refine Ops.v rfl (Yq rfl rfl) ?_
     refine Ops.v rfl (Yq rfl rfl) ?_
     refine Ops.v rfl (Yq rfl rfl) ?_
     refine Ops.v rfl (Yq rfl rfl) ?_
     refine Ops.v rfl (Yv rfl rfl rfl rfl) ?_
     refine Ops.v rfl (Y2x (p := 1) Y9p.h rfl rfl rfl g115 rfl) ?_
     refine Ops.hd (ns := [1]) rfl rfl (Y33 (e' := x135) ld_2.h rfl rfl (One.val rfl) (Y29 g115).2.2 rfl rfl) ?_
     exact go
    exact go
   exact go
  exact go
 rintro ⟨l140, x141⟩ h
 replace h : Z9k l140 x141 = some r := h
 unfold Z9k at h
 refine zw ?_
 refine AW.ret ?_
 rw [← Option.some.inj h]
 exact ⟨[C.val (sv b4 (Int.toNat (p0.events.length : Int)) (Int.toNat (p0.events.length : Int))), C.bool (x141 == 0)], _, Y21.refl _, (.cons (.tmp rfl) (.cons (.tmp rfl) .nil)), [0], _, _, rfl, ⟨(sv b4 (Int.toNat (p0.events.length : Int)) (Int.toNat (p0.events.length : Int))), rfl, rfl⟩⟩
instance Z9s' (p0 : Y90) : Sp Tryz.prog 190 [C.agg [C.int p0.room, C.im Y98 9 p0.events, C.im Y98 9 p0.parked]] (Z9r p0) (fun r => C.tup [C.im kI64 1 r.1, C.bool r.2]) := ⟨fun r h => Ok.freeze (Z9s p0 r h) (by rintro c qs ⟨v142, rfl, rfl⟩; exact Frz.tup (FrzT.cons (os := [_]) (Frz.arr) (FrzT.cons (os := []) (Frz.same _) (FrzT.nil))))⟩

def Z9t (p0 : Y8w) (q0 : Y90) : Option Bool := (Z9i q0 p0).bind fun r2 => some (!r2)
theorem Z9u {b00 : Nat} (p0 : Y8w) (q0 : Y90) (r : Bool) (h : Z9t p0 q0 = some r) : Ok Tryz.prog 186 [C.agg [C.int p0.id, C.int p0.room, C.int p0.author, C.int p0.kind, C.int p0.key, C.int p0.n, C.str p0.text, C.im kI64 1 p0.prev, C.int p0.time], pt b00] [Obj.box b00 139 [C.int q0.room, C.im Y98 9 q0.events, C.im Y98 9 q0.parked]] (fun c qs => c = C.bool r ∧ qs = [Obj.box b00 139 [C.int q0.room, C.im Y98 9 q0.events, C.im Y98 9 q0.parked]]) := by
 refine Ok.of_body (rs := [.tmp 3]) Tryz.func186 rfl rfl rfl rfl rfl fun X => ?_
 unfold Z9t at h
 refine zw ?_
 refine ox fun b1 => ?_
 refine zw ?_
 refine oc h fun r2 g3 h => ?_
 refine zw ?_
 refine AW.ret ?_
 rw [← Option.some.inj h]
 exact ⟨[C.bool (!r2)], _, Y21.refl _, (.cons (.tmp rfl) .nil), [1], _, _, rfl, ⟨rfl, rfl⟩⟩

def Z9v : Option Int := some (-1)
def Z9w (p0 : List Y8w) (p1_0 : Y90) (x7 : Int) : Option (Int ⊕ (Int ⊕ Unit)) := cond (decide (x7 < (p0.length : Int))) ((getI p0 x7).bind fun e9 => (Z9t e9 p1_0).bind fun r11 => cond r11 (some (.inr (.inl x7))) (some (.inl (IntKind.i64.wrap (x7 + 1))))) (some (.inr (.inr ())))
def Z9x (p0 : List Y8w) (p1_0 : Y90) : Option Int := (iter (Z9w p0 p1_0) big 0).bind (fun z15 => match z15 with | .inl y14 => some y14 | .inr () => Z9v)
set_option maxHeartbeats 1000000 in
theorem Z9y {b00 : Nat} (p0 : List Y8w) (p1_0 : Y90) (r : Int) (h : Z9x p0 p1_0 = some r) : Ok Tryz.prog 236 [C.im Y98 9 p0, C.clo 186 [pt b00]] [Obj.box b00 139 [C.int p1_0.room, C.im Y98 9 p1_0.events, C.im Y98 9 p1_0.parked]] (fun c qs => c = C.int r ∧ qs = [Obj.box b00 139 [C.int p1_0.room, C.im Y98 9 p1_0.events, C.im Y98 9 p1_0.parked]]) := by
 refine Ok.of_body (rs := [.tmp 4]) Tryz.func236 rfl rfl rfl rfl rfl fun X => ?_
 unfold Z9x at h
 refine AW.seq ?_
 refine AW.region ?_
 refine Ops.v rfl (Yr rfl rfl) ?_
 refine Ops.nil ?_
 refine AW.seq ?_
 refine AW.cut (τ := Unit) (fun (_ : Unit) => ⟨[], [Obj.box b00 139 [C.int p1_0.room, C.im Y98 9 p1_0.events, C.im Y98 9 p1_0.parked]]⟩) (fun (_ : Unit) => Z9v = some r) ?_ ?_
 ·
  refine zw ?_
  refine AW.lp (v := ()) h (fun x7 (_ : Unit) => ⟨[(0, C.im Y98 9 p0), (1, C.clo 186 [pt b00]), (7, C.int (p0.length : Int)), (8, C.int x7)], [Obj.box b00 139 [C.int p1_0.room, C.im Y98 9 p1_0.events, C.im Y98 9 p1_0.parked]]⟩) (gb [0]) ?_
  rintro x7 _ y21 h
  refine zw ?_
  refine cnd h (fun hb8 h => ?_) fun hb8 h => ?_
  ·
   refine AW.ct hb8 rfl ?_
   refine zw ?_
   refine oi h fun e9 g10 h => ?_
   refine zw ?_
   refine ob' h fun r11 g12 h => ?_
   refine Ops.hd (ns := [0]) rfl rfl (Y6s (cs := [_]) (ds := [_]) rfl (Z9u e9 p1_0 _ g12) rfl rfl) ?_
   refine zw ?_
   refine cnd h (fun hb13 h => ?_) fun hb13 h => ?_
   ·
    refine AW.ct hb13 rfl ?_
    refine zw ?_
    refine AW.ret ?_
    refine lx h fun h => ?_
    rw [← Option.some.inj h]
    exact ⟨[C.int x7], _, Y21.refl _, (.cons (.tmp rfl) .nil), [0], _, _, rfl, ⟨rfl, rfl⟩⟩
   exact go
  exact go
 rintro ⟨⟩ h
 replace h : Z9v = some r := h
 unfold Z9v at h
 refine zw ?_
 refine AW.ret ?_
 rw [← Option.some.inj h]
 exact ⟨[C.int (-1)], _, Y21.refl _, (.cons (.tmp rfl) .nil), [0], _, _, rfl, ⟨rfl, rfl⟩⟩

def Z9z (p0 : List Y8w) (p1_0 : Y90) : Option Bool := (Z9x p0 p1_0).bind fun r1 => some (decide (r1 ≥ 0))
theorem Za0 {b00 : Nat} (p0 : List Y8w) (p1_0 : Y90) (r : Bool) (h : Z9z p0 p1_0 = some r) : Ok Tryz.prog 185 [C.im Y98 9 p0, C.clo 186 [pt b00]] [Obj.box b00 139 [C.int p1_0.room, C.im Y98 9 p1_0.events, C.im Y98 9 p1_0.parked]] (fun c qs => c = C.bool r ∧ qs = [Obj.box b00 139 [C.int p1_0.room, C.im Y98 9 p1_0.events, C.im Y98 9 p1_0.parked]]) := by
 refine Ok.of_body (rs := [.tmp 4]) Tryz.func185 rfl rfl rfl rfl rfl fun X => ?_
 unfold Z9z at h
 refine zw ?_
 refine ob' h fun r1 g2 h => ?_
 refine Ops.hd (ns := [0]) rfl rfl (Y24 (Z9y p0 p1_0 _ g2) rfl rfl) ?_
 refine zw ?_
 refine AW.ret ?_
 rw [← Option.some.inj h]
 exact ⟨[C.bool (decide (r1 ≥ 0))], _, Y21.refl _, (.cons (.tmp rfl) .nil), [0], _, _, rfl, ⟨rfl, rfl⟩⟩

def Za1 (x7 : Bool) : Option Bool := some x7
def Za2 (p0 : Y8w) (q0 : Y90) : Option Bool := (Z98 q0 p0.id).bind fun r2 => cond r2 (Za1 true) ((Z9i q0 p0).bind fun r5 => Za1 r5)
theorem Za3 {b00 : Nat} (p0 : Y8w) (q0 : Y90) (r : Bool) (h : Za2 p0 q0 = some r) : Ok Tryz.prog 188 [C.agg [C.int p0.id, C.int p0.room, C.int p0.author, C.int p0.kind, C.int p0.key, C.int p0.n, C.str p0.text, C.im kI64 1 p0.prev, C.int p0.time], pt b00] [Obj.box b00 139 [C.int q0.room, C.im Y98 9 q0.events, C.im Y98 9 q0.parked]] (fun c qs => c = C.bool r ∧ qs = [Obj.box b00 139 [C.int q0.room, C.im Y98 9 q0.events, C.im Y98 9 q0.parked]]) := by
 refine Ok.of_body (rs := [.tmp 3]) Tryz.func188 rfl rfl rfl rfl rfl fun X => ?_
 unfold Za2 at h
 refine zw ?_
 refine ox fun b1 => ?_
 refine Ops.v rfl (Yr rfl rfl) ?_
 refine Ops.nil ?_
 refine AW.seq ?_
 refine AW.cut (τ := Bool) (fun x7 => ⟨[(3, C.bool x7)], [Obj.box b00 139 [C.int q0.room, C.im Y98 9 q0.events, C.im Y98 9 q0.parked]]⟩) (fun x7 => Za1 x7 = some r) ?_ ?_
 ·
  refine zw ?_
  refine oc h fun r2 g3 h => ?_
  refine zw ?_
  refine cnd h (fun hb4 h => go) fun hb4 h => ?_
  refine zw ?_
  refine ob' h fun r5 g6 h => ?_
  refine Ops.ghd (ns := []) rfl rfl rfl rfl hb4 rfl (Y24 ((Z9j _ _).h _ g6) rfl rfl) ?_
  exact go
 intro x7 h
 replace h : Za1 x7 = some r := h
 unfold Za1 at h
 refine AW.ret ?_
 rw [← Option.some.inj h]
 exact ⟨[C.bool x7], _, Y21.refl _, (.cons (.tmp rfl) .nil), [0], _, _, rfl, ⟨rfl, rfl⟩⟩

def Za4 : Option Int := some (-1)
def Za5 (p0 : List Y8w) (p1_0 : Y90) (x7 : Int) : Option (Int ⊕ (Int ⊕ Unit)) := cond (decide (x7 < (p0.length : Int))) ((getI p0 x7).bind fun e9 => (Za2 e9 p1_0).bind fun r11 => cond r11 (some (.inr (.inl x7))) (some (.inl (IntKind.i64.wrap (x7 + 1))))) (some (.inr (.inr ())))
def Za6 (p0 : List Y8w) (p1_0 : Y90) : Option Int := (iter (Za5 p0 p1_0) big 0).bind (fun z15 => match z15 with | .inl y14 => some y14 | .inr () => Za4)
set_option maxHeartbeats 1000000 in
theorem Za7 {b00 : Nat} (p0 : List Y8w) (p1_0 : Y90) (r : Int) (h : Za6 p0 p1_0 = some r) : Ok Tryz.prog 236 [C.im Y98 9 p0, C.clo 188 [pt b00]] [Obj.box b00 139 [C.int p1_0.room, C.im Y98 9 p1_0.events, C.im Y98 9 p1_0.parked]] (fun c qs => c = C.int r ∧ qs = [Obj.box b00 139 [C.int p1_0.room, C.im Y98 9 p1_0.events, C.im Y98 9 p1_0.parked]]) := by
 refine Ok.of_body (rs := [.tmp 4]) Tryz.func236 rfl rfl rfl rfl rfl fun X => ?_
 unfold Za6 at h
 refine AW.seq ?_
 refine AW.region ?_
 refine Ops.v rfl (Yr rfl rfl) ?_
 refine Ops.nil ?_
 refine AW.seq ?_
 refine AW.cut (τ := Unit) (fun (_ : Unit) => ⟨[], [Obj.box b00 139 [C.int p1_0.room, C.im Y98 9 p1_0.events, C.im Y98 9 p1_0.parked]]⟩) (fun (_ : Unit) => Za4 = some r) ?_ ?_
 ·
  refine zw ?_
  refine AW.lp (v := ()) h (fun x7 (_ : Unit) => ⟨[(0, C.im Y98 9 p0), (1, C.clo 188 [pt b00]), (7, C.int (p0.length : Int)), (8, C.int x7)], [Obj.box b00 139 [C.int p1_0.room, C.im Y98 9 p1_0.events, C.im Y98 9 p1_0.parked]]⟩) (gb [0]) ?_
  rintro x7 _ y21 h
  refine zw ?_
  refine cnd h (fun hb8 h => ?_) fun hb8 h => ?_
  ·
   refine AW.ct hb8 rfl ?_
   refine zw ?_
   refine oi h fun e9 g10 h => ?_
   refine zw ?_
   refine ob' h fun r11 g12 h => ?_
   refine Ops.hd (ns := [0]) rfl rfl (Y6s (cs := [_]) (ds := [_]) rfl (Za3 e9 p1_0 _ g12) rfl rfl) ?_
   refine zw ?_
   refine cnd h (fun hb13 h => ?_) fun hb13 h => ?_
   ·
    refine AW.ct hb13 rfl ?_
    refine zw ?_
    refine AW.ret ?_
    refine lx h fun h => ?_
    rw [← Option.some.inj h]
    exact ⟨[C.int x7], _, Y21.refl _, (.cons (.tmp rfl) .nil), [0], _, _, rfl, ⟨rfl, rfl⟩⟩
   exact go
  exact go
 rintro ⟨⟩ h
 replace h : Za4 = some r := h
 unfold Za4 at h
 refine zw ?_
 refine AW.ret ?_
 rw [← Option.some.inj h]
 exact ⟨[C.int (-1)], _, Y21.refl _, (.cons (.tmp rfl) .nil), [0], _, _, rfl, ⟨rfl, rfl⟩⟩

def Za8 (p0 : List Y8w) (p1_0 : Y90) : Option Bool := (Za6 p0 p1_0).bind fun r1 => some (decide (r1 ≥ 0))
theorem Za9 {b00 : Nat} (p0 : List Y8w) (p1_0 : Y90) (r : Bool) (h : Za8 p0 p1_0 = some r) : Ok Tryz.prog 185 [C.im Y98 9 p0, C.clo 188 [pt b00]] [Obj.box b00 139 [C.int p1_0.room, C.im Y98 9 p1_0.events, C.im Y98 9 p1_0.parked]] (fun c qs => c = C.bool r ∧ qs = [Obj.box b00 139 [C.int p1_0.room, C.im Y98 9 p1_0.events, C.im Y98 9 p1_0.parked]]) := by
 refine Ok.of_body (rs := [.tmp 4]) Tryz.func185 rfl rfl rfl rfl rfl fun X => ?_
 unfold Za8 at h
 refine zw ?_
 refine ob' h fun r1 g2 h => ?_
 refine Ops.hd (ns := [0]) rfl rfl (Y24 (Za7 p0 p1_0 _ g2) rfl rfl) ?_
 refine zw ?_
 refine AW.ret ?_
 rw [← Option.some.inj h]
 exact ⟨[C.bool (decide (r1 ≥ 0))], _, Y21.refl _, (.cons (.tmp rfl) .nil), [0], _, _, rfl, ⟨rfl, rfl⟩⟩

def Zaa (p0 : Y90) (x12 : Bool) : Option Bool := cond x12 (some false) ((Z9z p0.events p0).bind fun r14 => cond r14 (some false) ((Za8 p0.parked p0).bind fun r17 => cond r17 (some false) ((Z9r p0).bind fun r20 => some r20.2)))
def Zab (p0 : Y90) : Option Bool := (Z7r p0.room).bind fun r2 => cond r2 (cond (decide ((p0.events.length : Int) > 60)) (Zaa p0 true) (cond (decide ((p0.parked.length : Int) > 20)) (Zaa p0 true) ((Z8t p0 p0.events).bind fun r7 => cond r7 ((Z8t p0 p0.parked).bind fun r10 => Zaa p0 (!r10)) (Zaa p0 true)))) (Zaa p0 true)
set_option maxHeartbeats 1000000 in
instance Zac (p0 : Y90) : Sp Tryz.prog 135 [C.agg [C.int p0.room, C.im Y98 9 p0.events, C.im Y98 9 p0.parked]] (Zab p0) C.bool := sp Tryz.func135 rfl rfl fun r X h => by
 unfold Zab at h
 refine zw ?_
 refine ox fun b1 => ?_
 refine Ops.v rfl (Yr rfl rfl) ?_
 refine Ops.nil ?_
 refine AW.seq ?_
 refine AW.seq ?_
 refine AW.cut (τ := Bool) (fun x12 => ⟨[(1, pt b1), (34, C.bool x12)], [Obj.box b1 139 [C.int p0.room, C.im Y98 9 p0.events, C.im Y98 9 p0.parked]]⟩) (fun x12 => Zaa p0 x12 = some r) ?_ ?_
 ·
  refine zw ?_
  refine oc h fun r2 g3 h => ?_
  refine zw ?_
  refine cnd h (fun hb4 h => ?_) fun hb4 h => ?_
  ·
   refine zw ?_
   refine cnd h (fun hb5 h => go) fun hb5 h => ?_
   refine zw ?_
   refine cnd h (fun hb6 h => go) fun hb6 h => ?_
   refine zw ?_
   refine ob' h fun r7 g8 h => ?_
   refine Ops.ghd (ns := []) rfl rfl rfl rfl hb6 rfl (Y24 ((Z8u _ _).h _ g8) rfl rfl) ?_
   refine zw ?_
   refine cnd h (fun hb9 h => ?_) fun hb9 h => ?_
   ·
    refine zw ?_
    refine ob' h fun r10 g11 h => ?_
    refine Ops.ghd (ns := []) rfl rfl rfl rfl (Y3u hb9) rfl (Y24 ((Z8u _ _).h _ g11) rfl rfl) ?_
    exact go
   exact go
  exact go
 intro x12 h
 replace h : Zaa p0 x12 = some r := h
 unfold Zaa at h
 refine cnd h (fun hb13 h => go) fun hb13 h => ?_
 refine AW.cf hb13 rfl ?_
 refine zw ?_
 refine Ops.v rfl (Y6q rfl rfl) ?_
 refine ob' h fun r14 g15 h => ?_
 refine Ops.hd (ns := [0]) rfl rfl (Y24 (Za0 p0.events p0 _ g15) rfl rfl) ?_
 refine zw ?_
 refine cnd h (fun hb16 h => go) fun hb16 h => ?_
 refine AW.cf hb16 rfl ?_
 refine zw ?_
 refine Ops.v rfl (Y6q rfl rfl) ?_
 refine ob' h fun r17 g18 h => ?_
 refine Ops.hd (ns := [0]) rfl rfl (Y24 (Za9 p0.parked p0 _ g18) rfl rfl) ?_
 exact go

def Zad (p0 : Int) (p1 : Int) (q0 : List Int) : Option Int := (getI q0 p0).bind fun e1 => (getI q0 p1).bind fun e3 => (Z8x e1 e3).bind fun r5 => some r5
theorem Zae {b00 : Nat} (p0 : Int) (p1 : Int) (q0 : List Int) (r : Int) (h : Zad p0 p1 q0 = some r) : Ok Tryz.prog 239 [C.int p0, C.int p1, pt b00] [Obj.box b00 57 [C.im kI64 1 q0]] (fun c qs => c = C.int r ∧ qs = [Obj.box b00 57 [C.im kI64 1 q0]]) := by
 refine Ok.of_body (rs := [.tmp 5]) Tryz.func239 rfl rfl rfl rfl rfl fun X => ?_
 unfold Zad at h
 refine zw ?_
 refine AW.regionD (L := [0, 3, 4, 7]) (Lt := []) (k := dec [1,3,6,10,13,15,18,22,26,27]) (ns := [0]) (by kernel_rfl) (by kernel_rfl) (by kernel_rfl) (by kernel_rfl) rfl ?_
 refine zw ?_
 refine di h fun e1 g2 h => ?_
 refine zw ?_
 refine di h fun e3 g4 h => ?_
 refine zw ?_
 refine dc h fun r5 g6 h => ?_
 refine zw ?_
 refine AW.ret ?_
 rw [← Option.some.inj h]
 exact ⟨[C.int r5], _, Y21.refl _, (.cons (.tmp rfl) .nil), [0], _, _, rfl, ⟨rfl, rfl⟩⟩

def Zaf (x62 : Int) (l122 : List Int) : Option ((List Int × Int) ⊕ ((List Int))) := some (.inl (l122, (IntKind.i64.wrap (x62 + 1))))
def Zag (l92 : List Int) (x93 : Int) (x110 : Bool) : Option ((List Int × Int) ⊕ ((List Int))) := cond x110 ((getI l92 (IntKind.i64.wrap (x93 - 1))).bind fun e112 => (getI l92 x93).bind fun e114 => (getI (List.set l92 (Int.toNat x93) e112) (IntKind.i64.wrap (x93 - 1))).bind fun e120 => some (.inl ((List.set (List.set l92 (Int.toNat x93) e112) (Int.toNat (IntKind.i64.wrap (x93 - 1))) e114), (IntKind.i64.wrap (x93 - 1))))) (some (.inr l92))
def Zah (p1 : Int) (p3_0 : List Int) (l92 : List Int) (x93 : Int) : Option ((List Int × Int) ⊕ ((List Int))) := cond (decide (x93 > p1)) ((getI l92 x93).bind fun e104 => (getI l92 (IntKind.i64.wrap (x93 - 1))).bind fun e106 => (Zad e104 e106 p3_0).bind fun r108 => Zag l92 x93 (decide (r108 < 0))) (Zag l92 x93 false)
def Zai (p1 : Int) (p2 : Int) (p3_0 : List Int) (l61 : List Int) (x62 : Int) : Option ((List Int × Int) ⊕ ((List Int))) := cond (decide (x62 < p2)) ((iter (fun z123 => Zah p1 p3_0 z123.1 z123.2) big (l61, x62)).bind fun y124 => Zaf x62 y124) (some (.inr l61))
def Zaj (p0 : List Int) (p1 : Int) (p2 : Int) (p3_0 : List Int) : Option (List Int) := (iter (fun z125 => Zai p1 p2 p3_0 z125.1 z125.2) big (p0, (IntKind.i64.wrap (p1 + 1)))).bind fun y126 => some y126
set_option maxHeartbeats 1000000 in
theorem Zak {w00 : Value} {b01 : Nat} (p0 : List Int) (p1 : Int) (p2 : Int) (p3_0 : List Int) (r : List Int) (h : Zaj p0 p1 p2 p3_0 = some r) : Ok Tryz.prog 305 [C.val w00, C.int p1, C.int p2, C.clo 239 [pt b01]] [Obj.arr w00 3 kI64 1 p0, Obj.box b01 57 [C.im kI64 1 p3_0]] (fun c qs => c = C.tup [] ∧ qs = [Obj.arr w00 3 kI64 1 r, Obj.box b01 57 [C.im kI64 1 p3_0]]) := by
 refine Ok.of_body (rs := []) Tryz.func305 rfl rfl rfl rfl rfl fun X => ?_
 unfold Zaj at h
 refine zw ?_
 refine AW.lp (v := ()) h (fun (l61, x62) (_ : Unit) => ⟨[(0, C.val w00), (1, C.int p1), (2, C.int p2), (3, C.clo 239 [pt b01]), (8, C.int x62)], [Obj.arr w00 3 kI64 1 l61, Obj.box b01 57 [C.im kI64 1 p3_0]]⟩) (gb [0, 0]) ?_
 rintro ⟨l61, x62⟩ _ y132 h
 refine zw ?_
 refine cnd h (fun hb63 h => ?_) fun hb63 h => ?_
 ·
  refine AW.ct hb63 rfl ?_
  refine zw ?_
  refine AW.lp (v := ()) h (fun (l92, x93) (_ : Unit) => ⟨[(0, C.val w00), (1, C.int p1), (2, C.int p2), (3, C.clo 239 [pt b01]), (8, C.int x62), (9, C.int x93)], [Obj.arr w00 3 kI64 1 l92, Obj.box b01 57 [C.im kI64 1 p3_0]]⟩) (gb [0, 0]) ?_
  rintro ⟨l92, x93⟩ _ y139 h
  refine AW.seq ?_
  refine AW.seq ?_
  refine AW.cut (τ := Bool) (fun x110 => ⟨[(0, C.val w00), (1, C.int p1), (2, C.int p2), (3, C.clo 239 [pt b01]), (8, C.int x62), (9, C.int x93), (34, C.bool x110)], [Obj.arr w00 3 kI64 1 l92, Obj.box b01 57 [C.im kI64 1 p3_0]]⟩) (fun x110 => Zag l92 x93 x110 = some y139) ?_ ?_
  ·
   refine AW.regionD (L := [8, 13]) (Lt := []) (k := dec [0,3,6,9,12,15,18,21,25,27,30,33,36,40,44,45,48]) (ns := [0]) (by kernel_rfl) (by kernel_rfl) (by kernel_rfl) (by kernel_rfl) rfl ?_
   refine zw ?_
   refine cnd h (fun hb103 h => ?_) fun hb103 h => ?_
   ·
    refine zw ?_
    refine ob' h fun e104 g105 h => ?_
    refine OpsD.gv rfl rfl rfl rfl rfl hb103 (Y2x (p := 0) Ycy.h rfl rfl rfl g105 rfl) ?_
    refine OpsD.gv rfl rfl rfl rfl rfl hb103 (Y30 (p := 0) ld_3.h rfl rfl (Y29 g105).2.2 rfl rfl) ?_
    refine zw ?_
    refine ob' h fun e106 g107 h => ?_
    refine OpsD.gv rfl rfl rfl rfl rfl hb103 (Y2x (p := 0) Ycy.h rfl rfl rfl g107 rfl) ?_
    refine OpsD.gv rfl rfl rfl rfl rfl hb103 (Y30 (p := 0) ld_3.h rfl rfl (Y29 g107).2.2 rfl rfl) ?_
    refine zw ?_
    refine ob' h fun r108 g109 h => ?_
    refine Y3n.gh (ns := [0]) rfl rfl rfl rfl rfl hb103 rfl (Y6s (cs := [_, _]) (ds := [_]) rfl (Zae e104 e106 p3_0 _ g109) rfl rfl) ?_
    rintro _ _ ⟨rfl, rfl⟩
    exact go
   refine OpsD.gs rfl rfl rfl rfl (.b rfl hb103) rfl rfl ?_
   refine OpsD.gs rfl rfl rfl rfl (.b rfl hb103) rfl rfl ?_
   refine OpsD.gs rfl rfl rfl rfl (.b rfl hb103) rfl rfl ?_
   refine OpsD.gs rfl rfl rfl rfl (.b rfl hb103) rfl rfl ?_
   refine OpsD.gs rfl rfl rfl rfl (.b rfl hb103) rfl rfl ?_
   refine OpsD.gs rfl rfl rfl rfl (.b rfl hb103) rfl rfl ?_
   refine OpsD.gs rfl rfl rfl rfl (.b rfl hb103) rfl rfl ?_
   refine OpsD.gs rfl rfl rfl rfl (.b rfl hb103) rfl rfl ?_
   refine OpsD.gs rfl rfl rfl rfl (.b rfl hb103) rfl rfl ?_
   refine OpsD.gs rfl rfl rfl rfl (.b rfl hb103) rfl rfl ?_
   refine OpsD.one ?_
   refine Y3n.gs rfl rfl rfl rfl (.b rfl hb103) rfl rfl ?_
   exact go
  intro x110 h
  replace h : Zag l92 x93 x110 = some y139 := h
  unfold Zag at h
  refine cnd h (fun hb111 h => ?_) fun hb111 h => ?_
  ·
   refine AW.ct hb111 rfl ?_
   refine zw ?_
   refine AW.regionD (L := [9, 13]) (Lt := [15, 17]) (k := .light 0 false (.light 1 false (.light 2 false (.light 3 false (.light 4 false (.light 5 false (.light 6 false (.light 7 false (.light 8 false (.light 9 true (.light 10 false (.light 11 false (.light 12 false (.light 13 true (.light 14 false (.late 15 (.light 16 false (.late 17 (.done))))))))))))))))))) (ns := [0, 0]) (by kernel_rfl) (by kernel_rfl) (by kernel_rfl) (by kernel_rfl) rfl ?_
   refine zw ?_
   refine di h fun e112 g113 h => ?_
   refine OpsD.v rfl rfl (Y30 (p := 0) ld_3.h rfl rfl (Y29 g113).2.2 rfl rfl) ?_
   refine zw ?_
   refine di h fun e114 g115 h => ?_
   refine OpsD.v rfl rfl (Y30 (p := 0) ld_3.h rfl rfl (Y29 g115).2.2 rfl rfl) ?_
   refine zw ?_
   refine OpsD.late (ns := [0]) rfl rfl rfl (Y33 (e' := e112) ld_3.h rfl rfl (One.val rfl) (Y29 g115).2.2 rfl rfl) ?_
   rintro _ _ ⟨rfl, rfl⟩
   refine ob' h fun e120 g121 h => ?_
   refine OpsD.rest (ns := [0, 0]) rfl ?_
   refine zw ?_
   refine OpsD.late (ns := [0]) rfl rfl rfl (Y33 (e' := e114) ld_3.h rfl rfl (One.val rfl) (Y29 g121).2.2 rfl rfl) ?_
   rintro _ _ ⟨rfl, rfl⟩
   exact go
  exact go
 refine AW.cf hb63 rfl ?_
 refine AW.exit ?_
 refine lx h fun h => ?_
 rw [← Option.some.inj h]
 exact ⟨[], _, Y21.refl _, .nil, [0, 0], _, _, rfl, ⟨rfl, rfl⟩⟩

def Zal (p1 : Int) (p2 : Int) (p3 : Int) (l12 : List Int) (x13 : Int) : Option ((List Int × Int) ⊕ ((List Int))) := cond (decide (x13 < p3)) ((getI l12 (IntKind.i64.wrap (p2 + x13))).bind fun e15 => (getI l12 (IntKind.i64.wrap (p1 + x13))).bind fun e17 => (getI (List.set l12 (Int.toNat (IntKind.i64.wrap (p1 + x13))) e15) (IntKind.i64.wrap (p2 + x13))).bind fun e23 => some (.inl ((List.set (List.set l12 (Int.toNat (IntKind.i64.wrap (p1 + x13))) e15) (Int.toNat (IntKind.i64.wrap (p2 + x13))) e17), (IntKind.i64.wrap (x13 + 1))))) (some (.inr l12))
def Zam (p0 : List Int) (p1 : Int) (p2 : Int) (p3 : Int) (p4_0 : List Int) : Option (List Int) := (iter (fun z25 => Zal p1 p2 p3 z25.1 z25.2) big (p0, 0)).bind fun y26 => some y26
set_option maxHeartbeats 1000000 in
theorem Zan {w00 : Value} {b01 : Nat} (p0 : List Int) (p1 : Int) (p2 : Int) (p3 : Int) (p4_0 : List Int) (r : List Int) (h : Zam p0 p1 p2 p3 p4_0 = some r) : Ok Tryz.prog 328 [C.val w00, C.int p1, C.int p2, C.int p3, C.clo 239 [pt b01]] [Obj.arr w00 3 kI64 1 p0, Obj.box b01 57 [C.im kI64 1 p4_0]] (fun c qs => c = C.tup [] ∧ qs = [Obj.arr w00 3 kI64 1 r, Obj.box b01 57 [C.im kI64 1 p4_0]]) := by
 refine Ok.of_body (rs := []) Tryz.func328 rfl rfl rfl rfl rfl fun X => ?_
 unfold Zam at h
 refine zw ?_
 refine AW.lp (v := ()) h (fun (l12, x13) (_ : Unit) => ⟨[(0, C.val w00), (1, C.int p1), (2, C.int p2), (3, C.int p3), (10, C.int x13)], [Obj.arr w00 3 kI64 1 l12, Obj.box b01 57 [C.im kI64 1 p4_0]]⟩) (gb [0, 0]) ?_
 rintro ⟨l12, x13⟩ _ y32 h
 refine zw ?_
 refine cnd h (fun hb14 h => ?_) fun hb14 h => ?_
 ·
  refine AW.ct hb14 rfl ?_
  refine zw ?_
  refine AW.regionD (L := [13, 19]) (Lt := [21, 23]) (k := .light 0 false (.light 1 false (.light 2 false (.light 3 false (.light 4 false (.light 5 false (.light 6 false (.light 7 false (.light 8 false (.light 9 false (.light 10 false (.light 11 false (.light 12 false (.light 13 true (.light 14 false (.light 15 false (.light 16 false (.light 17 false (.light 18 false (.light 19 true (.light 20 false (.late 21 (.light 22 false (.late 23 (.done))))))))))))))))))))))))) (ns := [0, 0]) (by kernel_rfl) (by kernel_rfl) (by kernel_rfl) (by kernel_rfl) rfl ?_
  refine zw ?_
  refine di h fun e15 g16 h => ?_
  refine OpsD.v rfl rfl (Y30 (p := 0) ld_3.h rfl rfl (Y29 g16).2.2 rfl rfl) ?_
  refine zw ?_
  refine di h fun e17 g18 h => ?_
  refine OpsD.v rfl rfl (Y30 (p := 0) ld_3.h rfl rfl (Y29 g18).2.2 rfl rfl) ?_
  refine zw ?_
  refine OpsD.late (ns := [0]) rfl rfl rfl (Y33 (e' := e15) ld_3.h rfl rfl (One.val rfl) (Y29 g18).2.2 rfl rfl) ?_
  rintro _ _ ⟨rfl, rfl⟩
  refine ob' h fun e23 g24 h => ?_
  refine OpsD.rest (ns := [0, 0]) rfl ?_
  refine zw ?_
  refine OpsD.late (ns := [0]) rfl rfl rfl (Y33 (e' := e17) ld_3.h rfl rfl (One.val rfl) (Y29 g24).2.2 rfl rfl) ?_
  rintro _ _ ⟨rfl, rfl⟩
  exact go
 refine AW.cf hb14 rfl ?_
 refine AW.exit ?_
 refine lx h fun h => ?_
 rw [← Option.some.inj h]
 exact ⟨[], _, Y21.refl _, .nil, [0, 0], _, _, rfl, ⟨rfl, rfl⟩⟩

def Zao (p2 : Int) (p4_0 : List Int) (l16 : List Int) (x17 : Int) : Option (List Int) := (Zam l16 (IntKind.i64.wrap (p2 - x17)) p2 x17 p4_0).bind fun r18 => some r18
def Zap (p2 : Int) (p4_0 : List Int) (l7 : List Int) (x8 : Int) (x9 : Int) : Option ((List Int × Int × Int) ⊕ ((List Int × Int))) := cond (x8 != x9) (cond (decide (x8 > x9)) ((Zam l7 (IntKind.i64.wrap (p2 - x8)) p2 x9 p4_0).bind fun r12 => some (.inl (r12, (IntKind.i64.wrap (x8 - x9)), x9))) ((Zam l7 (IntKind.i64.wrap (p2 - x8)) (IntKind.i64.wrap ((IntKind.i64.wrap (p2 + x9)) - x8)) x8 p4_0).bind fun r14 => some (.inl (r14, x8, (IntKind.i64.wrap (x9 - x8)))))) (some (.inr (l7, x8)))
def Zaq (p0 : List Int) (p1 : Int) (p2 : Int) (p3 : Int) (p4_0 : List Int) : Option (List Int) := (iter (fun z20 => Zap p2 p4_0 z20.1 z20.2.1 z20.2.2) big (p0, (IntKind.i64.wrap (p2 - p1)), (IntKind.i64.wrap (p3 - p2)))).bind fun (y21, y22) => Zao p2 p4_0 y21 y22
set_option maxHeartbeats 1000000 in
theorem Zar {w00 : Value} {b01 : Nat} (p0 : List Int) (p1 : Int) (p2 : Int) (p3 : Int) (p4_0 : List Int) (r : List Int) (h : Zaq p0 p1 p2 p3 p4_0 = some r) : Ok Tryz.prog 322 [C.val w00, C.int p1, C.int p2, C.int p3, C.clo 239 [pt b01]] [Obj.arr w00 3 kI64 1 p0, Obj.box b01 57 [C.im kI64 1 p4_0]] (fun c qs => c = C.tup [] ∧ qs = [Obj.arr w00 3 kI64 1 r, Obj.box b01 57 [C.im kI64 1 p4_0]]) := by
 refine Ok.of_body (rs := []) Tryz.func322 rfl rfl rfl rfl rfl fun X => ?_
 unfold Zaq at h
 refine AW.seq ?_
 refine AW.region ?_
 refine Ops.v rfl (Yq rfl rfl) ?_
 refine Ops.v rfl (Yq rfl rfl) ?_
 refine Ops.v rfl (Yv rfl rfl rfl rfl) ?_
 refine Ops.v rfl (Yr rfl rfl) ?_
 refine Ops.nil ?_
 refine AW.seq ?_
 refine AW.region ?_
 refine Ops.v rfl (Yq rfl rfl) ?_
 refine Ops.v rfl (Yq rfl rfl) ?_
 refine Ops.v rfl (Yv rfl rfl rfl rfl) ?_
 refine Ops.v rfl (Yr rfl rfl) ?_
 refine Ops.nil ?_
 refine AW.seq ?_
 refine AW.cut (τ := List Int × Int) (fun (l16, x17) => ⟨[(0, C.val w00), (2, C.int p2), (4, C.clo 239 [pt b01]), (10, C.int x17)], [Obj.arr w00 3 kI64 1 l16, Obj.box b01 57 [C.im kI64 1 p4_0]]⟩) (fun (l16, x17) => Zao p2 p4_0 l16 x17 = some r) ?_ ?_
 ·
  refine zw ?_
  refine ob' h fun o23 g24 q25 => ?_
  refine AW.loop (τ := List Int × Int × Int) (x := (p0, (IntKind.i64.wrap (p2 - p1)), (IntKind.i64.wrap (p3 - p2)))) (fun (l7, x8, x9) => ⟨[(0, C.val w00), (2, C.int p2), (4, C.clo 239 [pt b01]), (10, C.int x8), (11, C.int x9)], [Obj.arr w00 3 kI64 1 l7, Obj.box b01 57 [C.im kI64 1 p4_0]]⟩) (fun k (l7, x8, x9) => iter (fun z20 => Zap p2 p4_0 z20.1 z20.2.1 z20.2.2) k (l7, x8, x9) = some o23) g24 (Y21.both (ns := [0, 0]) rfl rfl) ?_
  rintro k ⟨l7, x8, x9⟩ i27
  refine Y41 (show iter (fun z20 => Zap p2 p4_0 z20.1 z20.2.1 z20.2.2) k (l7, x8, x9) = some o23 from i27) fun k26 y28 hlt_k26 h h29 => ?_
  replace h : Zap p2 p4_0 l7 x8 x9 = some y28 := h
  unfold Zap at h
  refine zw ?_
  refine cnd h (fun hb10 h => ?_) fun hb10 h => ?_
  ·
   refine AW.ct hb10 rfl ?_
   refine zw ?_
   refine cnd h (fun hb11 h => ?_) fun hb11 h => ?_
   ·
    refine AW.ct hb11 rfl ?_
    refine zw ?_
    refine ob' h fun r12 g13 h => ?_
    refine Ops.hd (ns := [0, 0]) rfl rfl (Y24 (Zan l7 (IntKind.i64.wrap (p2 - x8)) p2 x9 p4_0 _ g13) rfl rfl) ?_
    refine zw ?_
    obtain rfl := Option.some.inj h
    exact ⟨k26, (r12, (IntKind.i64.wrap (x8 - x9)), x9), hlt_k26, h29, Y21.both (ns := [0, 0]) rfl rfl⟩
   refine AW.cf hb11 rfl ?_
   refine zw ?_
   refine ob' h fun r14 g15 h => ?_
   refine Ops.hd (ns := [0, 0]) rfl rfl (Y24 (Zan l7 (IntKind.i64.wrap (p2 - x8)) (IntKind.i64.wrap ((IntKind.i64.wrap (p2 + x9)) - x8)) x8 p4_0 _ g15) rfl rfl) ?_
   refine zw ?_
   obtain rfl := Option.some.inj h
   exact ⟨k26, (r14, x8, (IntKind.i64.wrap (x9 - x8))), hlt_k26, h29, Y21.both (ns := [0, 0]) rfl rfl⟩
  refine AW.cf hb10 rfl ?_
  refine AW.exit ?_
  obtain rfl := Option.some.inj h
  obtain rfl := Option.some.inj h29
  replace h := q25
  exact ⟨(l7, x8), h, Y21.both (ns := [0, 0]) rfl rfl⟩
 rintro ⟨l16, x17⟩ h
 replace h : Zao p2 p4_0 l16 x17 = some r := h
 unfold Zao at h
 refine zw ?_
 refine ob' h fun r18 g19 h => ?_
 refine Ops.hd (ns := [0, 0]) rfl rfl (Y24 (Zan l16 (IntKind.i64.wrap (p2 - x17)) p2 x17 p4_0 _ g19) rfl rfl) ?_
 refine zw ?_
 rw [← Option.some.inj h]
 exact ⟨[], _, Y21.refl _, .nil, [0, 0], _, _, rfl, ⟨rfl, rfl⟩⟩

def Zas (l61 : List Int) : Option (List Int) := some l61
def Zat (x36 : Int) (l48 : List Int) (x49 : Int) : Option ((List Int × Int) ⊕ ((List Int))) := cond (decide (x49 < (IntKind.i64.wrap (x36 - 1)))) ((getI l48 (IntKind.i64.wrap (x49 + 1))).bind fun e51 => (getI l48 x49).bind fun e53 => (getI (List.set l48 (Int.toNat x49) e51) (IntKind.i64.wrap (x49 + 1))).bind fun e59 => some (.inl ((List.set (List.set l48 (Int.toNat x49) e51) (Int.toNat (IntKind.i64.wrap (x49 + 1))) e53), (IntKind.i64.wrap (x49 + 1))))) (some (.inr l48))
def Zau (p0 : List Int) (p1 : Int) (x36 : Int) : Option (List Int) := (iter (fun z178 => Zat x36 z178.1 z178.2) big (p0, p1)).bind fun y179 => Zas y179
def Zav (p0 : List Int) (p1 : Int) (p4_0 : List Int) (x18 : Int) (x19 : Int) : Option ((Int × Int) ⊕ (Int)) := cond (decide (x18 < x19)) ((getI p0 (IntKind.i64.wrap (shrI .u64 (IntKind.u64.wrap (IntKind.i64.wrap (x18 + x19))) 1))).bind fun e29 => (getI p0 p1).bind fun e31 => (Zad e29 e31 p4_0).bind fun r33 => cond (decide (r33 < 0)) (some (.inl ((IntKind.i64.wrap ((IntKind.i64.wrap (shrI .u64 (IntKind.u64.wrap (IntKind.i64.wrap (x18 + x19))) 1)) + 1)), x19))) (some (.inl (x18, (IntKind.i64.wrap (shrI .u64 (IntKind.u64.wrap (IntKind.i64.wrap (x18 + x19))) 1)))))) (some (.inr x18))
def Zaw (l122 : List Int) : Option (List Int) := some l122
def Zax (x97 : Int) (l109 : List Int) (x110 : Int) : Option ((List Int × Int) ⊕ ((List Int))) := cond (decide (x110 > x97)) ((getI l109 (IntKind.i64.wrap (x110 - 1))).bind fun e112 => (getI l109 x110).bind fun e114 => (getI (List.set l109 (Int.toNat x110) e112) (IntKind.i64.wrap (x110 - 1))).bind fun e120 => some (.inl ((List.set (List.set l109 (Int.toNat x110) e112) (Int.toNat (IntKind.i64.wrap (x110 - 1))) e114), (IntKind.i64.wrap (x110 - 1))))) (some (.inr l109))
def Zay (p0 : List Int) (p2 : Int) (x97 : Int) : Option (List Int) := (iter (fun z182 => Zax x97 z182.1 z182.2) big (p0, p2)).bind fun y183 => Zaw y183
def Zaz (p0 : List Int) (p2 : Int) (p4_0 : List Int) (x79 : Int) (x80 : Int) : Option ((Int × Int) ⊕ (Int)) := cond (decide (x79 < x80)) ((getI p0 p2).bind fun e90 => (getI p0 (IntKind.i64.wrap (shrI .u64 (IntKind.u64.wrap (IntKind.i64.wrap (x79 + x80))) 1))).bind fun e92 => (Zad e90 e92 p4_0).bind fun r94 => cond (decide (r94 < 0)) (some (.inl (x79, (IntKind.i64.wrap (shrI .u64 (IntKind.u64.wrap (IntKind.i64.wrap (x79 + x80))) 1))))) (some (.inl ((IntKind.i64.wrap ((IntKind.i64.wrap (shrI .u64 (IntKind.u64.wrap (IntKind.i64.wrap (x79 + x80))) 1)) + 1)), x80)))) (some (.inr x79))
def Zb0 (p1 : Int) (p2 : Int) (p3 : Int) (p4_0 : List Int) (self_ : (List Int) → Int → Int → Int → (List Int) → Option (List Int)) (x160 : Int) (l172 : List Int) (x174 : Bool) : Option (List Int) := cond x174 ((self_ l172 (IntKind.i64.wrap (shrI .u64 (IntKind.u64.wrap (IntKind.i64.wrap (p1 + p3))) 1)) (IntKind.i64.wrap ((IntKind.i64.wrap ((IntKind.i64.wrap (shrI .u64 (IntKind.u64.wrap (IntKind.i64.wrap (p1 + p3))) 1)) + p2)) - x160)) p3 p4_0).bind fun r176 => some r176) (some l172)
def Zb1 (p1 : Int) (p2 : Int) (p3 : Int) (p4_0 : List Int) (self_ : (List Int) → Int → Int → Int → (List Int) → Option (List Int)) (x160 : Int) (l172 : List Int) : Option (List Int) := cond (decide ((IntKind.i64.wrap (shrI .u64 (IntKind.u64.wrap (IntKind.i64.wrap (p1 + p3))) 1)) < (IntKind.i64.wrap ((IntKind.i64.wrap ((IntKind.i64.wrap (shrI .u64 (IntKind.u64.wrap (IntKind.i64.wrap (p1 + p3))) 1)) + p2)) - x160)))) (Zb0 p1 p2 p3 p4_0 self_ x160 l172 (decide ((IntKind.i64.wrap ((IntKind.i64.wrap ((IntKind.i64.wrap (shrI .u64 (IntKind.u64.wrap (IntKind.i64.wrap (p1 + p3))) 1)) + p2)) - x160)) < p3))) (Zb0 p1 p2 p3 p4_0 self_ x160 l172 false)
def Zb2 (p1 : Int) (p2 : Int) (p3 : Int) (p4_0 : List Int) (self_ : (List Int) → Int → Int → Int → (List Int) → Option (List Int)) (x160 : Int) (l166 : List Int) (x168 : Bool) : Option (List Int) := cond x168 ((self_ l166 p1 x160 (IntKind.i64.wrap (shrI .u64 (IntKind.u64.wrap (IntKind.i64.wrap (p1 + p3))) 1)) p4_0).bind fun r170 => Zb1 p1 p2 p3 p4_0 self_ x160 r170) (Zb1 p1 p2 p3 p4_0 self_ x160 l166)
def Zb3 (p1 : Int) (p2 : Int) (p3 : Int) (p4_0 : List Int) (self_ : (List Int) → Int → Int → Int → (List Int) → Option (List Int)) (x160 : Int) (l166 : List Int) : Option (List Int) := cond (decide (p1 < x160)) (Zb2 p1 p2 p3 p4_0 self_ x160 l166 (decide (x160 < (IntKind.i64.wrap (shrI .u64 (IntKind.u64.wrap (IntKind.i64.wrap (p1 + p3))) 1))))) (Zb2 p1 p2 p3 p4_0 self_ x160 l166 false)
def Zb4 (p0 : List Int) (p1 : Int) (p2 : Int) (p3 : Int) (p4_0 : List Int) (self_ : (List Int) → Int → Int → Int → (List Int) → Option (List Int)) (x160 : Int) (x162 : Bool) : Option (List Int) := cond x162 ((Zaq p0 x160 p2 (IntKind.i64.wrap ((IntKind.i64.wrap ((IntKind.i64.wrap (shrI .u64 (IntKind.u64.wrap (IntKind.i64.wrap (p1 + p3))) 1)) + p2)) - x160)) p4_0).bind fun r164 => Zb3 p1 p2 p3 p4_0 self_ x160 r164) (Zb3 p1 p2 p3 p4_0 self_ x160 p0)
def Zb5 (p0 : List Int) (p1 : Int) (p2 : Int) (p3 : Int) (p4_0 : List Int) (self_ : (List Int) → Int → Int → Int → (List Int) → Option (List Int)) (x160 : Int) : Option (List Int) := cond (decide (x160 < p2)) (Zb4 p0 p1 p2 p3 p4_0 self_ x160 (decide (p2 < (IntKind.i64.wrap ((IntKind.i64.wrap ((IntKind.i64.wrap (shrI .u64 (IntKind.u64.wrap (IntKind.i64.wrap (p1 + p3))) 1)) + p2)) - x160))))) (Zb4 p0 p1 p2 p3 p4_0 self_ x160 false)
def Zb6 (p0 : List Int) (p1 : Int) (p2 : Int) (p3 : Int) (p4_0 : List Int) (x142 : Int) (x143 : Int) : Option ((Int × Int) ⊕ (Int)) := cond (decide (x142 < x143)) ((getI p0 (IntKind.i64.wrap ((IntKind.i64.wrap ((IntKind.i64.wrap ((IntKind.i64.wrap (shrI .u64 (IntKind.u64.wrap (IntKind.i64.wrap (p1 + p3))) 1)) + p2)) - 1)) - (IntKind.i64.wrap (shrI .u64 (IntKind.u64.wrap (IntKind.i64.wrap (x142 + x143))) 1))))).bind fun e153 => (getI p0 (IntKind.i64.wrap (shrI .u64 (IntKind.u64.wrap (IntKind.i64.wrap (x142 + x143))) 1))).bind fun e155 => (Zad e153 e155 p4_0).bind fun r157 => cond (decide (r157 < 0)) (some (.inl (x142, (IntKind.i64.wrap (shrI .u64 (IntKind.u64.wrap (IntKind.i64.wrap (x142 + x143))) 1))))) (some (.inl ((IntKind.i64.wrap ((IntKind.i64.wrap (shrI .u64 (IntKind.u64.wrap (IntKind.i64.wrap (x142 + x143))) 1)) + 1)), x143)))) (some (.inr x142))
def Zb7 (p0 : List Int) (p1 : Int) (p2 : Int) (p3 : Int) (p4_0 : List Int) (self_ : (List Int) → Int → Int → Int → (List Int) → Option (List Int)) (x124 : Int) (x125 : Int) : Option (List Int) := (iter (fun z186 => Zb6 p0 p1 p2 p3 p4_0 z186.1 z186.2) big (x124, x125)).bind fun y187 => Zb5 p0 p1 p2 p3 p4_0 self_ y187
def Zb8 (self_ : (List Int) → Int → Int → Int → (List Int) → Option (List Int)) (p0 : List Int) (p1 : Int) (p2 : Int) (p3 : Int) (p4_0 : List Int) : Option (List Int) := cond ((IntKind.i64.wrap (p2 - p1)) == 1) ((iter (fun z180 => Zav p0 p1 p4_0 z180.1 z180.2) big (p2, p3)).bind fun y181 => Zau p0 p1 y181) (cond ((IntKind.i64.wrap (p3 - p2)) == 1) ((iter (fun z184 => Zaz p0 p2 p4_0 z184.1 z184.2) big (p1, p2)).bind fun y185 => Zay p0 p2 y185) (cond (decide (p2 > (IntKind.i64.wrap (shrI .u64 (IntKind.u64.wrap (IntKind.i64.wrap (p1 + p3))) 1)))) (Zb7 p0 p1 p2 p3 p4_0 self_ (IntKind.i64.wrap ((IntKind.i64.wrap ((IntKind.i64.wrap (shrI .u64 (IntKind.u64.wrap (IntKind.i64.wrap (p1 + p3))) 1)) + p2)) - p3)) (IntKind.i64.wrap (shrI .u64 (IntKind.u64.wrap (IntKind.i64.wrap (p1 + p3))) 1))) (Zb7 p0 p1 p2 p3 p4_0 self_ p1 p2)))
set_option maxHeartbeats 1000000 in
theorem Zb9 (self_ : (List Int) → Int → Int → Int → (List Int) → Option (List Int)) (hself_ : ∀ {w00 : Value} {b01 : Nat} (p0 : List Int) (p1 : Int) (p2 : Int) (p3 : Int) (p4_0 : List Int) (r : List Int), self_ p0 p1 p2 p3 p4_0 = some r → Ok Tryz.prog 306 [C.val w00, C.int p1, C.int p2, C.int p3, C.clo 239 [pt b01]] [Obj.arr w00 3 kI64 1 p0, Obj.box b01 57 [C.im kI64 1 p4_0]] (fun c qs => c = C.tup [] ∧ qs = [Obj.arr w00 3 kI64 1 r, Obj.box b01 57 [C.im kI64 1 p4_0]])) {w00 : Value} {b01 : Nat} (p0 : List Int) (p1 : Int) (p2 : Int) (p3 : Int) (p4_0 : List Int) (r : List Int) (h : Zb8 self_ p0 p1 p2 p3 p4_0 = some r) : Ok Tryz.prog 306 [C.val w00, C.int p1, C.int p2, C.int p3, C.clo 239 [pt b01]] [Obj.arr w00 3 kI64 1 p0, Obj.box b01 57 [C.im kI64 1 p4_0]] (fun c qs => c = C.tup [] ∧ qs = [Obj.arr w00 3 kI64 1 r, Obj.box b01 57 [C.im kI64 1 p4_0]]) := by
 refine Ok.of_body (rs := []) Tryz.func306 rfl rfl rfl rfl rfl fun X => ?_
 unfold Zb8 at h
 refine zw ?_
 refine cnd h (fun hb1 h => ?_) fun hb1 h => ?_
 ·
  refine AW.ct hb1 rfl ?_
  refine AW.seq ?_
  refine AW.region ?_
  refine Ops.v rfl (Yq rfl rfl) ?_
  refine Ops.v rfl (Yr rfl rfl) ?_
  refine Ops.nil ?_
  refine AW.seq ?_
  refine AW.region ?_
  refine Ops.v rfl (Yq rfl rfl) ?_
  refine Ops.v rfl (Yr rfl rfl) ?_
  refine Ops.nil ?_
  refine AW.seq ?_
  refine AW.cut (τ := Int) (fun x36 => ⟨[(0, C.val w00), (1, C.int p1), (10, C.int x36)], [Obj.arr w00 3 kI64 1 p0, Obj.box b01 57 [C.im kI64 1 p4_0]]⟩) (fun x36 => Zau p0 p1 x36 = some r) ?_ ?_
  ·
   refine zw ?_
   refine ob' h fun o195 g196 q197 => ?_
   refine AW.loop (τ := Int × Int) (x := (p2, p3)) (fun (x18, x19) => ⟨[(0, C.val w00), (1, C.int p1), (4, C.clo 239 [pt b01]), (10, C.int x18), (11, C.int x19)], [Obj.arr w00 3 kI64 1 p0, Obj.box b01 57 [C.im kI64 1 p4_0]]⟩) (fun k (x18, x19) => iter (fun z180 => Zav p0 p1 p4_0 z180.1 z180.2) k (x18, x19) = some o195) g196 (Y21.both (ns := [0, 0]) rfl rfl) ?_
   rintro k ⟨x18, x19⟩ i199
   refine Y41 (show iter (fun z180 => Zav p0 p1 p4_0 z180.1 z180.2) k (x18, x19) = some o195 from i199) fun k198 y200 hlt_k198 h h201 => ?_
   replace h : Zav p0 p1 p4_0 x18 x19 = some y200 := h
   unfold Zav at h
   refine zw ?_
   refine cnd h (fun hb20 h => ?_) fun hb20 h => ?_
   ·
    refine AW.ct hb20 rfl ?_
    refine zw ?_
    refine Ops.v rfl (Y12 un_3 Ycv rfl rfl) ?_
    refine Ops.v rfl (Yz rfl rfl rfl rfl) ?_
    refine Ops.v rfl (Y12 Ycv un_3 rfl rfl) ?_
    refine zw ?_
    refine AW.regionD (L := [4, 8]) (Lt := []) (k := dec [0,3,6,9,13,15,18,21,25,29,30]) (ns := [0]) (by kernel_rfl) (by kernel_rfl) (by kernel_rfl) (by kernel_rfl) rfl ?_
    refine zw ?_
    refine di h fun e29 g30 h => ?_
    refine OpsD.v rfl rfl (Y30 (p := 0) ld_3.h rfl rfl (Y29 g30).2.2 rfl rfl) ?_
    refine zw ?_
    refine di h fun e31 g32 h => ?_
    refine OpsD.v rfl rfl (Y30 (p := 0) ld_3.h rfl rfl (Y29 g32).2.2 rfl rfl) ?_
    refine zw ?_
    refine ob' h fun r33 g34 h => ?_
    refine Y3n.h (ns := [0]) rfl rfl rfl (Y6s (cs := [_, _]) (ds := [_]) rfl (Zae e29 e31 p4_0 _ g34) rfl rfl) ?_
    rintro _ _ ⟨rfl, rfl⟩
    refine zw ?_
    refine cnd h (fun hb35 h => ?_) fun hb35 h => ?_
    ·
     refine AW.ct hb35 rfl ?_
     refine zw ?_
     obtain rfl := Option.some.inj h
     exact ⟨k198, ((IntKind.i64.wrap ((IntKind.i64.wrap (shrI .u64 (IntKind.u64.wrap (IntKind.i64.wrap (x18 + x19))) 1)) + 1)), x19), hlt_k198, h201, Y21.both (ns := [0, 0]) rfl rfl⟩
    refine AW.cf hb35 rfl ?_
    refine zw ?_
    obtain rfl := Option.some.inj h
    exact ⟨k198, (x18, (IntKind.i64.wrap (shrI .u64 (IntKind.u64.wrap (IntKind.i64.wrap (x18 + x19))) 1))), hlt_k198, h201, Y21.both (ns := [0, 0]) rfl rfl⟩
   refine AW.cf hb20 rfl ?_
   refine AW.exit ?_
   obtain rfl := Option.some.inj h
   obtain rfl := Option.some.inj h201
   replace h := q197
   exact ⟨x18, h, Y21.both (ns := [0, 0]) rfl rfl⟩
  intro x36 h
  replace h : Zau p0 p1 x36 = some r := h
  unfold Zau at h
  refine AW.seq ?_
  refine AW.cut (τ := List Int) (fun l61 => ⟨[], [Obj.arr w00 3 kI64 1 l61, Obj.box b01 57 [C.im kI64 1 p4_0]]⟩) (fun l61 => Zas l61 = some r) ?_ ?_
  ·
   refine zw ?_
   refine ob' h fun o188 g189 q190 => ?_
   refine AW.loop (τ := List Int × Int) (x := (p0, p1)) (fun (l48, x49) => ⟨[(0, C.val w00), (10, C.int x36), (13, C.int x49)], [Obj.arr w00 3 kI64 1 l48, Obj.box b01 57 [C.im kI64 1 p4_0]]⟩) (fun k (l48, x49) => iter (fun z178 => Zat x36 z178.1 z178.2) k (l48, x49) = some o188) g189 (Y21.both (ns := [0, 0]) rfl rfl) ?_
   rintro k ⟨l48, x49⟩ i192
   refine Y41 (show iter (fun z178 => Zat x36 z178.1 z178.2) k (l48, x49) = some o188 from i192) fun k191 y193 hlt_k191 h h194 => ?_
   replace h : Zat x36 l48 x49 = some y193 := h
   unfold Zat at h
   refine zw ?_
   refine cnd h (fun hb50 h => ?_) fun hb50 h => ?_
   ·
    refine AW.ct hb50 rfl ?_
    refine zw ?_
    refine AW.regionD (L := [9, 13]) (Lt := [15, 17]) (k := .light 0 false (.light 1 false (.light 2 false (.light 3 false (.light 4 false (.light 5 false (.light 6 false (.light 7 false (.light 8 false (.light 9 true (.light 10 false (.light 11 false (.light 12 false (.light 13 true (.light 14 false (.late 15 (.light 16 false (.late 17 (.done))))))))))))))))))) (ns := [0, 0]) (by kernel_rfl) (by kernel_rfl) (by kernel_rfl) (by kernel_rfl) rfl ?_
    refine zw ?_
    refine di h fun e51 g52 h => ?_
    refine OpsD.v rfl rfl (Y30 (p := 0) ld_3.h rfl rfl (Y29 g52).2.2 rfl rfl) ?_
    refine zw ?_
    refine di h fun e53 g54 h => ?_
    refine OpsD.v rfl rfl (Y30 (p := 0) ld_3.h rfl rfl (Y29 g54).2.2 rfl rfl) ?_
    refine zw ?_
    refine OpsD.late (ns := [0]) rfl rfl rfl (Y33 (e' := e51) ld_3.h rfl rfl (One.val rfl) (Y29 g54).2.2 rfl rfl) ?_
    rintro _ _ ⟨rfl, rfl⟩
    refine ob' h fun e59 g60 h => ?_
    refine OpsD.rest (ns := [0, 0]) rfl ?_
    refine zw ?_
    refine OpsD.late (ns := [0]) rfl rfl rfl (Y33 (e' := e53) ld_3.h rfl rfl (One.val rfl) (Y29 g60).2.2 rfl rfl) ?_
    rintro _ _ ⟨rfl, rfl⟩
    refine zw ?_
    obtain rfl := Option.some.inj h
    exact ⟨k191, ((List.set (List.set l48 (Int.toNat x49) e51) (Int.toNat (IntKind.i64.wrap (x49 + 1))) e53), (IntKind.i64.wrap (x49 + 1))), hlt_k191, h194, Y21.both (ns := [0, 0]) rfl rfl⟩
   refine AW.cf hb50 rfl ?_
   refine AW.exit ?_
   obtain rfl := Option.some.inj h
   obtain rfl := Option.some.inj h194
   replace h := q190
   exact ⟨l48, h, Y21.both (ns := [0, 0]) rfl rfl⟩
  intro l61 h
  replace h : Zas l61 = some r := h
  unfold Zas at h
  refine AW.ret ?_
  rw [← Option.some.inj h]
  exact ⟨[], _, Y21.refl _, .nil, [0, 0], _, _, rfl, ⟨rfl, rfl⟩⟩
 refine AW.cf hb1 rfl ?_
 refine zw ?_
 refine cnd h (fun hb62 h => ?_) fun hb62 h => ?_
 ·
  refine AW.ct hb62 rfl ?_
  refine AW.seq ?_
  refine AW.region ?_
  refine Ops.v rfl (Yq rfl rfl) ?_
  refine Ops.v rfl (Yr rfl rfl) ?_
  refine Ops.nil ?_
  refine AW.seq ?_
  refine AW.region ?_
  refine Ops.v rfl (Yq rfl rfl) ?_
  refine Ops.v rfl (Yr rfl rfl) ?_
  refine Ops.nil ?_
  refine AW.seq ?_
  refine AW.cut (τ := Int) (fun x97 => ⟨[(0, C.val w00), (2, C.int p2), (14, C.int x97)], [Obj.arr w00 3 kI64 1 p0, Obj.box b01 57 [C.im kI64 1 p4_0]]⟩) (fun x97 => Zay p0 p2 x97 = some r) ?_ ?_
  ·
   refine zw ?_
   refine ob' h fun o209 g210 q211 => ?_
   refine AW.loop (τ := Int × Int) (x := (p1, p2)) (fun (x79, x80) => ⟨[(0, C.val w00), (2, C.int p2), (4, C.clo 239 [pt b01]), (14, C.int x79), (15, C.int x80)], [Obj.arr w00 3 kI64 1 p0, Obj.box b01 57 [C.im kI64 1 p4_0]]⟩) (fun k (x79, x80) => iter (fun z184 => Zaz p0 p2 p4_0 z184.1 z184.2) k (x79, x80) = some o209) g210 (Y21.both (ns := [0, 0]) rfl rfl) ?_
   rintro k ⟨x79, x80⟩ i213
   refine Y41 (show iter (fun z184 => Zaz p0 p2 p4_0 z184.1 z184.2) k (x79, x80) = some o209 from i213) fun k212 y214 hlt_k212 h h215 => ?_
   replace h : Zaz p0 p2 p4_0 x79 x80 = some y214 := h
   unfold Zaz at h
   refine zw ?_
   refine cnd h (fun hb81 h => ?_) fun hb81 h => ?_
   ·
    refine AW.ct hb81 rfl ?_
    refine zw ?_
    refine Ops.v rfl (Y12 un_3 Ycv rfl rfl) ?_
    refine Ops.v rfl (Yz rfl rfl rfl rfl) ?_
    refine Ops.v rfl (Y12 Ycv un_3 rfl rfl) ?_
    refine zw ?_
    refine AW.regionD (L := [4, 8]) (Lt := []) (k := dec [0,3,6,9,13,15,18,21,25,29,30,33]) (ns := [0]) (by kernel_rfl) (by kernel_rfl) (by kernel_rfl) (by kernel_rfl) rfl ?_
    refine zw ?_
    refine di h fun e90 g91 h => ?_
    refine OpsD.v rfl rfl (Y30 (p := 0) ld_3.h rfl rfl (Y29 g91).2.2 rfl rfl) ?_
    refine zw ?_
    refine di h fun e92 g93 h => ?_
    refine OpsD.v rfl rfl (Y30 (p := 0) ld_3.h rfl rfl (Y29 g93).2.2 rfl rfl) ?_
    refine zw ?_
    refine ob' h fun r94 g95 h => ?_
    refine Y3n.h (ns := [0]) rfl rfl rfl (Y6s (cs := [_, _]) (ds := [_]) rfl (Zae e90 e92 p4_0 _ g95) rfl rfl) ?_
    rintro _ _ ⟨rfl, rfl⟩
    refine zw ?_
    refine cnd h (fun hb96 h => ?_) fun hb96 h => ?_
    ·
     refine AW.cond rfl (fun hn => absurd ((Y3u hb96).symm.trans hn) (by decide)) (fun _ => ?_)
     refine zw ?_
     obtain rfl := Option.some.inj h
     exact ⟨k212, (x79, (IntKind.i64.wrap (shrI .u64 (IntKind.u64.wrap (IntKind.i64.wrap (x79 + x80))) 1))), hlt_k212, h215, Y21.both (ns := [0, 0]) rfl rfl⟩
    refine AW.cond rfl (fun _ => ?_) (fun hn => absurd ((Y3v hb96).symm.trans hn) (by decide))
    refine zw ?_
    obtain rfl := Option.some.inj h
    exact ⟨k212, ((IntKind.i64.wrap ((IntKind.i64.wrap (shrI .u64 (IntKind.u64.wrap (IntKind.i64.wrap (x79 + x80))) 1)) + 1)), x80), hlt_k212, h215, Y21.both (ns := [0, 0]) rfl rfl⟩
   refine AW.cf hb81 rfl ?_
   refine AW.exit ?_
   obtain rfl := Option.some.inj h
   obtain rfl := Option.some.inj h215
   replace h := q211
   exact ⟨x79, h, Y21.both (ns := [0, 0]) rfl rfl⟩
  intro x97 h
  replace h : Zay p0 p2 x97 = some r := h
  unfold Zay at h
  refine AW.seq ?_
  refine AW.cut (τ := List Int) (fun l122 => ⟨[], [Obj.arr w00 3 kI64 1 l122, Obj.box b01 57 [C.im kI64 1 p4_0]]⟩) (fun l122 => Zaw l122 = some r) ?_ ?_
  ·
   refine zw ?_
   refine ob' h fun o202 g203 q204 => ?_
   refine AW.loop (τ := List Int × Int) (x := (p0, p2)) (fun (l109, x110) => ⟨[(0, C.val w00), (14, C.int x97), (17, C.int x110)], [Obj.arr w00 3 kI64 1 l109, Obj.box b01 57 [C.im kI64 1 p4_0]]⟩) (fun k (l109, x110) => iter (fun z182 => Zax x97 z182.1 z182.2) k (l109, x110) = some o202) g203 (Y21.both (ns := [0, 0]) rfl rfl) ?_
   rintro k ⟨l109, x110⟩ i206
   refine Y41 (show iter (fun z182 => Zax x97 z182.1 z182.2) k (l109, x110) = some o202 from i206) fun k205 y207 hlt_k205 h h208 => ?_
   replace h : Zax x97 l109 x110 = some y207 := h
   unfold Zax at h
   refine zw ?_
   refine cnd h (fun hb111 h => ?_) fun hb111 h => ?_
   ·
    refine AW.ct hb111 rfl ?_
    refine zw ?_
    refine AW.regionD (L := [9, 13]) (Lt := [15, 17]) (k := .light 0 false (.light 1 false (.light 2 false (.light 3 false (.light 4 false (.light 5 false (.light 6 false (.light 7 false (.light 8 false (.light 9 true (.light 10 false (.light 11 false (.light 12 false (.light 13 true (.light 14 false (.late 15 (.light 16 false (.late 17 (.done))))))))))))))))))) (ns := [0, 0]) (by kernel_rfl) (by kernel_rfl) (by kernel_rfl) (by kernel_rfl) rfl ?_
    refine zw ?_
    refine di h fun e112 g113 h => ?_
    refine OpsD.v rfl rfl (Y30 (p := 0) ld_3.h rfl rfl (Y29 g113).2.2 rfl rfl) ?_
    refine zw ?_
    refine di h fun e114 g115 h => ?_
    refine OpsD.v rfl rfl (Y30 (p := 0) ld_3.h rfl rfl (Y29 g115).2.2 rfl rfl) ?_
    refine zw ?_
    refine OpsD.late (ns := [0]) rfl rfl rfl (Y33 (e' := e112) ld_3.h rfl rfl (One.val rfl) (Y29 g115).2.2 rfl rfl) ?_
    rintro _ _ ⟨rfl, rfl⟩
    refine ob' h fun e120 g121 h => ?_
    refine OpsD.rest (ns := [0, 0]) rfl ?_
    refine zw ?_
    refine OpsD.late (ns := [0]) rfl rfl rfl (Y33 (e' := e114) ld_3.h rfl rfl (One.val rfl) (Y29 g121).2.2 rfl rfl) ?_
    rintro _ _ ⟨rfl, rfl⟩
    refine zw ?_
    obtain rfl := Option.some.inj h
    exact ⟨k205, ((List.set (List.set l109 (Int.toNat x110) e112) (Int.toNat (IntKind.i64.wrap (x110 - 1))) e114), (IntKind.i64.wrap (x110 - 1))), hlt_k205, h208, Y21.both (ns := [0, 0]) rfl rfl⟩
   refine AW.cf hb111 rfl ?_
   refine AW.exit ?_
   obtain rfl := Option.some.inj h
   obtain rfl := Option.some.inj h208
   replace h := q204
   exact ⟨l109, h, Y21.both (ns := [0, 0]) rfl rfl⟩
  intro l122 h
  replace h : Zaw l122 = some r := h
  unfold Zaw at h
  refine AW.ret ?_
  rw [← Option.some.inj h]
  exact ⟨[], _, Y21.refl _, .nil, [0, 0], _, _, rfl, ⟨rfl, rfl⟩⟩
 refine AW.cf hb62 rfl ?_
 refine zw ?_
 refine Ops.v rfl (Y12 un_3 Ycv rfl rfl) ?_
 refine Ops.v rfl (Yz rfl rfl rfl rfl) ?_
 refine Ops.v rfl (Y12 Ycv un_3 rfl rfl) ?_
 refine Ops.v rfl (Yr rfl rfl) ?_
 refine Ops.nil ?_
 refine AW.seq ?_
 refine AW.region ?_
 refine Ops.v rfl (Yq rfl rfl) ?_
 refine Ops.v rfl (Yq rfl rfl) ?_
 refine Ops.v rfl (Yv rfl rfl rfl rfl) ?_
 refine Ops.v rfl (Yr rfl rfl) ?_
 refine Ops.nil ?_
 refine AW.seq ?_
 refine AW.region ?_
 refine Ops.v rfl (Yr rfl rfl) ?_
 refine Ops.v rfl (Yr rfl rfl) ?_
 refine Ops.nil ?_
 refine AW.seq ?_
 refine AW.cut (τ := Int × Int) (fun (x124, x125) => ⟨[(0, C.val w00), (1, C.int p1), (2, C.int p2), (3, C.int p3), (4, C.clo 239 [pt b01]), (18, C.int (IntKind.i64.wrap (shrI .u64 (IntKind.u64.wrap (IntKind.i64.wrap (p1 + p3))) 1))), (19, C.int (IntKind.i64.wrap ((IntKind.i64.wrap (shrI .u64 (IntKind.u64.wrap (IntKind.i64.wrap (p1 + p3))) 1)) + p2))), (20, C.int x124), (21, C.int x125)], [Obj.arr w00 3 kI64 1 p0, Obj.box b01 57 [C.im kI64 1 p4_0]]⟩) (fun (x124, x125) => Zb7 p0 p1 p2 p3 p4_0 self_ x124 x125 = some r) ?_ ?_
 ·
  refine zw ?_
  refine cnd h (fun hb123 h => ?_) fun hb123 h => ?_
  ·
   refine AW.ct hb123 rfl ?_
   refine zw ?_
   exact ⟨((IntKind.i64.wrap ((IntKind.i64.wrap ((IntKind.i64.wrap (shrI .u64 (IntKind.u64.wrap (IntKind.i64.wrap (p1 + p3))) 1)) + p2)) - p3)), (IntKind.i64.wrap (shrI .u64 (IntKind.u64.wrap (IntKind.i64.wrap (p1 + p3))) 1))), h, Y21.both (ns := [0, 0]) rfl rfl⟩
  refine AW.cf hb123 rfl ?_
  refine zw ?_
  exact ⟨(p1, p2), h, Y21.both (ns := [0, 0]) rfl rfl⟩
 rintro ⟨x124, x125⟩ h
 replace h : Zb7 p0 p1 p2 p3 p4_0 self_ x124 x125 = some r := h
 unfold Zb7 at h
 refine AW.seq ?_
 refine AW.region ?_
 refine Ops.v rfl (Yq rfl rfl) ?_
 refine Ops.v rfl (Yv rfl rfl rfl rfl) ?_
 refine Ops.v rfl (Yr rfl rfl) ?_
 refine Ops.nil ?_
 refine AW.seq ?_
 refine AW.cut (τ := Int) (fun x160 => ⟨[(0, C.val w00), (1, C.int p1), (2, C.int p2), (3, C.int p3), (4, C.clo 239 [pt b01]), (18, C.int (IntKind.i64.wrap (shrI .u64 (IntKind.u64.wrap (IntKind.i64.wrap (p1 + p3))) 1))), (19, C.int (IntKind.i64.wrap ((IntKind.i64.wrap (shrI .u64 (IntKind.u64.wrap (IntKind.i64.wrap (p1 + p3))) 1)) + p2))), (20, C.int x160)], [Obj.arr w00 3 kI64 1 p0, Obj.box b01 57 [C.im kI64 1 p4_0]]⟩) (fun x160 => Zb5 p0 p1 p2 p3 p4_0 self_ x160 = some r) ?_ ?_
 ·
  refine zw ?_
  refine ob' h fun o216 g217 q218 => ?_
  refine AW.loop (τ := Int × Int) (x := (x124, x125)) (fun (x142, x143) => ⟨[(0, C.val w00), (1, C.int p1), (2, C.int p2), (3, C.int p3), (4, C.clo 239 [pt b01]), (18, C.int (IntKind.i64.wrap (shrI .u64 (IntKind.u64.wrap (IntKind.i64.wrap (p1 + p3))) 1))), (19, C.int (IntKind.i64.wrap ((IntKind.i64.wrap (shrI .u64 (IntKind.u64.wrap (IntKind.i64.wrap (p1 + p3))) 1)) + p2))), (20, C.int x142), (21, C.int x143), (22, C.int (IntKind.i64.wrap ((IntKind.i64.wrap ((IntKind.i64.wrap (shrI .u64 (IntKind.u64.wrap (IntKind.i64.wrap (p1 + p3))) 1)) + p2)) - 1)))], [Obj.arr w00 3 kI64 1 p0, Obj.box b01 57 [C.im kI64 1 p4_0]]⟩) (fun k (x142, x143) => iter (fun z186 => Zb6 p0 p1 p2 p3 p4_0 z186.1 z186.2) k (x142, x143) = some o216) g217 (Y21.both (ns := [0, 0]) rfl rfl) ?_
  rintro k ⟨x142, x143⟩ i220
  refine Y41 (show iter (fun z186 => Zb6 p0 p1 p2 p3 p4_0 z186.1 z186.2) k (x142, x143) = some o216 from i220) fun k219 y221 hlt_k219 h h222 => ?_
  replace h : Zb6 p0 p1 p2 p3 p4_0 x142 x143 = some y221 := h
  unfold Zb6 at h
  refine zw ?_
  refine cnd h (fun hb144 h => ?_) fun hb144 h => ?_
  ·
   refine AW.ct hb144 rfl ?_
   refine zw ?_
   refine Ops.v rfl (Y12 un_3 Ycv rfl rfl) ?_
   refine Ops.v rfl (Yz rfl rfl rfl rfl) ?_
   refine Ops.v rfl (Y12 Ycv un_3 rfl rfl) ?_
   refine zw ?_
   refine AW.regionD (L := [6, 10]) (Lt := []) (k := dec [0,3,6,9,12,15,19,21,24,27,31,35,36,39]) (ns := [0]) (by kernel_rfl) (by kernel_rfl) (by kernel_rfl) (by kernel_rfl) rfl ?_
   refine zw ?_
   refine di h fun e153 g154 h => ?_
   refine OpsD.v rfl rfl (Y30 (p := 0) ld_3.h rfl rfl (Y29 g154).2.2 rfl rfl) ?_
   refine zw ?_
   refine di h fun e155 g156 h => ?_
   refine OpsD.v rfl rfl (Y30 (p := 0) ld_3.h rfl rfl (Y29 g156).2.2 rfl rfl) ?_
   refine zw ?_
   refine ob' h fun r157 g158 h => ?_
   refine Y3n.h (ns := [0]) rfl rfl rfl (Y6s (cs := [_, _]) (ds := [_]) rfl (Zae e153 e155 p4_0 _ g158) rfl rfl) ?_
   rintro _ _ ⟨rfl, rfl⟩
   refine zw ?_
   refine cnd h (fun hb159 h => ?_) fun hb159 h => ?_
   ·
    refine AW.cond rfl (fun hn => absurd ((Y3u hb159).symm.trans hn) (by decide)) (fun _ => ?_)
    refine zw ?_
    obtain rfl := Option.some.inj h
    exact ⟨k219, (x142, (IntKind.i64.wrap (shrI .u64 (IntKind.u64.wrap (IntKind.i64.wrap (x142 + x143))) 1))), hlt_k219, h222, Y21.both (ns := [0, 0]) rfl rfl⟩
   refine AW.cond rfl (fun _ => ?_) (fun hn => absurd ((Y3v hb159).symm.trans hn) (by decide))
   refine zw ?_
   obtain rfl := Option.some.inj h
   exact ⟨k219, ((IntKind.i64.wrap ((IntKind.i64.wrap (shrI .u64 (IntKind.u64.wrap (IntKind.i64.wrap (x142 + x143))) 1)) + 1)), x143), hlt_k219, h222, Y21.both (ns := [0, 0]) rfl rfl⟩
  refine AW.cf hb144 rfl ?_
  refine AW.exit ?_
  obtain rfl := Option.some.inj h
  obtain rfl := Option.some.inj h222
  replace h := q218
  exact ⟨x142, h, Y21.both (ns := [0, 0]) rfl rfl⟩
 intro x160 h
 replace h : Zb5 p0 p1 p2 p3 p4_0 self_ x160 = some r := h
 unfold Zb5 at h
 refine AW.seq ?_
 refine AW.region ?_
 refine Ops.v rfl (Yq rfl rfl) ?_
 refine Ops.v rfl (Yq rfl rfl) ?_
 refine Ops.v rfl (Yv rfl rfl rfl rfl) ?_
 refine Ops.v rfl (Yr rfl rfl) ?_
 refine Ops.nil ?_
 refine AW.seq ?_
 refine AW.cut (τ := List Int) (fun l166 => ⟨[(0, C.val w00), (1, C.int p1), (3, C.int p3), (4, C.clo 239 [pt b01]), (18, C.int (IntKind.i64.wrap (shrI .u64 (IntKind.u64.wrap (IntKind.i64.wrap (p1 + p3))) 1))), (20, C.int x160), (24, C.int (IntKind.i64.wrap ((IntKind.i64.wrap ((IntKind.i64.wrap (shrI .u64 (IntKind.u64.wrap (IntKind.i64.wrap (p1 + p3))) 1)) + p2)) - x160)))], [Obj.arr w00 3 kI64 1 l166, Obj.box b01 57 [C.im kI64 1 p4_0]]⟩) (fun l166 => Zb3 p1 p2 p3 p4_0 self_ x160 l166 = some r) ?_ ?_
 ·
  refine AW.seq ?_
  refine AW.cut (τ := Bool) (fun x162 => ⟨[(0, C.val w00), (1, C.int p1), (2, C.int p2), (3, C.int p3), (4, C.clo 239 [pt b01]), (18, C.int (IntKind.i64.wrap (shrI .u64 (IntKind.u64.wrap (IntKind.i64.wrap (p1 + p3))) 1))), (20, C.int x160), (24, C.int (IntKind.i64.wrap ((IntKind.i64.wrap ((IntKind.i64.wrap (shrI .u64 (IntKind.u64.wrap (IntKind.i64.wrap (p1 + p3))) 1)) + p2)) - x160))), (185, C.bool x162)], [Obj.arr w00 3 kI64 1 p0, Obj.box b01 57 [C.im kI64 1 p4_0]]⟩) (fun x162 => Zb4 p0 p1 p2 p3 p4_0 self_ x160 x162 = some r) ?_ ?_
  ·
   refine zw ?_
   refine cnd h (fun hb161 h => ?_) fun hb161 h => ?_
   ·
    refine zw ?_
    exact ⟨decide (p2 < (IntKind.i64.wrap ((IntKind.i64.wrap ((IntKind.i64.wrap (shrI .u64 (IntKind.u64.wrap (IntKind.i64.wrap (p1 + p3))) 1)) + p2)) - x160))), h, Y21.both (ns := [0, 0]) rfl rfl⟩
   refine zw ?_
   exact ⟨false, h, Y21.both (ns := [0, 0]) rfl rfl⟩
  intro x162 h
  replace h : Zb4 p0 p1 p2 p3 p4_0 self_ x160 x162 = some r := h
  unfold Zb4 at h
  refine cnd h (fun hb163 h => ?_) fun hb163 h => ?_
  ·
   refine AW.ct hb163 rfl ?_
   refine zw ?_
   refine ob' h fun r164 g165 h => ?_
   refine Ops.hd (ns := [0, 0]) rfl rfl (Y24 (Zar p0 x160 p2 (IntKind.i64.wrap ((IntKind.i64.wrap ((IntKind.i64.wrap (shrI .u64 (IntKind.u64.wrap (IntKind.i64.wrap (p1 + p3))) 1)) + p2)) - x160)) p4_0 _ g165) rfl rfl) ?_
   refine zw ?_
   exact ⟨r164, h, Y21.both (ns := [0, 0]) rfl rfl⟩
  refine AW.cf hb163 rfl ?_
  refine zw ?_
  exact ⟨p0, h, Y21.both (ns := [0, 0]) rfl rfl⟩
 intro l166 h
 replace h : Zb3 p1 p2 p3 p4_0 self_ x160 l166 = some r := h
 unfold Zb3 at h
 refine AW.seq ?_
 refine AW.cut (τ := List Int) (fun l172 => ⟨[(0, C.val w00), (3, C.int p3), (4, C.clo 239 [pt b01]), (18, C.int (IntKind.i64.wrap (shrI .u64 (IntKind.u64.wrap (IntKind.i64.wrap (p1 + p3))) 1))), (24, C.int (IntKind.i64.wrap ((IntKind.i64.wrap ((IntKind.i64.wrap (shrI .u64 (IntKind.u64.wrap (IntKind.i64.wrap (p1 + p3))) 1)) + p2)) - x160)))], [Obj.arr w00 3 kI64 1 l172, Obj.box b01 57 [C.im kI64 1 p4_0]]⟩) (fun l172 => Zb1 p1 p2 p3 p4_0 self_ x160 l172 = some r) ?_ ?_
 ·
  refine AW.seq ?_
  refine AW.cut (τ := Bool) (fun x168 => ⟨[(0, C.val w00), (1, C.int p1), (3, C.int p3), (4, C.clo 239 [pt b01]), (18, C.int (IntKind.i64.wrap (shrI .u64 (IntKind.u64.wrap (IntKind.i64.wrap (p1 + p3))) 1))), (20, C.int x160), (24, C.int (IntKind.i64.wrap ((IntKind.i64.wrap ((IntKind.i64.wrap (shrI .u64 (IntKind.u64.wrap (IntKind.i64.wrap (p1 + p3))) 1)) + p2)) - x160))), (199, C.bool x168)], [Obj.arr w00 3 kI64 1 l166, Obj.box b01 57 [C.im kI64 1 p4_0]]⟩) (fun x168 => Zb2 p1 p2 p3 p4_0 self_ x160 l166 x168 = some r) ?_ ?_
  ·
   refine zw ?_
   refine cnd h (fun hb167 h => ?_) fun hb167 h => ?_
   ·
    refine zw ?_
    exact ⟨decide (x160 < (IntKind.i64.wrap (shrI .u64 (IntKind.u64.wrap (IntKind.i64.wrap (p1 + p3))) 1))), h, Y21.both (ns := [0, 0]) rfl rfl⟩
   refine zw ?_
   exact ⟨false, h, Y21.both (ns := [0, 0]) rfl rfl⟩
  intro x168 h
  replace h : Zb2 p1 p2 p3 p4_0 self_ x160 l166 x168 = some r := h
  unfold Zb2 at h
  refine cnd h (fun hb169 h => ?_) fun hb169 h => ?_
  ·
   refine AW.ct hb169 rfl ?_
   refine zw ?_
   refine ob' h fun r170 g171 h => ?_
   refine Ops.hd (ns := [0, 0]) rfl rfl (Y24 (hself_ l166 p1 x160 (IntKind.i64.wrap (shrI .u64 (IntKind.u64.wrap (IntKind.i64.wrap (p1 + p3))) 1)) p4_0 _ g171) rfl rfl) ?_
   refine zw ?_
   exact ⟨r170, h, Y21.both (ns := [0, 0]) rfl rfl⟩
  refine AW.cf hb169 rfl ?_
  refine zw ?_
  exact ⟨l166, h, Y21.both (ns := [0, 0]) rfl rfl⟩
 intro l172 h
 replace h : Zb1 p1 p2 p3 p4_0 self_ x160 l172 = some r := h
 unfold Zb1 at h
 refine AW.seq ?_
 refine AW.cut (τ := Bool) (fun x174 => ⟨[(0, C.val w00), (3, C.int p3), (4, C.clo 239 [pt b01]), (18, C.int (IntKind.i64.wrap (shrI .u64 (IntKind.u64.wrap (IntKind.i64.wrap (p1 + p3))) 1))), (24, C.int (IntKind.i64.wrap ((IntKind.i64.wrap ((IntKind.i64.wrap (shrI .u64 (IntKind.u64.wrap (IntKind.i64.wrap (p1 + p3))) 1)) + p2)) - x160))), (213, C.bool x174)], [Obj.arr w00 3 kI64 1 l172, Obj.box b01 57 [C.im kI64 1 p4_0]]⟩) (fun x174 => Zb0 p1 p2 p3 p4_0 self_ x160 l172 x174 = some r) ?_ ?_
 ·
  refine zw ?_
  refine cnd h (fun hb173 h => ?_) fun hb173 h => ?_
  ·
   refine zw ?_
   exact ⟨decide ((IntKind.i64.wrap ((IntKind.i64.wrap ((IntKind.i64.wrap (shrI .u64 (IntKind.u64.wrap (IntKind.i64.wrap (p1 + p3))) 1)) + p2)) - x160)) < p3), h, Y21.both (ns := [0, 0]) rfl rfl⟩
  refine zw ?_
  exact ⟨false, h, Y21.both (ns := [0, 0]) rfl rfl⟩
 intro x174 h
 replace h : Zb0 p1 p2 p3 p4_0 self_ x160 l172 x174 = some r := h
 unfold Zb0 at h
 refine cnd h (fun hb175 h => ?_) fun hb175 h => ?_
 ·
  refine AW.ct hb175 rfl ?_
  refine zw ?_
  refine ob' h fun r176 g177 h => ?_
  refine Ops.hd (ns := [0, 0]) rfl rfl (Y24 (hself_ l172 (IntKind.i64.wrap (shrI .u64 (IntKind.u64.wrap (IntKind.i64.wrap (p1 + p3))) 1)) (IntKind.i64.wrap ((IntKind.i64.wrap ((IntKind.i64.wrap (shrI .u64 (IntKind.u64.wrap (IntKind.i64.wrap (p1 + p3))) 1)) + p2)) - x160)) p3 p4_0 _ g177) rfl rfl) ?_
  refine zw ?_
  rw [← Option.some.inj h]
  exact ⟨[], _, Y21.refl _, .nil, [0, 0], _, _, rfl, ⟨rfl, rfl⟩⟩
 refine AW.cf hb175 rfl ?_
 refine zw ?_
 rw [← Option.some.inj h]
 exact ⟨[], _, Y21.refl _, .nil, [0, 0], _, _, rfl, ⟨rfl, rfl⟩⟩
def Zba : Nat → (List Int) → Int → Int → Int → (List Int) → Option (List Int)
  | 0 => fun _ _ _ _ _ => none
  | n_ + 1 => Zb8 (Zba n_)
theorem Zbb : ∀ (n_ : Nat) {w00 : Value} {b01 : Nat} (p0 : List Int) (p1 : Int) (p2 : Int) (p3 : Int) (p4_0 : List Int) (r : List Int), Zba n_ p0 p1 p2 p3 p4_0 = some r → Ok Tryz.prog 306 [C.val w00, C.int p1, C.int p2, C.int p3, C.clo 239 [pt b01]] [Obj.arr w00 3 kI64 1 p0, Obj.box b01 57 [C.im kI64 1 p4_0]] (fun c qs => c = C.tup [] ∧ qs = [Obj.arr w00 3 kI64 1 r, Obj.box b01 57 [C.im kI64 1 p4_0]]) := by
 intro n_
 induction n_ with
 | zero => intro w00 b01 p0 p1 p2 p3 p4_0 r h; cases h
 | succ n_ ih => intro w00 b01 p0 p1 p2 p3 p4_0 r h; unfold Zba at h; exact Zb9 (Zba n_) @ih p0 p1 p2 p3 p4_0 r h
def Zbc (p0 : List Int) (p1 : Int) (p2 : Int) (p3 : Int) (p4_0 : List Int) : Option (List Int) := Zba big p0 p1 p2 p3 p4_0
theorem Zbd {w00 : Value} {b01 : Nat} (p0 : List Int) (p1 : Int) (p2 : Int) (p3 : Int) (p4_0 : List Int) (r : List Int) (h : Zbc p0 p1 p2 p3 p4_0 = some r) : Ok Tryz.prog 306 [C.val w00, C.int p1, C.int p2, C.int p3, C.clo 239 [pt b01]] [Obj.arr w00 3 kI64 1 p0, Obj.box b01 57 [C.im kI64 1 p4_0]] (fun c qs => c = C.tup [] ∧ qs = [Obj.arr w00 3 kI64 1 r, Obj.box b01 57 [C.im kI64 1 p4_0]]) := Zbb big p0 p1 p2 p3 p4_0 r h

def Zbe (x31 : Int) (l47 : List Int) : Option ((List Int × Int) ⊕ ((List Int))) := some (.inl (l47, (IntKind.i64.wrap (x31 * 2))))
def Zbf (p1 : Int) (p2_0 : List Int) (x31 : Int) (l42 : List Int) (x43 : Int) : Option ((List Int × Int) ⊕ ((List Int))) := cond (decide ((IntKind.i64.wrap (x43 + x31)) < p1)) ((Zbc l42 x43 (IntKind.i64.wrap (x43 + x31)) p1 p2_0).bind fun r45 => Zbe x31 r45) (Zbe x31 l42)
def Zbg (p1 : Int) (p2_0 : List Int) (x31 : Int) (l36 : List Int) (x37 : Int) (x38 : Int) : Option ((List Int × Int × Int) ⊕ ((List Int × Int))) := cond (decide (x38 ≤ p1)) ((Zbc l36 x37 (IntKind.i64.wrap (x37 + x31)) x38 p2_0).bind fun r40 => some (.inl (r40, x38, (IntKind.i64.wrap (x38 + (IntKind.i64.wrap (2 * x31))))))) (some (.inr (l36, x37)))
def Zbh (p1 : Int) (p2_0 : List Int) (l30 : List Int) (x31 : Int) : Option ((List Int × Int) ⊕ ((List Int))) := cond (decide (x31 < p1)) ((iter (fun z48 => Zbg p1 p2_0 x31 z48.1 z48.2.1 z48.2.2) big (l30, 0, (IntKind.i64.wrap (2 * x31)))).bind fun (y49, y50) => Zbf p1 p2_0 x31 y49 y50) (some (.inr l30))
def Zbi (p1 : Int) (p2_0 : List Int) (l10 : List Int) (x11 : Int) : Option (List Int) := (Zaj l10 x11 p1 p2_0).bind fun r12 => (iter (fun z51 => Zbh p1 p2_0 z51.1 z51.2) big (r12, 20)).bind fun y52 => some y52
def Zbj (p1 : Int) (p2_0 : List Int) (l4 : List Int) (x5 : Int) (x6 : Int) : Option ((List Int × Int × Int) ⊕ ((List Int × Int))) := cond (decide (x6 ≤ p1)) ((Zaj l4 x5 x6 p2_0).bind fun r8 => some (.inl (r8, x6, (IntKind.i64.wrap (x6 + 20))))) (some (.inr (l4, x5)))
def Zbk (p0 : List Int) (p1 : Int) (p2_0 : List Int) : Option (List Int) := (iter (fun z53 => Zbj p1 p2_0 z53.1 z53.2.1 z53.2.2) big (p0, 0, 20)).bind fun (y54, y55) => Zbi p1 p2_0 y54 y55
set_option maxHeartbeats 1000000 in
theorem Zbl {w00 : Value} {b01 : Nat} (p0 : List Int) (p1 : Int) (p2_0 : List Int) (r : List Int) (h : Zbk p0 p1 p2_0 = some r) : Ok Tryz.prog 283 [C.val w00, C.int p1, C.clo 239 [pt b01]] [Obj.arr w00 3 kI64 1 p0, Obj.box b01 57 [C.im kI64 1 p2_0]] (fun c qs => c = C.tup [] ∧ qs = [Obj.arr w00 3 kI64 1 r, Obj.box b01 57 [C.im kI64 1 p2_0]]) := by
 refine Ok.of_body (rs := []) Tryz.func283 rfl rfl rfl rfl rfl fun X => ?_
 unfold Zbk at h
 refine AW.seq ?_
 refine AW.region ?_
 refine Ops.v rfl (Yr rfl rfl) ?_
 refine Ops.nil ?_
 refine AW.seq ?_
 refine AW.region ?_
 refine Ops.v rfl (Yq rfl rfl) ?_
 refine Ops.v rfl (Yr rfl rfl) ?_
 refine Ops.v rfl (Yr rfl rfl) ?_
 refine Ops.nil ?_
 refine AW.seq ?_
 refine AW.cut (τ := List Int × Int) (fun (l10, x11) => ⟨[(0, C.val w00), (1, C.int p1), (2, C.clo 239 [pt b01]), (6, C.int 20), (7, C.int x11)], [Obj.arr w00 3 kI64 1 l10, Obj.box b01 57 [C.im kI64 1 p2_0]]⟩) (fun (l10, x11) => Zbi p1 p2_0 l10 x11 = some r) ?_ ?_
 ·
  refine zw ?_
  refine ob' h fun o70 g71 q72 => ?_
  refine AW.loop (τ := List Int × Int × Int) (x := (p0, 0, 20)) (fun (l4, x5, x6) => ⟨[(0, C.val w00), (1, C.int p1), (2, C.clo 239 [pt b01]), (6, C.int 20), (7, C.int x5), (8, C.int x6)], [Obj.arr w00 3 kI64 1 l4, Obj.box b01 57 [C.im kI64 1 p2_0]]⟩) (fun k (l4, x5, x6) => iter (fun z53 => Zbj p1 p2_0 z53.1 z53.2.1 z53.2.2) k (l4, x5, x6) = some o70) g71 (Y21.both (ns := [0, 0]) rfl rfl) ?_
  rintro k ⟨l4, x5, x6⟩ i74
  refine Y41 (show iter (fun z53 => Zbj p1 p2_0 z53.1 z53.2.1 z53.2.2) k (l4, x5, x6) = some o70 from i74) fun k73 y75 hlt_k73 h h76 => ?_
  replace h : Zbj p1 p2_0 l4 x5 x6 = some y75 := h
  unfold Zbj at h
  refine zw ?_
  refine cnd h (fun hb7 h => ?_) fun hb7 h => ?_
  ·
   refine AW.ct hb7 rfl ?_
   refine zw ?_
   refine ob' h fun r8 g9 h => ?_
   refine Ops.hd (ns := [0, 0]) rfl rfl (Y24 (Zak l4 x5 x6 p2_0 _ g9) rfl rfl) ?_
   refine zw ?_
   obtain rfl := Option.some.inj h
   exact ⟨k73, (r8, x6, (IntKind.i64.wrap (x6 + 20))), hlt_k73, h76, Y21.both (ns := [0, 0]) rfl rfl⟩
  refine AW.cf hb7 rfl ?_
  refine AW.exit ?_
  obtain rfl := Option.some.inj h
  obtain rfl := Option.some.inj h76
  replace h := q72
  exact ⟨(l4, x5), h, Y21.both (ns := [0, 0]) rfl rfl⟩
 rintro ⟨l10, x11⟩ h
 replace h : Zbi p1 p2_0 l10 x11 = some r := h
 unfold Zbi at h
 refine zw ?_
 refine ob' h fun r12 g13 h => ?_
 refine Ops.hd (ns := [0, 0]) rfl rfl (Y24 (Zak l10 x11 p1 p2_0 _ g13) rfl rfl) ?_
 refine zw ?_
 refine ob' h fun o56 g57 q58 => ?_
 refine AW.loop (τ := List Int × Int) (x := (r12, 20)) (fun (l30, x31) => ⟨[(0, C.val w00), (1, C.int p1), (2, C.clo 239 [pt b01]), (6, C.int x31)], [Obj.arr w00 3 kI64 1 l30, Obj.box b01 57 [C.im kI64 1 p2_0]]⟩) (fun k (l30, x31) => iter (fun z51 => Zbh p1 p2_0 z51.1 z51.2) k (l30, x31) = some o56) g57 (Y21.both (ns := [0, 0]) rfl rfl) ?_
 rintro k ⟨l30, x31⟩ i60
 refine Y41 (show iter (fun z51 => Zbh p1 p2_0 z51.1 z51.2) k (l30, x31) = some o56 from i60) fun k59 y61 hlt_k59 h h62 => ?_
 replace h : Zbh p1 p2_0 l30 x31 = some y61 := h
 unfold Zbh at h
 refine zw ?_
 refine cnd h (fun hb32 h => ?_) fun hb32 h => ?_
 ·
  refine AW.ct hb32 rfl ?_
  refine AW.skip ?_
  refine AW.block ?_
  refine AW.seq ?_
  refine AW.region ?_
  refine Ops.v rfl (Yq rfl rfl) ?_
  refine Ops.v rfl (Yv rfl rfl rfl rfl) ?_
  refine Ops.v rfl (Yr rfl rfl) ?_
  refine Ops.v rfl (Yr rfl rfl) ?_
  refine Ops.nil ?_
  refine AW.seq ?_
  refine AW.cut (τ := List Int × Int) (fun (l42, x43) => ⟨[(0, C.val w00), (1, C.int p1), (2, C.clo 239 [pt b01]), (6, C.int x31), (7, C.int x43)], [Obj.arr w00 3 kI64 1 l42, Obj.box b01 57 [C.im kI64 1 p2_0]]⟩) (fun (l42, x43) => Zbf p1 p2_0 x31 l42 x43 = some y61) ?_ ?_
  ·
   refine zw ?_
   refine ob' h fun o63 g64 q65 => ?_
   refine AW.loop (τ := List Int × Int × Int) (x := (l30, 0, (IntKind.i64.wrap (2 * x31)))) (fun (l36, x37, x38) => ⟨[(0, C.val w00), (1, C.int p1), (2, C.clo 239 [pt b01]), (6, C.int x31), (7, C.int x37), (8, C.int x38)], [Obj.arr w00 3 kI64 1 l36, Obj.box b01 57 [C.im kI64 1 p2_0]]⟩) (fun k (l36, x37, x38) => iter (fun z48 => Zbg p1 p2_0 x31 z48.1 z48.2.1 z48.2.2) k (l36, x37, x38) = some o63) g64 (Y21.both (ns := [0, 0]) rfl rfl) ?_
   rintro k ⟨l36, x37, x38⟩ i67
   refine Y41 (show iter (fun z48 => Zbg p1 p2_0 x31 z48.1 z48.2.1 z48.2.2) k (l36, x37, x38) = some o63 from i67) fun k66 y68 hlt_k66 h h69 => ?_
   replace h : Zbg p1 p2_0 x31 l36 x37 x38 = some y68 := h
   unfold Zbg at h
   refine zw ?_
   refine cnd h (fun hb39 h => ?_) fun hb39 h => ?_
   ·
    refine AW.ct hb39 rfl ?_
    refine zw ?_
    refine ob' h fun r40 g41 h => ?_
    refine Ops.hd (ns := [0, 0]) rfl rfl (Y24 (Zbd l36 x37 (IntKind.i64.wrap (x37 + x31)) x38 p2_0 _ g41) rfl rfl) ?_
    refine zw ?_
    obtain rfl := Option.some.inj h
    exact ⟨k66, (r40, x38, (IntKind.i64.wrap (x38 + (IntKind.i64.wrap (2 * x31))))), hlt_k66, h69, Y21.both (ns := [0, 0]) rfl rfl⟩
   refine AW.cf hb39 rfl ?_
   refine AW.exit ?_
   obtain rfl := Option.some.inj h
   obtain rfl := Option.some.inj h69
   replace h := q65
   exact ⟨(l36, x37), h, Y21.both (ns := [0, 0]) rfl rfl⟩
  rintro ⟨l42, x43⟩ h
  replace h : Zbf p1 p2_0 x31 l42 x43 = some y61 := h
  unfold Zbf at h
  refine AW.seq ?_
  refine AW.cut (τ := List Int) (fun l47 => ⟨[(0, C.val w00), (1, C.int p1), (2, C.clo 239 [pt b01]), (6, C.int x31)], [Obj.arr w00 3 kI64 1 l47, Obj.box b01 57 [C.im kI64 1 p2_0]]⟩) (fun l47 => Zbe x31 l47 = some y61) ?_ ?_
  ·
   refine zw ?_
   refine cnd h (fun hb44 h => ?_) fun hb44 h => ?_
   ·
    refine AW.ct hb44 rfl ?_
    refine zw ?_
    refine ob' h fun r45 g46 h => ?_
    refine Ops.hd (ns := [0, 0]) rfl rfl (Y24 (Zbd l42 x43 (IntKind.i64.wrap (x43 + x31)) p1 p2_0 _ g46) rfl rfl) ?_
    refine zw ?_
    exact ⟨r45, h, Y21.both (ns := [0, 0]) rfl rfl⟩
   refine AW.cf hb44 rfl ?_
   refine zw ?_
   exact ⟨l42, h, Y21.both (ns := [0, 0]) rfl rfl⟩
  intro l47 h
  replace h : Zbe x31 l47 = some y61 := h
  unfold Zbe at h
  refine zw ?_
  obtain rfl := Option.some.inj h
  exact ⟨k59, (l47, (IntKind.i64.wrap (x31 * 2))), hlt_k59, h62, Y21.both (ns := [0, 0]) rfl rfl⟩
 refine AW.cf hb32 rfl ?_
 refine AW.exit ?_
 obtain rfl := Option.some.inj h
 obtain rfl := Option.some.inj h62
 replace h := q58
 rw [← Option.some.inj h]
 exact ⟨[], _, Y21.refl _, .nil, [0, 0], _, _, rfl, ⟨rfl, rfl⟩⟩

def Zbm (p0 : List Int) (p1_0 : List Int) : Option (List Int) := (Zbk p0 (p0.length : Int) p1_0).bind fun r1 => some r1
theorem Zbn {w00 : Value} {b01 : Nat} (p0 : List Int) (p1_0 : List Int) (r : List Int) (h : Zbm p0 p1_0 = some r) : Ok Tryz.prog 238 [C.val w00, C.clo 239 [pt b01]] [Obj.arr w00 3 kI64 1 p0, Obj.box b01 57 [C.im kI64 1 p1_0]] (fun c qs => c = C.tup [] ∧ qs = [Obj.arr w00 3 kI64 1 r, Obj.box b01 57 [C.im kI64 1 p1_0]]) := by
 refine Ok.of_body (rs := []) Tryz.func238 rfl rfl rfl rfl rfl fun X => ?_
 unfold Zbm at h
 refine zw ?_
 refine ob' h fun r1 g2 h => ?_
 refine Ops.hd (ns := [0, 0]) rfl rfl (Y24 (Zbl p0 (p0.length : Int) p1_0 _ g2) rfl rfl) ?_
 refine zw ?_
 rw [← Option.some.inj h]
 exact ⟨[], _, Y21.refl _, .nil, [0, 0], _, _, rfl, ⟨rfl, rfl⟩⟩

def Zbo (l46 : List Int) : Option (List Int) := some l46
def Zbp (p0 : Y90) (r21 : List Int) (l34 : List Int) (x35 : Int) : Option ((List Int × Int) ⊕ ((List Int))) := cond (decide (x35 < (r21.length : Int))) ((getI r21 x35).bind fun e37 => (getI p0.events e37).bind fun e39 => (chk (decide ((l34.length + [e39.id].length) * 8 ≤ 140737488355328))).bind fun u43 => some (.inl ((l34 ++ [e39.id]), (IntKind.i64.wrap (x35 + 1))))) (some (.inr l34))
def Zbq (p0 : Y90) (r2 : List Int × Bool) (l20 : List Int) : Option (List Int) := (Zbm l20 r2.1).bind fun r21 => (iter (fun z48 => Zbp p0 r21 z48.1 z48.2) big (([] : List Int), 0)).bind fun y49 => Zbo y49
def Zbr (p0 : Y90) (l12 : List Int) (x13 : Int) : Option ((List Int × Int) ⊕ ((List Int))) := cond (decide (x13 < (p0.events.length : Int))) ((chk (decide ((l12.length + [x13].length) * 8 ≤ 140737488355328))).bind fun u17 => some (.inl ((l12 ++ [x13]), (IntKind.i64.wrap (x13 + 1))))) (some (.inr l12))
def Zbs (p0 : Y90) : Option (List Int) := (Z9r p0).bind fun r2 => (iter (fun z50 => Zbr p0 z50.1 z50.2) big (([] : List Int), 0)).bind fun y51 => Zbq p0 r2 y51
set_option maxHeartbeats 1000000 in
theorem Zbt (p0 : Y90) (r : List Int) (h : Zbs p0 = some r) : Ok Tryz.prog 191 [C.agg [C.int p0.room, C.im Y98 9 p0.events, C.im Y98 9 p0.parked]] [] (fun c qs => ∃ (v47 : Value), c = C.val v47 ∧ qs = [Obj.arr v47 2 kI64 1 r]) := by
 refine Ok.of_body (rs := [.tmp 2]) Tryz.func191 rfl rfl rfl rfl rfl fun X => ?_
 unfold Zbs at h
 refine zw ?_
 refine ox fun b1 => ?_
 refine zw ?_
 refine oc h fun r2 g3 h => ?_
 refine zw ?_
 refine Ops.h (ns := []) rfl rfl (Y1p (cs := [C.val s0]) Ycw (Y42 rfl rfl) rfl) ?_
 rintro _ _ ⟨b4, rfl, rfl⟩
 refine Ops.hd (ns := [0]) rfl rfl (Y1t (gs := [C.im kI64 1 r2.1]) Y9s.h rfl rfl One.im rfl rfl) ?_
 refine zw ?_
 refine Ops.h (ns := []) rfl rfl (Y39 (k := kI64) (ys := ([] : List Int)) Ycx .nil rfl rfl rfl) ?_
 rintro _ _ ⟨b5, rfl, rfl⟩
 refine Ops.v rfl (Yr rfl rfl) ?_
 refine Ops.nil ?_
 refine AW.seq ?_
 refine AW.cut (τ := List Int × Value) (fun (l20, v19) => ⟨[(1, pt b1), (3, pt b4), (5, C.val v19)], [Obj.box b1 139 [C.int p0.room, C.im Y98 9 p0.events, C.im Y98 9 p0.parked], Obj.box b4 57 [C.im kI64 1 r2.1], Obj.arr v19 3 kI64 1 l20]⟩) (fun (l20, v19) => Zbq p0 r2 l20 = some r) ?_ ?_
 ·
  refine zw ?_
  refine AW.lp h (fun (l12, x13) (v11 : Value) => ⟨[(1, pt b1), (3, pt b4), (5, C.val v11), (18, C.int (p0.events.length : Int)), (19, C.int x13)], [Obj.box b1 139 [C.int p0.room, C.im Y98 9 p0.events, C.im Y98 9 p0.parked], Obj.box b4 57 [C.im kI64 1 r2.1], Obj.arr v11 3 kI64 1 l12]⟩) (gb [2, 1, 0]) ?_
  rintro ⟨l12, x13⟩ v11 y64 h
  refine zw ?_
  refine cnd h (fun hb14 h => ?_) fun hb14 h => ?_
  ·
   refine AW.ct hb14 rfl ?_
   refine zw ?_
   refine Ops.h (ns := []) rfl rfl (Y39 (k := kI64) (ys := [x13]) Ycx (.one rfl (One.val rfl) rfl rfl .nil) rfl rfl rfl) ?_
   rintro _ _ ⟨b15, rfl, rfl⟩
   refine ob' h fun u17 c16 h => ?_
   refine Ops.h (ns := [3, 0]) rfl rfl (Y2s Ycx rfl rfl (of_decide_eq_true (Y3t c16)) (Y3w (by decide) c16) rfl) ?_
   rintro _ _ ⟨v18, rfl, rfl⟩
   exact go
  exact go
 rintro ⟨l20, v19⟩ h
 replace h : Zbq p0 r2 l20 = some r := h
 unfold Zbq at h
 refine zw ?_
 refine Ops.v rfl (Y6q rfl rfl) ?_
 refine ob' h fun r21 g22 h => ?_
 refine Ops.hd (ns := [2, 1]) rfl rfl (Y24 (Zbn l20 r2.1 _ g22) rfl rfl) ?_
 refine zw ?_
 refine Ops.h (ns := []) rfl rfl (Y39 (k := kI64) (ys := ([] : List Int)) Ya6 .nil rfl rfl rfl) ?_
 rintro _ _ ⟨b23, rfl, rfl⟩
 refine Ops.v rfl (Yr rfl rfl) ?_
 refine Ops.nil ?_
 refine AW.seq ?_
 refine AW.cut (τ := List Int × Value) (fun (l46, v45) => ⟨[(7, C.val v45)], [Obj.arr v45 2 kI64 1 l46]⟩) (fun (l46, v45) => Zbo l46 = some r) ?_ ?_
 ·
  refine zw ?_
  refine AW.lp h (fun (l34, x35) (v33 : Value) => ⟨[(1, pt b1), (7, C.val v33), (31, C.val v19), (32, C.int (r21.length : Int)), (33, C.int x35)], [Obj.box b1 139 [C.int p0.room, C.im Y98 9 p0.events, C.im Y98 9 p0.parked], Obj.arr v33 2 kI64 1 l34, Obj.arr v19 3 kI64 1 r21]⟩) (gb [3, 0, 0]) ?_
  rintro ⟨l34, x35⟩ v33 y57 h
  refine zw ?_
  refine cnd h (fun hb36 h => ?_) fun hb36 h => ?_
  ·
   refine AW.ct hb36 rfl ?_
   refine zw ?_
   refine ob' h fun e37 g38 h => ?_
   refine Ops.v rfl (Y2x (p := 2) Ycy.h rfl rfl rfl g38 rfl) ?_
   refine Ops.v rfl (Y30 (p := 2) ld_3.h rfl rfl (Y29 g38).2.2 rfl rfl) ?_
   refine zw ?_
   refine oi h fun e39 g40 h => ?_
   refine zw ?_
   refine Ops.h (ns := []) rfl rfl (Y39 (k := kI64) (ys := [e39.id]) Ya6 (.one rfl (One.val rfl) rfl rfl .nil) rfl rfl rfl) ?_
   rintro _ _ ⟨b41, rfl, rfl⟩
   refine ob' h fun u43 c42 h => ?_
   refine Ops.h (ns := [2, 0]) rfl rfl (Y2s Ya6 rfl rfl (of_decide_eq_true (Y3t c42)) (Y3w (by decide) c42) rfl) ?_
   rintro _ _ ⟨v44, rfl, rfl⟩
   exact go
  exact go
 rintro ⟨l46, v45⟩ h
 replace h : Zbo l46 = some r := h
 unfold Zbo at h
 refine zw ?_
 refine AW.ret ?_
 rw [← Option.some.inj h]
 exact ⟨[C.val v45], _, Y21.refl _, (.cons (.tmp rfl) .nil), [0], _, _, rfl, ⟨v45, rfl, rfl⟩⟩
instance Zbt' (p0 : Y90) : Sp Tryz.prog 191 [C.agg [C.int p0.room, C.im Y98 9 p0.events, C.im Y98 9 p0.parked]] (Zbs p0) (fun r => C.im kI64 1 r) := ⟨fun r h => Ok.freeze (Zbt p0 r h) (by rintro c qs ⟨v47, rfl, rfl⟩; exact Frz.arr)⟩

def Zbu (p0 : Y90) (p1 : Int) : Option (Y8w × Bool) := (Z96 p0.events p1).bind fun r3 => cond r3.2 ((getI p0.events r3.1).bind fun e6 => some (e6, true)) (some ((Y8w.mk 0 0 0 0 0 0 ByteArray.empty [] 0), false))
set_option maxHeartbeats 1000000 in
instance Zbv (p0 : Y90) (p1 : Int) : Sp Tryz.prog 139 [C.agg [C.int p0.room, C.im Y98 9 p0.events, C.im Y98 9 p0.parked], C.int p1] (Zbu p0 p1) (fun r => C.tup [C.agg [C.int r.1.id, C.int r.1.room, C.int r.1.author, C.int r.1.kind, C.int r.1.key, C.int r.1.n, C.str r.1.text, C.im kI64 1 r.1.prev, C.int r.1.time], C.bool r.2]) := sp Tryz.func139 rfl rfl fun r X h => by
 unfold Zbu at h
 refine zw ?_
 refine ox fun b1 => ?_
 refine Ops.h (ns := []) rfl rfl (Y1p (cs := [C.int 0, C.int 0, C.int 0, C.int 0, C.int 0, C.int 0, C.str ByteArray.empty, C.val s0, C.int 0]) Ya7 (Y42 rfl rfl) rfl) ?_
 rintro _ _ ⟨b2, rfl, rfl⟩
 refine zw ?_
 refine oc h fun r3 g4 h => ?_
 refine zw ?_
 refine cnd h (fun hb5 h => ?_) fun hb5 h => ?_
 ·
  refine AW.cond rfl (fun hn => absurd ((Y3u hb5).symm.trans hn) (by decide)) (fun _ => ?_)
  refine zw ?_
  refine oi h fun e6 g7 h => ?_
  refine zw ?_
  refine Ops.hd (ns := [0]) rfl rfl (Y1u (gs := [C.int e6.id, C.int e6.room, C.int e6.author, C.int e6.kind, C.int e6.key, C.int e6.n, C.str e6.text, C.im kI64 1 e6.prev, C.int e6.time]) Yao.h rfl rfl rfl rfl rfl) ?_
  refine zw ?_
  refine AW.ret ?_
  rw [← Option.some.inj h]
  exact ⟨[C.agg [C.int e6.id, C.int e6.room, C.int e6.author, C.int e6.kind, C.int e6.key, C.int e6.n, C.str e6.text, C.im kI64 1 e6.prev, C.int e6.time], C.bool true], _, Y21.refl _, (.cons (.cell (p := 0) rfl rfl Yao.h rfl) (.cons (.tmp rfl) .nil)), [], _, _, rfl, ⟨rfl, rfl⟩⟩
 refine AW.cond rfl (fun _ => ?_) (fun hn => absurd ((Y3v hb5).symm.trans hn) (by decide))
 refine zw ?_
 refine Ops.v rfl (Y38 (ds := [C.int 0, C.int 0, C.int 0, C.int 0, C.int 0, C.int 0, C.str ByteArray.empty, C.val s0, C.int 0]) Ybv Ya7 (Y42 rfl rfl) .nil rfl) ?_
 refine Ops.hd (ns := [0]) rfl rfl (Y1u (gs := [C.int 0, C.int 0, C.int 0, C.int 0, C.int 0, C.int 0, C.str ByteArray.empty, C.val s0, C.int 0]) Yao.h rfl rfl rfl rfl rfl) ?_
 refine zw ?_
 refine AW.ret ?_
 rw [← Option.some.inj h]
 exact ⟨[C.agg [C.int 0, C.int 0, C.int 0, C.int 0, C.int 0, C.int 0, C.str ByteArray.empty, C.im kI64 1 [], C.int 0], C.bool false], _, Y21.boxFrz (ns := [0]) rfl (FrzL.cons (os := []) (Frz.same _) (FrzL.cons (os := []) (Frz.same _) (FrzL.cons (os := []) (Frz.same _) (FrzL.cons (os := []) (Frz.same _) (FrzL.cons (os := []) (Frz.same _) (FrzL.cons (os := []) (Frz.same _) (FrzL.cons (os := []) (Frz.same _) (FrzL.cons (os := []) (Frz.imp (Imp.nil kI64 1)) (FrzL.cons (os := []) (Frz.same _) FrzL.nil))))))))), (.cons (.cell (p := 0) rfl rfl Yao.h rfl) (.cons (.tmp rfl) .nil)), [], _, _, rfl, ⟨rfl, rfl⟩⟩

end Go.Proofs.YtbgichfjcnibpaaGreat
