/- Printed by gen.py: plain functions for Go functions, and that the walks keep to them. -/
import Derived.Test.YtbgichfjcnibpaaGreatFQ3
set_option autoImplicit false
set_option linter.unusedVariables false
set_option linter.unusedSimpArgs false
set_option maxHeartbeats 1000000
set_option maxRecDepth 100000
namespace Go.Proofs.YtbgichfjcnibpaaGreat
open Go Go.Abs
attribute [local irreducible] AW Ops OpsD Y3k
def Z7w (p1 : Y8k) (p2 : Int) (r3 : Y8p × Bool) (x11 : Bool) : Option Int := cond x11 (some (-1)) ((Z7u r3.1 p1 p2).bind fun r13 => some (r13.length : Int))
def Z7x (p0 : Y8m) (p1 : Y8k) (p2 : Int) : Option Int := (Z73 p0).bind fun r3 => cond r3.2 ((Z78 p1).bind fun r6 => cond r6 ((Z7a p2).bind fun r9 => Z7w p1 p2 r3 (!r9)) (Z7w p1 p2 r3 true)) (Z7w p1 p2 r3 true)
instance Z7y (p0 : Y8m) (p1 : Y8k) (p2 : Int) : Sp Tryz.prog 39 [C.agg [cM Y8y 3 p0.rooms, cM Y8v 2 p0.stream], C.agg [cI p1.user, cM kI64 1 p1.at_], cI p2] (Z7x p0 p1 p2) cI := sp Tryz.func39 rfl rfl fun r X h => by
 unfold Z7x at h
 refine zw ?_
 refine ox fun b1 => ?_
 refine ox fun b2 => ?_
 refine zw ?_
 refine oc h fun r3 g4 h => ?_
 refine zw ?_
 refine cnd h (fun hb5 h => ?_) fun hb5 h => ?_
 ·
  refine zw ?_
  refine ob' h fun r6 g7 h => ?_
  refine Ops.ghd (ns := []) rfl rfl rfl rfl (Y3r hb5) rfl (Y22 ((Z79 _).h _ g7) rfl rfl) ?_
  refine zw ?_
  refine cnd h (fun hb8 h => ?_) fun hb8 h => ?_
  ·
   refine zw ?_
   refine ob' h fun r9 g10 h => ?_
   refine Ops.ghd (ns := []) rfl rfl rfl rfl (Y3r hb8) rfl (Y22 ((Z7b _).h _ g10) rfl rfl) ?_
   exact go
  exact go
 exact go

def Z7z (x2 : Bool) : Option Bool := some x2
def Z80 (p0 : Int) (p1 : Int) (p2 : Int) : Option Bool := cond (decide (p1 ≤ p0)) (Z7z (decide (p0 ≤ p2))) (Z7z false)
instance Z81 (p0 : Int) (p1 : Int) (p2 : Int) : Sp Tryz.prog 115 [cI p0, cI p1, cI p2] (Z80 p0 p1 p2) C.bool := sp Tryz.func115 rfl rfl fun r X h => go

def Z82 (p0 : Int) : Option Bool := (Z80 p0 1 3).bind fun r1 => some r1
instance Z83 (p0 : Int) : Sp Tryz.prog 74 [cI p0] (Z82 p0) C.bool := sp Tryz.func74 rfl rfl fun r X h => go

def Z84 (p0 : Int) : Option Bool := (Z80 p0 1 1000000).bind fun r1 => some r1
instance Z85 (p0 : Int) : Sp Tryz.prog 301 [cI p0] (Z84 p0) C.bool := sp Tryz.func301 rfl rfl fun r X h => go

def Z86 (p0 : Int) : Option Bool := (Z80 p0 1 6).bind fun r1 => some r1
instance Z87 (p0 : Int) : Sp Tryz.prog 99 [cI p0] (Z86 p0) C.bool := sp Tryz.func99 rfl rfl fun r X h => go

def Z88 (p0 : Int) : Option Bool := (Z80 p0 0 1000000).bind fun r1 => some r1
instance Z89 (p0 : Int) : Sp Tryz.prog 302 [cI p0] (Z88 p0) C.bool := sp Tryz.func302 rfl rfl fun r X h => go

def Z8a : Option Bool := some true
def Z8b (x12 : Int) (x22 : Bool) : Option (Int ⊕ (Bool ⊕ Unit)) := cond x22 (some (.inr (.inl false))) (some (.inl (IntKind.i64.wrap (x12 + 1))))
def Z8c (p0 : List Int) (p1 : Int) (p2 : Int) (x12 : Int) : Option (Int ⊕ (Bool ⊕ Unit)) := cond (decide (x12 < (p0.length : Int))) ((getI p0 x12).bind fun e14 => (Z80 e14 p1 p2).bind fun r16 => cond r16 (cond (decide (x12 > 0)) ((getI p0 (IntKind.i64.wrap (x12 - 1))).bind fun e20 => Z8b x12 (decide (e20 ≥ e14))) (Z8b x12 false)) (Z8b x12 true)) (some (.inr (.inr ())))
def Z8d (p0 : List Int) (p1 : Int) (p2 : Int) : Option Bool := (iter (Z8c p0 p1 p2) big 0).bind (fun z25 => match z25 with | .inl y24 => some y24 | .inr () => Z8a)
instance Z8e (p0 : List Int) (p1 : Int) (p2 : Int) : Sp Tryz.prog 303 [cM kI64 1 p0, cI p1, cI p2] (Z8d p0 p1 p2) C.bool := sp Tryz.func303 rfl rfl fun r X h => by
 unfold Z8d at h
 refine zw ?_
 refine AW.lp (v := ()) h (fun x12 (_ : Unit) => ⟨[(0, cM kI64 1 p0), (1, cI p1), (2, cI p2), (9, cM kI64 1 p0), (10, cI (p0.length : Int)), (11, cI x12)], []⟩) (gb []) ?_
 rintro x12 _ y31 h
 exact go

def Z8f : Option Int := some (-1)
def Z8g (p0 : List Int) (p1 : Int) (x5 : Int) : Option (Int ⊕ (Int ⊕ Unit)) := cond (decide (x5 < (p0.length : Int))) ((getI p0 x5).bind fun e7 => cond (p1 == e7) (some (.inr (.inl x5))) (some (.inl (IntKind.i64.wrap (x5 + 1))))) (some (.inr (.inr ())))
def Z8h (p0 : List Int) (p1 : Int) : Option Int := (iter (Z8g p0 p1) big 0).bind (fun z11 => match z11 with | .inl y10 => some y10 | .inr () => Z8f)
instance Z8i (p0 : List Int) (p1 : Int) : Sp Tryz.prog 258 [cM kI64 1 p0, cI p1] (Z8h p0 p1) cI := sp Tryz.func258 rfl rfl fun r X h => by
 unfold Z8h at h
 refine zw ?_
 refine AW.lp (v := ()) h (fun x5 (_ : Unit) => ⟨[(0, cM kI64 1 p0), (1, cI p1), (7, cI (p0.length : Int)), (8, cI x5)], []⟩) (gb []) ?_
 rintro x5 _ y17 h
 exact go

def Z8j (p0 : List Int) (p1 : Int) : Option Bool := (Z8h p0 p1).bind fun r1 => some (decide (r1 ≥ 0))
instance Z8k (p0 : List Int) (p1 : Int) : Sp Tryz.prog 208 [cM kI64 1 p0, cI p1] (Z8j p0 p1) C.bool := sp Tryz.func208 rfl rfl fun r X h => go

def Z8l (x5 : Bool) : Option Bool := some x5
def Z8m (x13 : Bool) : Option Bool := some x13
def Z8n (x21 : Bool) : Option Bool := some x21
def Z8o (x25 : Bool) : Option Bool := some x25
def Z8p (x31 : Bool) : Option Bool := some x31
def Z8q (x37 : Bool) : Option Bool := some x37
def Z8r (x43 : Bool) : Option Bool := some x43
def Z8s (x49 : Bool) : Option Bool := some x49
def Z8t (p0 : Y8h) : Option Bool := cond (p0.kind == 1) (cond (p0.key == 0) (cond (p0.n == 0) (Z8l ((p0.text.size : Int) == 0)) (Z8l false)) (Z8l false)) (cond (p0.kind == 2) ((Z86 p0.key).bind fun r7 => cond r7 ((Z80 p0.n 1 4).bind fun r10 => cond r10 (Z8m ((p0.text.size : Int) == 0)) (Z8m false)) (Z8m false)) (cond (p0.kind == 3) ((Z86 p0.key).bind fun r15 => cond r15 ((Z80 p0.n 0 100).bind fun r18 => cond r18 (Z8n ((p0.text.size : Int) == 0)) (Z8n false)) (Z8n false)) (cond (p0.kind == 4) (cond (p0.key == 0) (cond (p0.n == 0) (Z8o (decide ((p0.text.size : Int) ≤ 30))) (Z8o false)) (Z8o false)) (cond (p0.kind == 5) (cond (p0.key == 0) ((Z80 p0.n 1 2).bind fun r28 => cond r28 (Z8p ((p0.text.size : Int) == 0)) (Z8p false)) (Z8p false)) (cond (p0.kind == 6) (cond (p0.key == 0) ((Z80 p0.n 1 3).bind fun r34 => cond r34 (Z8q ((p0.text.size : Int) == 0)) (Z8q false)) (Z8q false)) (cond (p0.kind == 7) (cond (p0.key == 0) (cond (p0.n == 0) ((Z80 (p0.text.size : Int) 1 30).bind fun r41 => Z8r r41) (Z8r false)) (Z8r false)) (cond (p0.kind == 8) ((Z84 p0.key).bind fun r45 => cond r45 (cond (p0.n == 0) (Z8s ((p0.text.size : Int) == 0)) (Z8s false)) (Z8s false)) (Z8s false))))))))
instance Z8u (p0 : Y8h) : Sp Tryz.prog 304 [C.agg [cI p0.id, cI p0.room, cI p0.author, cI p0.kind, cI p0.key, cI p0.n, C.str p0.text, cM kI64 1 p0.prev, cI p0.time]] (Z8t p0) C.bool := sp Tryz.func304 rfl rfl fun r X h => by
 unfold Z8t at h
 refine zw ?_
 refine ox fun b1 => ?_
 refine zw ?_
 refine rD [0] [1,4,7] [] [0,5,8,12,17,20,24,29,32,36,40,44] ?_
 refine zw ?_
 refine cnd h (fun hb2 h => go) fun hb2 h => ?_
 refine AW.cf hb2 rfl ?_
 refine zw ?_
 refine cnd h (fun hb6 h => ?_) fun hb6 h => ?_
 ·
  refine AW.ct hb6 rfl ?_
  refine zw ?_
  refine oc h fun r7 g8 h => ?_
  refine zw ?_
  refine cnd h (fun hb9 h => ?_) fun hb9 h => ?_
  ·
   refine zw ?_
   refine ob' h fun r10 g11 h => ?_
   refine Ops.ghd (ns := []) rfl rfl rfl rfl hb9 rfl (Y22 ((Z81 _ _ _).h _ g11) rfl rfl) ?_
   exact go
  exact go
 refine AW.cf hb6 rfl ?_
 refine zw ?_
 refine cnd h (fun hb14 h => ?_) fun hb14 h => ?_
 ·
  refine AW.ct hb14 rfl ?_
  refine zw ?_
  refine oc h fun r15 g16 h => ?_
  refine zw ?_
  refine cnd h (fun hb17 h => ?_) fun hb17 h => ?_
  ·
   refine zw ?_
   refine ob' h fun r18 g19 h => ?_
   refine Ops.ghd (ns := []) rfl rfl rfl rfl hb17 rfl (Y22 ((Z81 _ _ _).h _ g19) rfl rfl) ?_
   exact go
  exact go
 refine AW.cf hb14 rfl ?_
 refine zw ?_
 refine cnd h (fun hb22 h => go) fun hb22 h => ?_
 refine AW.cf hb22 rfl ?_
 refine zw ?_
 refine cnd h (fun hb26 h => ?_) fun hb26 h => ?_
 ·
  refine AW.ct hb26 rfl ?_
  refine zw ?_
  refine cnd h (fun hb27 h => ?_) fun hb27 h => ?_
  ·
   refine zw ?_
   refine ob' h fun r28 g29 h => ?_
   refine Ops.ghd (ns := []) rfl rfl rfl rfl hb27 rfl (Y22 ((Z81 _ _ _).h _ g29) rfl rfl) ?_
   exact go
  exact go
 refine AW.cf hb26 rfl ?_
 refine zw ?_
 refine cnd h (fun hb32 h => ?_) fun hb32 h => ?_
 ·
  refine AW.ct hb32 rfl ?_
  refine zw ?_
  refine cnd h (fun hb33 h => ?_) fun hb33 h => ?_
  ·
   refine zw ?_
   refine ob' h fun r34 g35 h => ?_
   refine Ops.ghd (ns := []) rfl rfl rfl rfl hb33 rfl (Y22 ((Z81 _ _ _).h _ g35) rfl rfl) ?_
   exact go
  exact go
 refine AW.cf hb32 rfl ?_
 refine zw ?_
 refine cnd h (fun hb38 h => ?_) fun hb38 h => ?_
 ·
  refine AW.ct hb38 rfl ?_
  refine zw ?_
  refine cnd h (fun hb39 h => ?_) fun hb39 h => ?_
  ·
   refine zw ?_
   refine cnd h (fun hb40 h => ?_) fun hb40 h => ?_
   ·
    refine zw ?_
    refine ob' h fun r41 g42 h => ?_
    refine Ops.ghd (ns := []) rfl rfl rfl rfl hb40 rfl (Y22 ((Z81 _ _ _).h _ g42) rfl rfl) ?_
    exact go
   exact go
  exact go
 refine AW.cf hb38 rfl ?_
 refine zw ?_
 refine cnd h (fun hb44 h => ?_) fun hb44 h => ?_
 ·
  refine zw ?_
  refine ob' h fun r45 g46 h => ?_
  refine Ops.ghd (ns := []) rfl rfl rfl rfl hb44 rfl (Y22 ((Z85 _).h _ g46) rfl rfl) ?_
  exact go
 exact go

def Z8v (x23 : Bool) : Option Bool := some x23
def Z8w (p0 : Y8h) : Option Bool := (Z84 p0.id).bind fun r2 => cond r2 ((Z82 p0.room).bind fun r5 => cond r5 ((Z86 p0.author).bind fun r8 => cond r8 ((Z88 p0.time).bind fun r11 => cond r11 (cond (decide ((p0.prev.length : Int) ≤ 4)) ((Z8d p0.prev 1 1000000).bind fun r15 => cond r15 ((Z8j p0.prev p0.id).bind fun r18 => cond r18 (Z8v false) ((Z8t p0).bind fun r21 => Z8v r21)) (Z8v false)) (Z8v false)) (Z8v false)) (Z8v false)) (Z8v false)) (Z8v false)
instance Z8x (p0 : Y8h) : Sp Tryz.prog 282 [C.agg [cI p0.id, cI p0.room, cI p0.author, cI p0.kind, cI p0.key, cI p0.n, C.str p0.text, cM kI64 1 p0.prev, cI p0.time]] (Z8w p0) C.bool := sp Tryz.func282 rfl rfl fun r X h => by
 unfold Z8w at h
 refine zw ?_
 refine ox fun b1 => ?_
 refine zw ?_
 refine oc h fun r2 g3 h => ?_
 refine zw ?_
 refine cnd h (fun hb4 h => ?_) fun hb4 h => ?_
 ·
  refine zw ?_
  refine ob' h fun r5 g6 h => ?_
  refine Ops.ghd (ns := []) rfl rfl rfl rfl hb4 rfl (Y22 ((Z83 _).h _ g6) rfl rfl) ?_
  refine zw ?_
  refine cnd h (fun hb7 h => ?_) fun hb7 h => ?_
  ·
   refine zw ?_
   refine ob' h fun r8 g9 h => ?_
   refine Ops.ghd (ns := []) rfl rfl rfl rfl hb7 rfl (Y22 ((Z87 _).h _ g9) rfl rfl) ?_
   refine zw ?_
   refine cnd h (fun hb10 h => ?_) fun hb10 h => ?_
   ·
    refine zw ?_
    refine ob' h fun r11 g12 h => ?_
    refine Ops.ghd (ns := []) rfl rfl rfl rfl hb10 rfl (Y22 ((Z89 _).h _ g12) rfl rfl) ?_
    refine zw ?_
    refine cnd h (fun hb13 h => ?_) fun hb13 h => ?_
    ·
     refine zw ?_
     refine cnd h (fun hb14 h => ?_) fun hb14 h => ?_
     ·
      refine zw ?_
      refine ob' h fun r15 g16 h => ?_
      refine Ops.ghd (ns := []) rfl rfl rfl rfl hb14 rfl (Y22 ((Z8e _ _ _).h _ g16) rfl rfl) ?_
      refine zw ?_
      refine cnd h (fun hb17 h => ?_) fun hb17 h => ?_
      ·
       refine zw ?_
       refine ob' h fun r18 g19 h => ?_
       refine Ops.ghd (ns := []) rfl rfl rfl rfl hb17 rfl (Y22 ((Z8k _ _).h _ g19) rfl rfl) ?_
       refine zw ?_
       refine cnd h (fun hb20 h => go) fun hb20 h => ?_
       refine zw ?_
       refine ob' h fun r21 g22 h => ?_
       refine Ops.ghd (ns := []) rfl rfl rfl rfl (Y3s hb20) rfl (Y22 ((Z8u _).h _ g22) rfl rfl) ?_
       exact go
      exact go
     exact go
    exact go
   exact go
  exact go
 exact go

def Z8y (x5 : Bool) : Option Bool := some x5
def Z8z (p0 : Y8h) : Option Bool := (Z8w p0).bind fun r2 => cond r2 (Z8y ((p0.kind == 1) == ((p0.prev.length : Int) == 0))) (Z8y false)
instance Z90 (p0 : Y8h) : Sp Tryz.prog 235 [C.agg [cI p0.id, cI p0.room, cI p0.author, cI p0.kind, cI p0.key, cI p0.n, C.str p0.text, cM kI64 1 p0.prev, cI p0.time]] (Z8z p0) C.bool := sp Tryz.func235 rfl rfl fun r X h => by
 unfold Z8z at h
 refine zw ?_
 refine ox fun b1 => ?_
 refine zw ?_
 refine oc h fun r2 g3 h => ?_
 refine zw ?_
 refine cnd h (fun hb4 h => ?_) fun hb4 h => ?_
 ·
  refine zw ?_
  refine Ops.gv rfl rfl rfl rfl hb4 (Yy un_4 rfl rfl rfl) ?_
  exact go
 exact go

def Z91 : Option Bool := some true
def Z92 (x15 : Int) (x27 : Bool) : Option (Int ⊕ (Bool ⊕ Unit)) := cond x27 (some (.inr (.inl false))) (some (.inl (IntKind.i64.wrap (x15 + 1))))
def Z93 (p0 : Y8l) (p1 : List Y8h) (x15 : Int) : Option (Int ⊕ (Bool ⊕ Unit)) := cond (decide (x15 < (p1.length : Int))) ((getI p1 x15).bind fun e17 => (Z8z e17).bind fun r20 => cond r20 (cond (e17.room != p0.room) (Z92 x15 true) (cond (decide (x15 > 0)) ((getI p1 (IntKind.i64.wrap (x15 - 1))).bind fun e25 => Z92 x15 (decide (e25.id ≥ e17.id))) (Z92 x15 false))) (Z92 x15 true)) (some (.inr (.inr ())))
def Z94 (p0 : Y8l) (p1 : List Y8h) : Option Bool := (iter (Z93 p0 p1) big 0).bind (fun z30 => match z30 with | .inl y29 => some y29 | .inr () => Z91)
instance Z95 (p0 : Y8l) (p1 : List Y8h) : Sp Tryz.prog 184 [C.agg [cI p0.room, cM Y8t 9 p0.events, cM Y8t 9 p0.parked], cM Y8t 9 p1] (Z94 p0 p1) C.bool := sp Tryz.func184 rfl rfl fun r X h => by
 unfold Z94 at h
 refine zw ?_
 refine ox fun b1 => ?_
 refine zw ?_
 refine AW.lp (v := ()) h (fun x15 (_ : Unit) => ⟨[(1, cM Y8t 9 p1), (2, pt b1), (7, cM Y8t 9 p1), (8, cI (p1.length : Int)), (9, cI x15)], [oB b1 139 [cI p0.room, cM Y8t 9 p0.events, cM Y8t 9 p0.parked]]⟩) (gb [0]) ?_
 rintro x15 _ y36 h
 refine zw ?_
 refine cnd h (fun hb16 h => ?_) fun hb16 h => ?_
 ·
  refine AW.ct hb16 rfl ?_
  refine zw ?_
  refine oi h fun e17 g18 h => ?_
  refine zw ?_
  refine Ops.h (ns := []) rfl rfl (Y1n (cs := [cI 0, cI 0, cI 0, cI 0, cI 0, cI 0, C.str ByteArray.empty, cV s0, cI 0]) Y9t (Y3z rfl rfl) rfl) ?_
  rintro _ _ ⟨b19, rfl, rfl⟩
  refine zw ?_
  refine Ops.hd (ns := [0]) rfl rfl (Y1s (gs := [cI e17.id, cI e17.room, cI e17.author, cI e17.kind, cI e17.key, cI e17.n, C.str e17.text, cM kI64 1 e17.prev, cI e17.time]) Yaa.h rfl rfl rfl rfl rfl) ?_
  refine zw ?_
  refine rD [0,0] [0,5,7,19,21] [] [1,6,8,12,16,21,24,29,32,36,40,44,48,52,56,60,64,68,72,77,80,85,88,92,96] ?_
  exact go
 exact go

def Z96 (p0 : Int) : Option Bool := some (p0 != p0)
instance Z97 (p0 : Int) : Sp Tryz.prog 247 [cI p0] (Z96 p0) C.bool := sp Tryz.func247 rfl rfl fun r X h => go

def Z98 (p0 : Int) (p1 : Int) : Option Int := (Z96 p0).bind fun r1 => (Z96 p1).bind fun r3 => cond r1 (cond r3 (some 0) (some (-1))) (cond r3 (some 1) (cond (decide (p0 < p1)) (some (-1)) (cond (decide (p0 > p1)) (some 1) (some 0))))
instance Z99 (p0 : Int) (p1 : Int) : Sp Tryz.prog 202 [cI p0, cI p1] (Z98 p0 p1) cI := sp Tryz.func202 rfl rfl fun r X h => go

def Z9a (p0 : Y8h) (p1 : Int) : Option Int := (Z98 p0.id p1).bind fun r2 => some r2
instance Z9b (p0 : Y8h) (p1 : Int) : Sp Tryz.prog 242 [C.agg [cI p0.id, cI p0.room, cI p0.author, cI p0.kind, cI p0.key, cI p0.n, C.str p0.text, cM kI64 1 p0.prev, cI p0.time], cI p1] (Z9a p0 p1) cI := sp Tryz.func242 rfl rfl fun r X h => go

def Z9c (x15 : Int) (x21 : Bool) : Option (Int × Bool) := some (x15, x21)
def Z9d (p0 : List Y8h) (p1 : Int) (x15 : Int) : Option (Int × Bool) := cond (decide (x15 < (p0.length : Int))) ((getI p0 x15).bind fun e17 => (Z9a e17 p1).bind fun r19 => Z9c x15 (r19 == 0)) (Z9c x15 false)
def Z9e (p0 : List Y8h) (p1 : Int) (x7 : Int) (x8 : Int) : Option ((Int × Int) ⊕ (Int)) := cond (decide (x7 < x8)) ((getI p0 (IntKind.i64.wrap (shrI .u64 (IntKind.u64.wrap (IntKind.i64.wrap (x7 + x8))) 1))).bind fun e10 => (Z9a e10 p1).bind fun r12 => cond (decide (r12 < 0)) (some (.inl ((IntKind.i64.wrap ((IntKind.i64.wrap (shrI .u64 (IntKind.u64.wrap (IntKind.i64.wrap (x7 + x8))) 1)) + 1)), x8))) (some (.inl (x7, (IntKind.i64.wrap (shrI .u64 (IntKind.u64.wrap (IntKind.i64.wrap (x7 + x8))) 1)))))) (some (.inr x7))
def Z9f (p0 : List Y8h) (p1 : Int) : Option (Int × Bool) := (iter (fun z22 => Z9e p0 p1 z22.1 z22.2) big (0, (p0.length : Int))).bind fun y23 => Z9d p0 p1 y23
instance Z9g (p0 : List Y8h) (p1 : Int) : Sp Tryz.prog 241 [cM Y8t 9 p0, cI p1, cV (.func (.func 242) #[] #[])] (Z9f p0 p1) (fun r => C.tup [cI r.1, C.bool r.2]) := sp Tryz.func241 rfl rfl fun r X h => by
 unfold Z9f at h
 refine AW.seq ?_
 refine AW.region ?_
 refine Ops.v rfl (Yr rfl rfl) ?_
 refine Ops.v rfl (Yr rfl rfl) ?_
 refine Ops.nil ?_
 refine AW.seq ?_
 refine AW.region ?_
 refine Ops.v rfl (Yq rfl rfl) ?_
 refine Ops.v rfl (Y2a Yad.h rfl rfl) ?_
 refine Ops.v rfl (Yr rfl rfl) ?_
 refine Ops.nil ?_
 refine AW.seq ?_
 refine AW.region ?_
 refine Ops.v rfl (Yq rfl rfl) ?_
 refine Ops.v rfl (Yr rfl rfl) ?_
 refine Ops.v rfl (Yr rfl rfl) ?_
 refine Ops.nil ?_
 refine AW.seq ?_
 refine AW.cut (τ := Int) (fun x15 => ⟨[(0, cM Y8t 9 p0), (1, cI p1), (2, cV (.func (.func 242) #[] #[])), (8, cI (p0.length : Int)), (9, cI x15)], []⟩) (fun x15 => Z9d p0 p1 x15 = some r) ?_ ?_
 ·
  refine zw ?_
  refine AW.lp (v := ()) h (fun (x7, x8) (_ : Unit) => ⟨[(0, cM Y8t 9 p0), (1, cI p1), (2, cV (.func (.func 242) #[] #[])), (8, cI (p0.length : Int)), (9, cI x7), (10, cI x8)], []⟩) (gb []) ?_
  rintro ⟨x7, x8⟩ _ y29 h
  refine zw ?_
  refine cnd h (fun hb9 h => ?_) fun hb9 h => ?_
  ·
   refine AW.ct hb9 rfl ?_
   refine zw ?_
   refine Ops.v rfl (Y10 un_3 Yce rfl rfl) ?_
   refine Ops.v rfl (Yx rfl rfl rfl rfl) ?_
   refine Ops.v rfl (Y10 Yce un_3 rfl rfl) ?_
   refine zw ?_
   refine oi h fun e10 g11 h => ?_
   refine zw ?_
   refine ob' h fun r12 g13 h => ?_
   refine Ops.h (ns := []) rfl rfl (Y24 (cs := [_, _]) rfl rfl ((Z9b _ _).h _ g13) rfl rfl) ?_
   rintro _ _ ⟨_, ⟨rfl, rfl⟩, rfl⟩
   exact go
  exact go
 intro x15 h
 replace h : Z9d p0 p1 x15 = some r := h
 unfold Z9d at h
 refine AW.seq ?_
 refine AW.cut (τ := Bool) (fun x21 => ⟨[(6, cI x15), (7, C.bool x21)], []⟩) (fun x21 => Z9c x15 x21 = some r) ?_ ?_
 ·
  refine zw ?_
  refine cnd h (fun hb16 h => ?_) fun hb16 h => ?_
  ·
   refine zw ?_
   refine ob' h fun e17 g18 h => ?_
   refine zw ?_
   refine ob' h fun r19 g20 h => ?_
   refine Ops.gh (ns := []) rfl rfl rfl rfl hb16 rfl (Y24 (cs := [_, _]) rfl rfl ((Z9b _ _).h _ g20) rfl rfl) ?_
   rintro _ _ ⟨_, ⟨rfl, rfl⟩, rfl⟩
   exact go
  exact go
 intro x21 h
 replace h : Z9c x15 x21 = some r := h
 unfold Z9c at h
 refine AW.ret ?_
 rw [← Wj h]
 exact ⟨[cI x15, C.bool x21], _, Y1z.refl _, (.cons (.tmp rfl) (.cons (.tmp rfl) .nil)), [], _, _, rfl, ⟨rfl, rfl⟩⟩

def Z9h (p0 : List Y8h) (p1 : Int) : Option (Int × Bool) := (Z9f p0 p1).bind fun r1 => some (r1.1, r1.2)
instance Z9i (p0 : List Y8h) (p1 : Int) : Sp Tryz.prog 193 [cM Y8t 9 p0, cI p1] (Z9h p0 p1) (fun r => C.tup [cI r.1, C.bool r.2]) := sp Tryz.func193 rfl rfl fun r X h => by
 unfold Z9h at h
 refine zw ?_
 refine oc h fun r1 g2 h => ?_
 refine zw ?_
 refine AW.ret ?_
 rw [← Wj h]
 exact ⟨[cI r1.1, C.bool r1.2], _, Y1z.refl _, (.cons (.tmp rfl) (.cons (.tmp rfl) .nil)), [], _, _, rfl, ⟨rfl, rfl⟩⟩

def Z9j (p0 : Y8l) (p1 : Int) : Option Bool := (Z9h p0.events p1).bind fun r2 => some r2.2
instance Z9k (p0 : Y8l) (p1 : Int) : Sp Tryz.prog 189 [C.agg [cI p0.room, cM Y8t 9 p0.events, cM Y8t 9 p0.parked], cI p1] (Z9j p0 p1) C.bool := sp Tryz.func189 rfl rfl fun r X h => go

def Z9l (p0 : Int) (q0 : Y8l) : Option Bool := (Z9j q0 p0).bind fun r1 => some (!r1)
theorem Z9m {b00 : Nat} (p0 : Int) (q0 : Y8l) (r : Bool) (h : Z9l p0 q0 = some r) : Ok Tryz.prog 237 [cI p0, pt b00] [oB b00 139 [cI q0.room, cM Y8t 9 q0.events, cM Y8t 9 q0.parked]] (fun c qs => c = C.bool r ∧ qs = [oB b00 139 [cI q0.room, cM Y8t 9 q0.events, cM Y8t 9 q0.parked]]) := by
 refine Ok.of_body (rs := [.tmp 3]) Tryz.func237 rfl rfl rfl rfl rfl fun X => ?_
 unfold Z9l at h
 refine zw ?_
 refine oc h fun r1 g2 h => ?_
 refine zw ?_
 refine AW.ret ?_
 rw [← Wj h]
 exact ⟨[C.bool (!r1)], _, Y1z.refl _, (.cons (.tmp rfl) .nil), [0], _, _, rfl, ⟨rfl, rfl⟩⟩

def Z9n : Option Int := some (-1)
def Z9o (p0 : List Int) (p1_0 : Y8l) (x7 : Int) : Option (Int ⊕ (Int ⊕ Unit)) := cond (decide (x7 < (p0.length : Int))) ((getI p0 x7).bind fun e9 => (Z9l e9 p1_0).bind fun r11 => cond r11 (some (.inr (.inl x7))) (some (.inl (IntKind.i64.wrap (x7 + 1))))) (some (.inr (.inr ())))
def Z9p (p0 : List Int) (p1_0 : Y8l) : Option Int := (iter (Z9o p0 p1_0) big 0).bind (fun z15 => match z15 with | .inl y14 => some y14 | .inr () => Z9n)
theorem Z9q {b00 : Nat} (p0 : List Int) (p1_0 : Y8l) (r : Int) (h : Z9p p0 p1_0 = some r) : Ok Tryz.prog 194 [cM kI64 1 p0, C.clo 237 [pt b00]] [oB b00 139 [cI p1_0.room, cM Y8t 9 p1_0.events, cM Y8t 9 p1_0.parked]] (fun c qs => c = cI r ∧ qs = [oB b00 139 [cI p1_0.room, cM Y8t 9 p1_0.events, cM Y8t 9 p1_0.parked]]) := by
 refine Ok.of_body (rs := [.tmp 4]) Tryz.func194 rfl rfl rfl rfl rfl fun X => ?_
 unfold Z9p at h
 refine AW.seq ?_
 refine AW.region ?_
 refine Ops.v rfl (Yr rfl rfl) ?_
 refine Ops.nil ?_
 refine AW.seq ?_
 refine AW.cut (τ := Unit) (fun (_ : Unit) => ⟨[], [oB b00 139 [cI p1_0.room, cM Y8t 9 p1_0.events, cM Y8t 9 p1_0.parked]]⟩) (fun (_ : Unit) => Z9n = some r) ?_ ?_
 ·
  refine zw ?_
  refine AW.lp (v := ()) h (fun x7 (_ : Unit) => ⟨[(0, cM kI64 1 p0), (1, C.clo 237 [pt b00]), (7, cI (p0.length : Int)), (8, cI x7)], [oB b00 139 [cI p1_0.room, cM Y8t 9 p1_0.events, cM Y8t 9 p1_0.parked]]⟩) (gb [0]) ?_
  rintro x7 _ y21 h
  refine zw ?_
  refine cnd h (fun hb8 h => ?_) fun hb8 h => ?_
  ·
   refine AW.ct hb8 rfl ?_
   refine zw ?_
   refine oi h fun e9 g10 h => ?_
   refine zw ?_
   refine ob' h fun r11 g12 h => ?_
   refine Ops.hd (ns := [0]) rfl rfl (Y6j (cs := [_]) (ds := [_]) rfl (Z9m e9 p1_0 _ g12) rfl rfl) ?_
   refine zw ?_
   refine cnd h (fun hb13 h => ?_) fun hb13 h => ?_
   ·
    refine AW.ct hb13 rfl ?_
    refine zw ?_
    refine AW.ret ?_
    refine lx h fun h => ?_
    rw [← Wj h]
    exact ⟨[cI x7], _, Y1z.refl _, (.cons (.tmp rfl) .nil), [0], _, _, rfl, ⟨rfl, rfl⟩⟩
   exact go
  exact go
 rintro ⟨⟩ h
 replace h : Z9n = some r := h
 unfold Z9n at h
 refine zw ?_
 refine AW.ret ?_
 rw [← Wj h]
 exact ⟨[cI (-1)], _, Y1z.refl _, (.cons (.tmp rfl) .nil), [0], _, _, rfl, ⟨rfl, rfl⟩⟩

def Z9r (p0 : List Int) (p1_0 : Y8l) : Option Bool := (Z9p p0 p1_0).bind fun r1 => some (decide (r1 ≥ 0))
theorem Z9s {b00 : Nat} (p0 : List Int) (p1_0 : Y8l) (r : Bool) (h : Z9r p0 p1_0 = some r) : Ok Tryz.prog 140 [cM kI64 1 p0, C.clo 237 [pt b00]] [oB b00 139 [cI p1_0.room, cM Y8t 9 p1_0.events, cM Y8t 9 p1_0.parked]] (fun c qs => c = C.bool r ∧ qs = [oB b00 139 [cI p1_0.room, cM Y8t 9 p1_0.events, cM Y8t 9 p1_0.parked]]) := by
 refine Ok.of_body (rs := [.tmp 4]) Tryz.func140 rfl rfl rfl rfl rfl fun X => ?_
 unfold Z9r at h
 refine zw ?_
 refine ob' h fun r1 g2 h => ?_
 refine Ops.hd (ns := [0]) rfl rfl (Y22 (Z9q p0 p1_0 _ g2) rfl rfl) ?_
 refine zw ?_
 refine AW.ret ?_
 rw [← Wj h]
 exact ⟨[C.bool (decide (r1 ≥ 0))], _, Y1z.refl _, (.cons (.tmp rfl) .nil), [0], _, _, rfl, ⟨rfl, rfl⟩⟩

def Z9t (p0 : Y8l) (p1 : Y8h) : Option Bool := (Z9r p1.prev p0).bind fun r3 => some (!r3)
instance Z9u (p0 : Y8l) (p1 : Y8h) : Sp Tryz.prog 187 [C.agg [cI p0.room, cM Y8t 9 p0.events, cM Y8t 9 p0.parked], C.agg [cI p1.id, cI p1.room, cI p1.author, cI p1.kind, cI p1.key, cI p1.n, C.str p1.text, cM kI64 1 p1.prev, cI p1.time]] (Z9t p0 p1) C.bool := sp Tryz.func187 rfl rfl fun r X h => by
 unfold Z9t at h
 refine zw ?_
 refine ox fun b1 => ?_
 refine ox fun b2 => ?_
 refine zw ?_
 refine Ops.v rfl (Y6h rfl rfl) ?_
 refine ob' h fun r3 g4 h => ?_
 refine Ops.hd (ns := [1]) rfl rfl (Y22 (Z9s p1.prev p0 _ g4) rfl rfl) ?_
 exact go

def Z9v (l140 : List Int) (x141 : Int) : Option (List Int × Bool) := some (l140, (x141 == 0))
def Z9w (x109 : Int) (l137 : List Int) (x138 : Int) (x139 : Bool) : Option ((List Int × Int × Bool × Int) ⊕ ((List Int × Int × Bool))) := some (.inl (l137, x138, x139, (IntKind.i64.wrap (x109 + 1))))
def Z9x (l106 : List Int) (x107 : Int) (x108 : Bool) (x109 : Int) (x135 : Int) : Option ((List Int × Int × Bool × Int) ⊕ ((List Int × Int × Bool))) := cond (decide (x135 > 0)) (Z9w x109 (List.set l106 (Int.toNat x109) x135) (IntKind.i64.wrap (x107 - 1)) true) (Z9w x109 l106 x107 x108)
def Z9y (p0 : Y8l) (l106 : List Int) (e111 : Y8h) (x125 : Int) (x126 : Int) : Option ((Int × Int) ⊕ (Int)) := cond (decide (x126 < (e111.prev.length : Int))) ((getI e111.prev x126).bind fun e128 => (Z9h p0.events e128).bind fun r130 => (getI l106 r130.1).bind fun e132 => cond (e132 == 0) (some (.inr 0)) (some (.inl ((if (IntKind.i64.wrap (e132 + 1)) > x125 then (IntKind.i64.wrap (e132 + 1)) else x125), (IntKind.i64.wrap (x126 + 1)))))) (some (.inr x125))
def Z9z (p0 : Y8l) (l106 : List Int) (x107 : Int) (x108 : Bool) (x109 : Int) : Option ((List Int × Int × Bool × Int) ⊕ ((List Int × Int × Bool))) := cond (decide (x109 < (p0.events.length : Int))) ((getI p0.events x109).bind fun e111 => (getI l106 x109).bind fun e114 => cond (decide (e114 > 0)) (Z9w x109 l106 x107 x108) ((iter (fun z143 => Z9y p0 l106 e111 z143.1 z143.2) big (1, 0)).bind fun y144 => Z9x l106 x107 x108 x109 y144)) (some (.inr (l106, x107, x108)))
def Za0 (p0 : Y8l) (l70 : List Int) (x71 : Int) (x74 : Bool) : Option ((List Int × Int × Bool) ⊕ ((List Int × Int))) := cond x74 ((iter (fun z145 => Z9z p0 z145.1 z145.2.1 z145.2.2.1 z145.2.2.2) big (l70, x71, false, 0)).bind fun (y146, y147, y148) => some (.inl (y146, y147, y148))) (some (.inr (l70, x71)))
def Za1 (p0 : Y8l) (l70 : List Int) (x71 : Int) (x72 : Bool) : Option ((List Int × Int × Bool) ⊕ ((List Int × Int))) := cond x72 (Za0 p0 l70 x71 (decide (x71 > 0))) (Za0 p0 l70 x71 false)
def Za2 (p0 : Y8l) : Option (List Int × Bool) := (chk (decide (0 ≤ (p0.events.length : Int) ∧ (p0.events.length : Int) * 8 ≤ 140737488355328))).bind fun u3 => (iter (fun z149 => Za1 p0 z149.1 z149.2.1 z149.2.2) big ((List.replicate (Int.toNat (p0.events.length : Int)) 0), (p0.events.length : Int), true)).bind fun (y150, y151) => Z9v y150 y151
theorem Za3 (p0 : Y8l) (r : List Int × Bool) (h : Za2 p0 = some r) : Ok Tryz.prog 190 [C.agg [cI p0.room, cM Y8t 9 p0.events, cM Y8t 9 p0.parked]] [] (fun c qs => ∃ (v142 : Value), c = C.tup [cV v142, C.bool r.2] ∧ qs = [oA v142 2 kI64 1 r.1]) := by
 refine Ok.of_body (rs := [.tmp 2, .tmp 3]) Tryz.func190 rfl rfl rfl rfl rfl fun X => ?_
 unfold Za2 at h
 refine zw ?_
 refine ox fun b1 => ?_
 refine zw ?_
 refine rD [0] [1,5] [] [0,5,8,16,21,24,14,28,32] ?_
 refine zw ?_
 refine ob' h fun u3 c2 h => ?_
 refine Y3k.h (ns := []) rfl rfl rfl (Y38 (k := kI64) (z := 0) Y9s ze_2 (Y3z rfl rfl) rfl rfl (Y3u c2).1 (Y3u c2).2 (Y3v (by decide) c2) rfl) ?_
 rintro _ _ ⟨b4, rfl, rfl⟩
 refine OpsD.v rfl rfl (Yr rfl rfl) ?_
 refine OpsD.v rfl rfl (Yr rfl rfl) ?_
 refine OpsD.done ?_
 refine AW.seq ?_
 refine AW.cut (τ := List Int × Int) (fun (l140, x141) => ⟨[(4, cV (sn b4 (p0.events.length : Int))), (5, cI x141)], [oA (sn b4 (p0.events.length : Int)) 2 kI64 1 l140]⟩) (fun (l140, x141) => Z9v l140 x141 = some r) ?_ ?_
 ·
  refine zw ?_
  refine AW.lp (v := ()) h (fun (l70, x71, x72) (_ : Unit) => ⟨[(1, pt b1), (4, cV (sn b4 (p0.events.length : Int))), (5, cI x71), (6, C.bool x72)], [oB b1 139 [cI p0.room, cM Y8t 9 p0.events, cM Y8t 9 p0.parked], oA (sn b4 (p0.events.length : Int)) 2 kI64 1 l70]⟩) (gb [0, 0]) ?_
  rintro ⟨l70, x71, x72⟩ _ y157 h
  refine AW.seq ?_
  refine AW.seq ?_
  refine AW.cut (τ := Bool) (fun x74 => ⟨[(1, pt b1), (4, cV (sn b4 (p0.events.length : Int))), (5, cI x71), (25, C.bool x74)], [oB b1 139 [cI p0.room, cM Y8t 9 p0.events, cM Y8t 9 p0.parked], oA (sn b4 (p0.events.length : Int)) 2 kI64 1 l70]⟩) (fun x74 => Za0 p0 l70 x71 x74 = some y157) go fun x74 h => ?_
  replace h : Za0 p0 l70 x71 x74 = some y157 := h
  unfold Za0 at h
  refine cnd h (fun hb75 h => ?_) fun hb75 h => ?_
  ·
   refine AW.ct hb75 rfl ?_
   refine zw ?_
   refine AW.lp (v := ()) h (fun (l106, x107, x108, x109) (_ : Unit) => ⟨[(1, pt b1), (4, cV (sn b4 (p0.events.length : Int))), (5, cI x107), (6, C.bool x108), (27, cM Y8t 9 p0.events), (28, cI (p0.events.length : Int)), (29, cI x109)], [oB b1 139 [cI p0.room, cM Y8t 9 p0.events, cM Y8t 9 p0.parked], oA (sn b4 (p0.events.length : Int)) 2 kI64 1 l106]⟩) (gb [0, 0]) ?_
   rintro ⟨l106, x107, x108, x109⟩ _ y164 h
   refine zw ?_
   refine cnd h (fun hb110 h => ?_) fun hb110 h => ?_
   ·
    refine AW.ct hb110 rfl ?_
    refine zw ?_
    refine oi h fun e111 g112 h => ?_
    refine zw ?_
    refine Ops.h (ns := []) rfl rfl (Y1n (cs := [cI 0, cI 0, cI 0, cI 0, cI 0, cI 0, C.str ByteArray.empty, cV s0, cI 0]) Y9t (Y3z rfl rfl) rfl) ?_
    rintro _ _ ⟨b113, rfl, rfl⟩
    refine zw ?_
    refine Ops.hd (ns := [0]) rfl rfl (Y1s (gs := [cI e111.id, cI e111.room, cI e111.author, cI e111.kind, cI e111.key, cI e111.n, C.str e111.text, cM kI64 1 e111.prev, cI e111.time]) Yaa.h rfl rfl rfl rfl rfl) ?_
    refine zw ?_
    refine ob' h fun e114 g115 h => ?_
    refine Ops.v rfl (Y2v (p := 2) Y9b.h rfl rfl rfl g115 rfl) ?_
    refine Ops.v rfl (Y2x (p := 2) ld_2.h rfl rfl (Y27 g115).2.2 rfl rfl) ?_
    refine zw ?_
    refine cnd h (fun hb116 h => go) fun hb116 h => ?_
    refine AW.cf hb116 rfl ?_
    refine AW.skip ?_
    refine AW.seq ?_
    refine AW.region ?_
    refine Ops.v rfl (Yr rfl rfl) ?_
    refine Ops.nil ?_
    refine AW.seq ?_
    refine AW.cut (τ := Int) (fun x135 => ⟨[(1, pt b1), (4, cV (sn b4 (p0.events.length : Int))), (5, cI x107), (6, C.bool x108), (7, cI x109), (9, cI x135), (27, cM Y8t 9 p0.events), (28, cI (p0.events.length : Int)), (29, cI x109)], [oB b1 139 [cI p0.room, cM Y8t 9 p0.events, cM Y8t 9 p0.parked], oA (sn b4 (p0.events.length : Int)) 2 kI64 1 l106]⟩) (fun x135 => Z9x l106 x107 x108 x109 x135 = some y164) ?_ ?_
    ·
     refine zw ?_
     refine AW.lp (v := ()) h (fun (x125, x126) (_ : Unit) => ⟨[(1, pt b1), (4, cV (sn b4 (p0.events.length : Int))), (5, cI x107), (6, C.bool x108), (7, cI x109), (9, cI x125), (27, cM Y8t 9 p0.events), (28, cI (p0.events.length : Int)), (29, cI x109), (40, cM kI64 1 e111.prev), (41, cI (e111.prev.length : Int)), (42, cI x126)], [oB b1 139 [cI p0.room, cM Y8t 9 p0.events, cM Y8t 9 p0.parked], oA (sn b4 (p0.events.length : Int)) 2 kI64 1 l106]⟩) (gb [1, 1]) ?_
     rintro ⟨x125, x126⟩ _ y171 h
     refine zw ?_
     refine cnd h (fun hb127 h => ?_) fun hb127 h => ?_
     ·
      refine AW.ct hb127 rfl ?_
      refine zw ?_
      refine oi h fun e128 g129 h => ?_
      refine zw ?_
      refine oc h fun r130 g131 h => ?_
      refine zw ?_
      refine ob' h fun e132 g133 h => ?_
      refine Ops.v rfl (Y2v (p := 1) Y9b.h rfl rfl rfl g133 rfl) ?_
      refine Ops.v rfl (Y2x (p := 1) ld_2.h rfl rfl (Y27 g133).2.2 rfl rfl) ?_
      refine zw ?_
      refine cnd h (fun hb134 h => go) fun hb134 h => ?_
      refine AW.cf hb134 rfl ?_
      refine AW.skip ?_
      refine AW.region ?_
      refine Ops.v rfl (Yq rfl rfl) ?_
      refine Ops.v rfl (Yq rfl rfl) ?_
      refine Ops.v rfl (Yq rfl rfl) ?_
      refine Ops.v rfl (Y2v (p := 1) Y9b.h rfl rfl rfl g133 rfl) ?_
      refine Ops.v rfl (Y2x (p := 1) ld_2.h rfl rfl (Y27 g133).2.2 rfl rfl) ?_
      refine zw ?_
      refine Ops.v rfl (Y2d rfl rfl rfl) ?_
      exact go
     exact go
    intro x135 h
    replace h : Z9x l106 x107 x108 x109 x135 = some y164 := h
    unfold Z9x at h
    refine zw ?_
    refine cnd h (fun hb136 h => ?_) fun hb136 h => ?_
    ·
     refine AW.ct hb136 rfl ?_
     refine AW.region ?_
     refine Ops.v rfl (Yq rfl rfl) ?_
     refine Ops.v rfl (Yq rfl rfl) ?_
     refine Ops.v rfl (Yq rfl rfl) ?_
     refine Ops.v rfl (Yq rfl rfl) ?_
     refine Ops.v rfl (Yv rfl rfl rfl rfl) ?_
     refine Ops.v rfl (Y2v (p := 1) Y9b.h rfl rfl rfl g115 rfl) ?_
     refine Ops.hd (ns := [1]) rfl rfl (Y30 (e' := x135) ld_2.h rfl rfl (One.val rfl) (Y27 g115).2.2 rfl rfl) ?_
     exact go
    exact go
   exact go
  exact go
 rintro ⟨l140, x141⟩ h
 replace h : Z9v l140 x141 = some r := h
 unfold Z9v at h
 refine zw ?_
 refine AW.ret ?_
 rw [← Wj h]
 exact ⟨[cV (sn b4 (p0.events.length : Int)), C.bool (x141 == 0)], _, Y1z.refl _, (.cons (.tmp rfl) (.cons (.tmp rfl) .nil)), [0], _, _, rfl, ⟨(sn b4 (p0.events.length : Int)), rfl, rfl⟩⟩
instance Za3' (p0 : Y8l) : Sp Tryz.prog 190 [C.agg [cI p0.room, cM Y8t 9 p0.events, cM Y8t 9 p0.parked]] (Za2 p0) (fun r => C.tup [cM kI64 1 r.1, C.bool r.2]) := ⟨fun r h => Ok.freeze (Za3 p0 r h) (by rintro c qs ⟨v142, rfl, rfl⟩; exact Frz.tup (FrzT.cons (os := [_]) (Frz.arr) (fT (FrzT.nil))))⟩

def Za4 (p0 : Y8h) (q0 : Y8l) : Option Bool := (Z9t q0 p0).bind fun r2 => some (!r2)
theorem Za5 {b00 : Nat} (p0 : Y8h) (q0 : Y8l) (r : Bool) (h : Za4 p0 q0 = some r) : Ok Tryz.prog 186 [C.agg [cI p0.id, cI p0.room, cI p0.author, cI p0.kind, cI p0.key, cI p0.n, C.str p0.text, cM kI64 1 p0.prev, cI p0.time], pt b00] [oB b00 139 [cI q0.room, cM Y8t 9 q0.events, cM Y8t 9 q0.parked]] (fun c qs => c = C.bool r ∧ qs = [oB b00 139 [cI q0.room, cM Y8t 9 q0.events, cM Y8t 9 q0.parked]]) := by
 refine Ok.of_body (rs := [.tmp 3]) Tryz.func186 rfl rfl rfl rfl rfl fun X => ?_
 unfold Za4 at h
 refine zw ?_
 refine ox fun b1 => ?_
 refine zw ?_
 refine oc h fun r2 g3 h => ?_
 refine zw ?_
 refine AW.ret ?_
 rw [← Wj h]
 exact ⟨[C.bool (!r2)], _, Y1z.refl _, (.cons (.tmp rfl) .nil), [1], _, _, rfl, ⟨rfl, rfl⟩⟩

def Za6 : Option Int := some (-1)
def Za7 (p0 : List Y8h) (p1_0 : Y8l) (x7 : Int) : Option (Int ⊕ (Int ⊕ Unit)) := cond (decide (x7 < (p0.length : Int))) ((getI p0 x7).bind fun e9 => (Za4 e9 p1_0).bind fun r11 => cond r11 (some (.inr (.inl x7))) (some (.inl (IntKind.i64.wrap (x7 + 1))))) (some (.inr (.inr ())))
def Za8 (p0 : List Y8h) (p1_0 : Y8l) : Option Int := (iter (Za7 p0 p1_0) big 0).bind (fun z15 => match z15 with | .inl y14 => some y14 | .inr () => Za6)
theorem Za9 {b00 : Nat} (p0 : List Y8h) (p1_0 : Y8l) (r : Int) (h : Za8 p0 p1_0 = some r) : Ok Tryz.prog 236 [cM Y8t 9 p0, C.clo 186 [pt b00]] [oB b00 139 [cI p1_0.room, cM Y8t 9 p1_0.events, cM Y8t 9 p1_0.parked]] (fun c qs => c = cI r ∧ qs = [oB b00 139 [cI p1_0.room, cM Y8t 9 p1_0.events, cM Y8t 9 p1_0.parked]]) := by
 refine Ok.of_body (rs := [.tmp 4]) Tryz.func236 rfl rfl rfl rfl rfl fun X => ?_
 unfold Za8 at h
 refine AW.seq ?_
 refine AW.region ?_
 refine Ops.v rfl (Yr rfl rfl) ?_
 refine Ops.nil ?_
 refine AW.seq ?_
 refine AW.cut (τ := Unit) (fun (_ : Unit) => ⟨[], [oB b00 139 [cI p1_0.room, cM Y8t 9 p1_0.events, cM Y8t 9 p1_0.parked]]⟩) (fun (_ : Unit) => Za6 = some r) ?_ ?_
 ·
  refine zw ?_
  refine AW.lp (v := ()) h (fun x7 (_ : Unit) => ⟨[(0, cM Y8t 9 p0), (1, C.clo 186 [pt b00]), (7, cI (p0.length : Int)), (8, cI x7)], [oB b00 139 [cI p1_0.room, cM Y8t 9 p1_0.events, cM Y8t 9 p1_0.parked]]⟩) (gb [0]) ?_
  rintro x7 _ y21 h
  refine zw ?_
  refine cnd h (fun hb8 h => ?_) fun hb8 h => ?_
  ·
   refine AW.ct hb8 rfl ?_
   refine zw ?_
   refine oi h fun e9 g10 h => ?_
   refine zw ?_
   refine ob' h fun r11 g12 h => ?_
   refine Ops.hd (ns := [0]) rfl rfl (Y6j (cs := [_]) (ds := [_]) rfl (Za5 e9 p1_0 _ g12) rfl rfl) ?_
   refine zw ?_
   refine cnd h (fun hb13 h => ?_) fun hb13 h => ?_
   ·
    refine AW.ct hb13 rfl ?_
    refine zw ?_
    refine AW.ret ?_
    refine lx h fun h => ?_
    rw [← Wj h]
    exact ⟨[cI x7], _, Y1z.refl _, (.cons (.tmp rfl) .nil), [0], _, _, rfl, ⟨rfl, rfl⟩⟩
   exact go
  exact go
 rintro ⟨⟩ h
 replace h : Za6 = some r := h
 unfold Za6 at h
 refine zw ?_
 refine AW.ret ?_
 rw [← Wj h]
 exact ⟨[cI (-1)], _, Y1z.refl _, (.cons (.tmp rfl) .nil), [0], _, _, rfl, ⟨rfl, rfl⟩⟩

def Zaa (p0 : List Y8h) (p1_0 : Y8l) : Option Bool := (Za8 p0 p1_0).bind fun r1 => some (decide (r1 ≥ 0))
theorem Zab {b00 : Nat} (p0 : List Y8h) (p1_0 : Y8l) (r : Bool) (h : Zaa p0 p1_0 = some r) : Ok Tryz.prog 185 [cM Y8t 9 p0, C.clo 186 [pt b00]] [oB b00 139 [cI p1_0.room, cM Y8t 9 p1_0.events, cM Y8t 9 p1_0.parked]] (fun c qs => c = C.bool r ∧ qs = [oB b00 139 [cI p1_0.room, cM Y8t 9 p1_0.events, cM Y8t 9 p1_0.parked]]) := by
 refine Ok.of_body (rs := [.tmp 4]) Tryz.func185 rfl rfl rfl rfl rfl fun X => ?_
 unfold Zaa at h
 refine zw ?_
 refine ob' h fun r1 g2 h => ?_
 refine Ops.hd (ns := [0]) rfl rfl (Y22 (Za9 p0 p1_0 _ g2) rfl rfl) ?_
 refine zw ?_
 refine AW.ret ?_
 rw [← Wj h]
 exact ⟨[C.bool (decide (r1 ≥ 0))], _, Y1z.refl _, (.cons (.tmp rfl) .nil), [0], _, _, rfl, ⟨rfl, rfl⟩⟩

def Zac (x7 : Bool) : Option Bool := some x7
def Zad (p0 : Y8h) (q0 : Y8l) : Option Bool := (Z9j q0 p0.id).bind fun r2 => cond r2 (Zac true) ((Z9t q0 p0).bind fun r5 => Zac r5)
theorem Zae {b00 : Nat} (p0 : Y8h) (q0 : Y8l) (r : Bool) (h : Zad p0 q0 = some r) : Ok Tryz.prog 188 [C.agg [cI p0.id, cI p0.room, cI p0.author, cI p0.kind, cI p0.key, cI p0.n, C.str p0.text, cM kI64 1 p0.prev, cI p0.time], pt b00] [oB b00 139 [cI q0.room, cM Y8t 9 q0.events, cM Y8t 9 q0.parked]] (fun c qs => c = C.bool r ∧ qs = [oB b00 139 [cI q0.room, cM Y8t 9 q0.events, cM Y8t 9 q0.parked]]) := by
 refine Ok.of_body (rs := [.tmp 3]) Tryz.func188 rfl rfl rfl rfl rfl fun X => ?_
 unfold Zad at h
 refine zw ?_
 refine ox fun b1 => ?_
 refine Ops.v rfl (Yr rfl rfl) ?_
 refine Ops.nil ?_
 refine AW.seq ?_
 refine AW.cut (τ := Bool) (fun x7 => ⟨[(3, C.bool x7)], [oB b00 139 [cI q0.room, cM Y8t 9 q0.events, cM Y8t 9 q0.parked]]⟩) (fun x7 => Zac x7 = some r) ?_ ?_
 ·
  refine zw ?_
  refine oc h fun r2 g3 h => ?_
  refine zw ?_
  refine cnd h (fun hb4 h => go) fun hb4 h => ?_
  refine zw ?_
  refine ob' h fun r5 g6 h => ?_
  refine Ops.ghd (ns := []) rfl rfl rfl rfl hb4 rfl (Y22 ((Z9u _ _).h _ g6) rfl rfl) ?_
  exact go
 intro x7 h
 replace h : Zac x7 = some r := h
 unfold Zac at h
 refine AW.ret ?_
 rw [← Wj h]
 exact ⟨[C.bool x7], _, Y1z.refl _, (.cons (.tmp rfl) .nil), [0], _, _, rfl, ⟨rfl, rfl⟩⟩

def Zaf : Option Int := some (-1)
def Zag (p0 : List Y8h) (p1_0 : Y8l) (x7 : Int) : Option (Int ⊕ (Int ⊕ Unit)) := cond (decide (x7 < (p0.length : Int))) ((getI p0 x7).bind fun e9 => (Zad e9 p1_0).bind fun r11 => cond r11 (some (.inr (.inl x7))) (some (.inl (IntKind.i64.wrap (x7 + 1))))) (some (.inr (.inr ())))
def Zah (p0 : List Y8h) (p1_0 : Y8l) : Option Int := (iter (Zag p0 p1_0) big 0).bind (fun z15 => match z15 with | .inl y14 => some y14 | .inr () => Zaf)
theorem Zai {b00 : Nat} (p0 : List Y8h) (p1_0 : Y8l) (r : Int) (h : Zah p0 p1_0 = some r) : Ok Tryz.prog 236 [cM Y8t 9 p0, C.clo 188 [pt b00]] [oB b00 139 [cI p1_0.room, cM Y8t 9 p1_0.events, cM Y8t 9 p1_0.parked]] (fun c qs => c = cI r ∧ qs = [oB b00 139 [cI p1_0.room, cM Y8t 9 p1_0.events, cM Y8t 9 p1_0.parked]]) := by
 refine Ok.of_body (rs := [.tmp 4]) Tryz.func236 rfl rfl rfl rfl rfl fun X => ?_
 unfold Zah at h
 refine AW.seq ?_
 refine AW.region ?_
 refine Ops.v rfl (Yr rfl rfl) ?_
 refine Ops.nil ?_
 refine AW.seq ?_
 refine AW.cut (τ := Unit) (fun (_ : Unit) => ⟨[], [oB b00 139 [cI p1_0.room, cM Y8t 9 p1_0.events, cM Y8t 9 p1_0.parked]]⟩) (fun (_ : Unit) => Zaf = some r) ?_ ?_
 ·
  refine zw ?_
  refine AW.lp (v := ()) h (fun x7 (_ : Unit) => ⟨[(0, cM Y8t 9 p0), (1, C.clo 188 [pt b00]), (7, cI (p0.length : Int)), (8, cI x7)], [oB b00 139 [cI p1_0.room, cM Y8t 9 p1_0.events, cM Y8t 9 p1_0.parked]]⟩) (gb [0]) ?_
  rintro x7 _ y21 h
  refine zw ?_
  refine cnd h (fun hb8 h => ?_) fun hb8 h => ?_
  ·
   refine AW.ct hb8 rfl ?_
   refine zw ?_
   refine oi h fun e9 g10 h => ?_
   refine zw ?_
   refine ob' h fun r11 g12 h => ?_
   refine Ops.hd (ns := [0]) rfl rfl (Y6j (cs := [_]) (ds := [_]) rfl (Zae e9 p1_0 _ g12) rfl rfl) ?_
   refine zw ?_
   refine cnd h (fun hb13 h => ?_) fun hb13 h => ?_
   ·
    refine AW.ct hb13 rfl ?_
    refine zw ?_
    refine AW.ret ?_
    refine lx h fun h => ?_
    rw [← Wj h]
    exact ⟨[cI x7], _, Y1z.refl _, (.cons (.tmp rfl) .nil), [0], _, _, rfl, ⟨rfl, rfl⟩⟩
   exact go
  exact go
 rintro ⟨⟩ h
 replace h : Zaf = some r := h
 unfold Zaf at h
 refine zw ?_
 refine AW.ret ?_
 rw [← Wj h]
 exact ⟨[cI (-1)], _, Y1z.refl _, (.cons (.tmp rfl) .nil), [0], _, _, rfl, ⟨rfl, rfl⟩⟩

def Zaj (p0 : List Y8h) (p1_0 : Y8l) : Option Bool := (Zah p0 p1_0).bind fun r1 => some (decide (r1 ≥ 0))
theorem Zak {b00 : Nat} (p0 : List Y8h) (p1_0 : Y8l) (r : Bool) (h : Zaj p0 p1_0 = some r) : Ok Tryz.prog 185 [cM Y8t 9 p0, C.clo 188 [pt b00]] [oB b00 139 [cI p1_0.room, cM Y8t 9 p1_0.events, cM Y8t 9 p1_0.parked]] (fun c qs => c = C.bool r ∧ qs = [oB b00 139 [cI p1_0.room, cM Y8t 9 p1_0.events, cM Y8t 9 p1_0.parked]]) := by
 refine Ok.of_body (rs := [.tmp 4]) Tryz.func185 rfl rfl rfl rfl rfl fun X => ?_
 unfold Zaj at h
 refine zw ?_
 refine ob' h fun r1 g2 h => ?_
 refine Ops.hd (ns := [0]) rfl rfl (Y22 (Zai p0 p1_0 _ g2) rfl rfl) ?_
 refine zw ?_
 refine AW.ret ?_
 rw [← Wj h]
 exact ⟨[C.bool (decide (r1 ≥ 0))], _, Y1z.refl _, (.cons (.tmp rfl) .nil), [0], _, _, rfl, ⟨rfl, rfl⟩⟩

def Zal (p0 : Y8l) (x12 : Bool) : Option Bool := cond x12 (some false) ((Zaa p0.events p0).bind fun r14 => cond r14 (some false) ((Zaj p0.parked p0).bind fun r17 => cond r17 (some false) ((Za2 p0).bind fun r20 => some r20.2)))
def Zam (p0 : Y8l) : Option Bool := (Z82 p0.room).bind fun r2 => cond r2 (cond (decide ((p0.events.length : Int) > 60)) (Zal p0 true) (cond (decide ((p0.parked.length : Int) > 20)) (Zal p0 true) ((Z94 p0 p0.events).bind fun r7 => cond r7 ((Z94 p0 p0.parked).bind fun r10 => Zal p0 (!r10)) (Zal p0 true)))) (Zal p0 true)
instance Zan (p0 : Y8l) : Sp Tryz.prog 135 [C.agg [cI p0.room, cM Y8t 9 p0.events, cM Y8t 9 p0.parked]] (Zam p0) C.bool := sp Tryz.func135 rfl rfl fun r X h => by
 unfold Zam at h
 refine zw ?_
 refine ox fun b1 => ?_
 refine Ops.v rfl (Yr rfl rfl) ?_
 refine Ops.nil ?_
 refine AW.seq ?_
 refine AW.seq ?_
 refine AW.cut (τ := Bool) (fun x12 => ⟨[(1, pt b1), (34, C.bool x12)], [oB b1 139 [cI p0.room, cM Y8t 9 p0.events, cM Y8t 9 p0.parked]]⟩) (fun x12 => Zal p0 x12 = some r) ?_ ?_
 ·
  refine zw ?_
  refine oc h fun r2 g3 h => ?_
  refine zw ?_
  refine cnd h (fun hb4 h => ?_) fun hb4 h => ?_
  ·
   refine zw ?_
   refine cnd h (fun hb5 h => go) fun hb5 h => ?_
   refine zw ?_
   refine cnd h (fun hb6 h => go) fun hb6 h => ?_
   refine zw ?_
   refine ob' h fun r7 g8 h => ?_
   refine Ops.ghd (ns := []) rfl rfl rfl rfl hb6 rfl (Y22 ((Z95 _ _).h _ g8) rfl rfl) ?_
   refine zw ?_
   refine cnd h (fun hb9 h => ?_) fun hb9 h => ?_
   ·
    refine zw ?_
    refine ob' h fun r10 g11 h => ?_
    refine Ops.ghd (ns := []) rfl rfl rfl rfl (Y3r hb9) rfl (Y22 ((Z95 _ _).h _ g11) rfl rfl) ?_
    exact go
   exact go
  exact go
 intro x12 h
 replace h : Zal p0 x12 = some r := h
 unfold Zal at h
 refine cnd h (fun hb13 h => go) fun hb13 h => ?_
 refine AW.cf hb13 rfl ?_
 refine zw ?_
 refine Ops.v rfl (Y6h rfl rfl) ?_
 refine ob' h fun r14 g15 h => ?_
 refine Ops.hd (ns := [0]) rfl rfl (Y22 (Zab p0.events p0 _ g15) rfl rfl) ?_
 refine zw ?_
 refine cnd h (fun hb16 h => go) fun hb16 h => ?_
 refine AW.cf hb16 rfl ?_
 refine zw ?_
 refine Ops.v rfl (Y6h rfl rfl) ?_
 refine ob' h fun r17 g18 h => ?_
 refine Ops.hd (ns := [0]) rfl rfl (Y22 (Zak p0.parked p0 _ g18) rfl rfl) ?_
 exact go

def Zao (p0 : Int) (p1 : Int) (q0 : List Int) : Option Int := (getI q0 p0).bind fun e1 => (getI q0 p1).bind fun e3 => (Z98 e1 e3).bind fun r5 => some r5
theorem Zap {b00 : Nat} (p0 : Int) (p1 : Int) (q0 : List Int) (r : Int) (h : Zao p0 p1 q0 = some r) : Ok Tryz.prog 239 [cI p0, cI p1, pt b00] [oB b00 57 [cM kI64 1 q0]] (fun c qs => c = cI r ∧ qs = [oB b00 57 [cM kI64 1 q0]]) := by
 refine Ok.of_body (rs := [.tmp 5]) Tryz.func239 rfl rfl rfl rfl rfl fun X => ?_
 unfold Zao at h
 refine zw ?_
 refine rD [0] [0,3,4,7] [] [1,4,8,13,17,20,24,29,34,36] ?_
 refine zw ?_
 refine di h fun e1 g2 h => ?_
 refine zw ?_
 refine di h fun e3 g4 h => ?_
 refine zw ?_
 refine dc h fun r5 g6 h => ?_
 refine zw ?_
 refine AW.ret ?_
 rw [← Wj h]
 exact ⟨[cI r5], _, Y1z.refl _, (.cons (.tmp rfl) .nil), [0], _, _, rfl, ⟨rfl, rfl⟩⟩

def Zaq (x62 : Int) (l122 : List Int) : Option ((List Int × Int) ⊕ ((List Int))) := some (.inl (l122, (IntKind.i64.wrap (x62 + 1))))
def Zar (l92 : List Int) (x93 : Int) (x110 : Bool) : Option ((List Int × Int) ⊕ ((List Int))) := cond x110 ((getI l92 (IntKind.i64.wrap (x93 - 1))).bind fun e112 => (getI l92 x93).bind fun e114 => (getI (List.set l92 (Int.toNat x93) e112) (IntKind.i64.wrap (x93 - 1))).bind fun e120 => some (.inl ((List.set (List.set l92 (Int.toNat x93) e112) (Int.toNat (IntKind.i64.wrap (x93 - 1))) e114), (IntKind.i64.wrap (x93 - 1))))) (some (.inr l92))
def Zas (p1 : Int) (p3_0 : List Int) (l92 : List Int) (x93 : Int) : Option ((List Int × Int) ⊕ ((List Int))) := cond (decide (x93 > p1)) ((getI l92 x93).bind fun e104 => (getI l92 (IntKind.i64.wrap (x93 - 1))).bind fun e106 => (Zao e104 e106 p3_0).bind fun r108 => Zar l92 x93 (decide (r108 < 0))) (Zar l92 x93 false)
def Zat (p1 : Int) (p2 : Int) (p3_0 : List Int) (l61 : List Int) (x62 : Int) : Option ((List Int × Int) ⊕ ((List Int))) := cond (decide (x62 < p2)) ((iter (fun z123 => Zas p1 p3_0 z123.1 z123.2) big (l61, x62)).bind fun y124 => Zaq x62 y124) (some (.inr l61))
def Zau (p0 : List Int) (p1 : Int) (p2 : Int) (p3_0 : List Int) : Option (List Int) := (iter (fun z125 => Zat p1 p2 p3_0 z125.1 z125.2) big (p0, (IntKind.i64.wrap (p1 + 1)))).bind fun y126 => some y126
theorem Zav {w00 : Value} {b01 : Nat} (p0 : List Int) (p1 : Int) (p2 : Int) (p3_0 : List Int) (r : List Int) (h : Zau p0 p1 p2 p3_0 = some r) : Ok Tryz.prog 305 [cV w00, cI p1, cI p2, C.clo 239 [pt b01]] [oA w00 3 kI64 1 p0, oB b01 57 [cM kI64 1 p3_0]] (fun c qs => c = C.tup [] ∧ qs = [oA w00 3 kI64 1 r, oB b01 57 [cM kI64 1 p3_0]]) := by
 refine Ok.of_body (rs := []) Tryz.func305 rfl rfl rfl rfl rfl fun X => ?_
 unfold Zau at h
 refine zw ?_
 refine AW.lp (v := ()) h (fun (l61, x62) (_ : Unit) => ⟨[(0, cV w00), (1, cI p1), (2, cI p2), (3, C.clo 239 [pt b01]), (8, cI x62)], [oA w00 3 kI64 1 l61, oB b01 57 [cM kI64 1 p3_0]]⟩) (gb [0, 0]) ?_
 rintro ⟨l61, x62⟩ _ y132 h
 refine zw ?_
 refine cnd h (fun hb63 h => ?_) fun hb63 h => ?_
 ·
  refine AW.ct hb63 rfl ?_
  refine zw ?_
  refine AW.lp (v := ()) h (fun (l92, x93) (_ : Unit) => ⟨[(0, cV w00), (1, cI p1), (2, cI p2), (3, C.clo 239 [pt b01]), (8, cI x62), (9, cI x93)], [oA w00 3 kI64 1 l92, oB b01 57 [cM kI64 1 p3_0]]⟩) (gb [0, 0]) ?_
  rintro ⟨l92, x93⟩ _ y139 h
  refine AW.seq ?_
  refine AW.seq ?_
  refine AW.cut (τ := Bool) (fun x110 => ⟨[(0, cV w00), (1, cI p1), (2, cI p2), (3, C.clo 239 [pt b01]), (8, cI x62), (9, cI x93), (34, C.bool x110)], [oA w00 3 kI64 1 l92, oB b01 57 [cM kI64 1 p3_0]]⟩) (fun x110 => Zar l92 x93 x110 = some y139) ?_ ?_
  ·
   refine rD [0] [8,13] [] [0,4,8,12,16,20,24,28,33,36,40,44,48,53,58,60,64] ?_
   refine zw ?_
   refine cnd h (fun hb103 h => ?_) fun hb103 h => ?_
   ·
    refine zw ?_
    refine ob' h fun e104 g105 h => ?_
    refine OpsD.gv rfl rfl rfl rfl rfl hb103 (Y2v (p := 0) Ycd.h rfl rfl rfl g105 rfl) ?_
    refine OpsD.gv rfl rfl rfl rfl rfl hb103 (Y2x (p := 0) ld_3.h rfl rfl (Y27 g105).2.2 rfl rfl) ?_
    refine zw ?_
    refine ob' h fun e106 g107 h => ?_
    refine OpsD.gv rfl rfl rfl rfl rfl hb103 (Y2v (p := 0) Ycd.h rfl rfl rfl g107 rfl) ?_
    refine OpsD.gv rfl rfl rfl rfl rfl hb103 (Y2x (p := 0) ld_3.h rfl rfl (Y27 g107).2.2 rfl rfl) ?_
    refine zw ?_
    refine ob' h fun r108 g109 h => ?_
    refine Y3k.gh (ns := [0]) rfl rfl rfl rfl rfl hb103 rfl (Y6j (cs := [_, _]) (ds := [_]) rfl (Zap e104 e106 p3_0 _ g109) rfl rfl) ?_
    rintro _ _ ⟨rfl, rfl⟩
    exact go
   refine OpsD.gs rfl rfl rfl rfl (.b rfl hb103) rfl rfl ?_
   refine OpsD.gs rfl rfl rfl rfl (.b rfl hb103) rfl rfl ?_
   refine OpsD.gs rfl rfl rfl rfl (.b rfl hb103) rfl rfl ?_
   refine OpsD.gs rfl rfl rfl rfl (.b rfl hb103) rfl rfl ?_
   refine OpsD.gs rfl rfl rfl rfl (.b rfl hb103) rfl rfl ?_
   refine OpsD.gs rfl rfl rfl rfl (.b rfl hb103) rfl rfl ?_
   refine OpsD.gs rfl rfl rfl rfl (.b rfl hb103) rfl rfl ?_
   refine OpsD.gs rfl rfl rfl rfl (.b rfl hb103) rfl rfl ?_
   refine OpsD.gs rfl rfl rfl rfl (.b rfl hb103) rfl rfl ?_
   refine OpsD.gs rfl rfl rfl rfl (.b rfl hb103) rfl rfl ?_
   refine OpsD.one ?_
   refine Y3k.gs rfl rfl rfl rfl (.b rfl hb103) rfl rfl ?_
   exact go
  intro x110 h
  replace h : Zar l92 x93 x110 = some y139 := h
  unfold Zar at h
  refine cnd h (fun hb111 h => ?_) fun hb111 h => ?_
  ·
   refine AW.ct hb111 rfl ?_
   refine zw ?_
   refine rD [0,0] [9,13] [15,17] [0,4,8,12,16,20,24,28,32,37,40,44,48,53,56,63,64,71] ?_
   refine zw ?_
   refine di h fun e112 g113 h => ?_
   refine OpsD.v rfl rfl (Y2x (p := 0) ld_3.h rfl rfl (Y27 g113).2.2 rfl rfl) ?_
   refine zw ?_
   refine di h fun e114 g115 h => ?_
   refine OpsD.v rfl rfl (Y2x (p := 0) ld_3.h rfl rfl (Y27 g115).2.2 rfl rfl) ?_
   refine zw ?_
   refine OpsD.late (ns := [0]) rfl rfl rfl (Y30 (e' := e112) ld_3.h rfl rfl (One.val rfl) (Y27 g115).2.2 rfl rfl) ?_
   rintro _ _ ⟨rfl, rfl⟩
   refine ob' h fun e120 g121 h => ?_
   refine OpsD.rest (ns := [0, 0]) rfl ?_
   refine zw ?_
   refine OpsD.late (ns := [0]) rfl rfl rfl (Y30 (e' := e114) ld_3.h rfl rfl (One.val rfl) (Y27 g121).2.2 rfl rfl) ?_
   rintro _ _ ⟨rfl, rfl⟩
   exact go
  exact go
 refine AW.cf hb63 rfl ?_
 refine AW.exit ?_
 refine lx h fun h => ?_
 rw [← Wj h]
 exact ⟨[], _, Y1z.refl _, .nil, [0, 0], _, _, rfl, ⟨rfl, rfl⟩⟩

def Zaw (p1 : Int) (p2 : Int) (p3 : Int) (l12 : List Int) (x13 : Int) : Option ((List Int × Int) ⊕ ((List Int))) := cond (decide (x13 < p3)) ((getI l12 (IntKind.i64.wrap (p2 + x13))).bind fun e15 => (getI l12 (IntKind.i64.wrap (p1 + x13))).bind fun e17 => (getI (List.set l12 (Int.toNat (IntKind.i64.wrap (p1 + x13))) e15) (IntKind.i64.wrap (p2 + x13))).bind fun e23 => some (.inl ((List.set (List.set l12 (Int.toNat (IntKind.i64.wrap (p1 + x13))) e15) (Int.toNat (IntKind.i64.wrap (p2 + x13))) e17), (IntKind.i64.wrap (x13 + 1))))) (some (.inr l12))
def Zax (p0 : List Int) (p1 : Int) (p2 : Int) (p3 : Int) (p4_0 : List Int) : Option (List Int) := (iter (fun z25 => Zaw p1 p2 p3 z25.1 z25.2) big (p0, 0)).bind fun y26 => some y26
theorem Zay {w00 : Value} {b01 : Nat} (p0 : List Int) (p1 : Int) (p2 : Int) (p3 : Int) (p4_0 : List Int) (r : List Int) (h : Zax p0 p1 p2 p3 p4_0 = some r) : Ok Tryz.prog 328 [cV w00, cI p1, cI p2, cI p3, C.clo 239 [pt b01]] [oA w00 3 kI64 1 p0, oB b01 57 [cM kI64 1 p4_0]] (fun c qs => c = C.tup [] ∧ qs = [oA w00 3 kI64 1 r, oB b01 57 [cM kI64 1 p4_0]]) := by
 refine Ok.of_body (rs := []) Tryz.func328 rfl rfl rfl rfl rfl fun X => ?_
 unfold Zax at h
 refine zw ?_
 refine AW.lp (v := ()) h (fun (l12, x13) (_ : Unit) => ⟨[(0, cV w00), (1, cI p1), (2, cI p2), (3, cI p3), (10, cI x13)], [oA w00 3 kI64 1 l12, oB b01 57 [cM kI64 1 p4_0]]⟩) (gb [0, 0]) ?_
 rintro ⟨l12, x13⟩ _ y32 h
 refine zw ?_
 refine cnd h (fun hb14 h => ?_) fun hb14 h => ?_
 ·
  refine AW.ct hb14 rfl ?_
  refine zw ?_
  refine rD [0,0] [13,19] [21,23] [0,4,8,12,16,20,24,28,32,36,40,44,48,53,56,60,64,68,72,77,80,87,88,95] ?_
  refine zw ?_
  refine di h fun e15 g16 h => ?_
  refine OpsD.v rfl rfl (Y2x (p := 0) ld_3.h rfl rfl (Y27 g16).2.2 rfl rfl) ?_
  refine zw ?_
  refine di h fun e17 g18 h => ?_
  refine OpsD.v rfl rfl (Y2x (p := 0) ld_3.h rfl rfl (Y27 g18).2.2 rfl rfl) ?_
  refine zw ?_
  refine OpsD.late (ns := [0]) rfl rfl rfl (Y30 (e' := e15) ld_3.h rfl rfl (One.val rfl) (Y27 g18).2.2 rfl rfl) ?_
  rintro _ _ ⟨rfl, rfl⟩
  refine ob' h fun e23 g24 h => ?_
  refine OpsD.rest (ns := [0, 0]) rfl ?_
  refine zw ?_
  refine OpsD.late (ns := [0]) rfl rfl rfl (Y30 (e' := e17) ld_3.h rfl rfl (One.val rfl) (Y27 g24).2.2 rfl rfl) ?_
  rintro _ _ ⟨rfl, rfl⟩
  exact go
 refine AW.cf hb14 rfl ?_
 refine AW.exit ?_
 refine lx h fun h => ?_
 rw [← Wj h]
 exact ⟨[], _, Y1z.refl _, .nil, [0, 0], _, _, rfl, ⟨rfl, rfl⟩⟩

def Zaz (p2 : Int) (p4_0 : List Int) (l16 : List Int) (x17 : Int) : Option (List Int) := (Zax l16 (IntKind.i64.wrap (p2 - x17)) p2 x17 p4_0).bind fun r18 => some r18
def Zb0 (p2 : Int) (p4_0 : List Int) (l7 : List Int) (x8 : Int) (x9 : Int) : Option ((List Int × Int × Int) ⊕ ((List Int × Int))) := cond (x8 != x9) (cond (decide (x8 > x9)) ((Zax l7 (IntKind.i64.wrap (p2 - x8)) p2 x9 p4_0).bind fun r12 => some (.inl (r12, (IntKind.i64.wrap (x8 - x9)), x9))) ((Zax l7 (IntKind.i64.wrap (p2 - x8)) (IntKind.i64.wrap ((IntKind.i64.wrap (p2 + x9)) - x8)) x8 p4_0).bind fun r14 => some (.inl (r14, x8, (IntKind.i64.wrap (x9 - x8)))))) (some (.inr (l7, x8)))
def Zb1 (p0 : List Int) (p1 : Int) (p2 : Int) (p3 : Int) (p4_0 : List Int) : Option (List Int) := (iter (fun z20 => Zb0 p2 p4_0 z20.1 z20.2.1 z20.2.2) big (p0, (IntKind.i64.wrap (p2 - p1)), (IntKind.i64.wrap (p3 - p2)))).bind fun (y21, y22) => Zaz p2 p4_0 y21 y22
theorem Zb2 {w00 : Value} {b01 : Nat} (p0 : List Int) (p1 : Int) (p2 : Int) (p3 : Int) (p4_0 : List Int) (r : List Int) (h : Zb1 p0 p1 p2 p3 p4_0 = some r) : Ok Tryz.prog 322 [cV w00, cI p1, cI p2, cI p3, C.clo 239 [pt b01]] [oA w00 3 kI64 1 p0, oB b01 57 [cM kI64 1 p4_0]] (fun c qs => c = C.tup [] ∧ qs = [oA w00 3 kI64 1 r, oB b01 57 [cM kI64 1 p4_0]]) := by
 refine Ok.of_body (rs := []) Tryz.func322 rfl rfl rfl rfl rfl fun X => ?_
 unfold Zb1 at h
 refine AW.seq ?_
 refine AW.region ?_
 refine Ops.v rfl (Yq rfl rfl) ?_
 refine Ops.v rfl (Yq rfl rfl) ?_
 refine Ops.v rfl (Yv rfl rfl rfl rfl) ?_
 refine Ops.v rfl (Yr rfl rfl) ?_
 refine Ops.nil ?_
 refine AW.seq ?_
 refine AW.region ?_
 refine Ops.v rfl (Yq rfl rfl) ?_
 refine Ops.v rfl (Yq rfl rfl) ?_
 refine Ops.v rfl (Yv rfl rfl rfl rfl) ?_
 refine Ops.v rfl (Yr rfl rfl) ?_
 refine Ops.nil ?_
 refine AW.seq ?_
 refine AW.cut (τ := List Int × Int) (fun (l16, x17) => ⟨[(0, cV w00), (2, cI p2), (4, C.clo 239 [pt b01]), (10, cI x17)], [oA w00 3 kI64 1 l16, oB b01 57 [cM kI64 1 p4_0]]⟩) (fun (l16, x17) => Zaz p2 p4_0 l16 x17 = some r) ?_ ?_
 ·
  refine zw ?_
  refine ob' h fun o23 g24 q25 => ?_
  refine AW.loop (τ := List Int × Int × Int) (x := (p0, (IntKind.i64.wrap (p2 - p1)), (IntKind.i64.wrap (p3 - p2)))) (fun (l7, x8, x9) => ⟨[(0, cV w00), (2, cI p2), (4, C.clo 239 [pt b01]), (10, cI x8), (11, cI x9)], [oA w00 3 kI64 1 l7, oB b01 57 [cM kI64 1 p4_0]]⟩) (fun k (l7, x8, x9) => iter (fun z20 => Zb0 p2 p4_0 z20.1 z20.2.1 z20.2.2) k (l7, x8, x9) = some o23) g24 (Y1z.both (ns := [0, 0]) rfl rfl) ?_
  rintro k ⟨l7, x8, x9⟩ i27
  refine Y3y (show iter (fun z20 => Zb0 p2 p4_0 z20.1 z20.2.1 z20.2.2) k (l7, x8, x9) = some o23 from i27) fun k26 y28 hlt_k26 h h29 => ?_
  replace h : Zb0 p2 p4_0 l7 x8 x9 = some y28 := h
  unfold Zb0 at h
  refine zw ?_
  refine cnd h (fun hb10 h => ?_) fun hb10 h => ?_
  ·
   refine AW.ct hb10 rfl ?_
   refine zw ?_
   refine cnd h (fun hb11 h => ?_) fun hb11 h => ?_
   ·
    refine AW.ct hb11 rfl ?_
    refine zw ?_
    refine ob' h fun r12 g13 h => ?_
    refine Ops.hd (ns := [0, 0]) rfl rfl (Y22 (Zay l7 (IntKind.i64.wrap (p2 - x8)) p2 x9 p4_0 _ g13) rfl rfl) ?_
    refine zw ?_
    obtain rfl := Wj h
    exact ⟨k26, (r12, (IntKind.i64.wrap (x8 - x9)), x9), hlt_k26, h29, Y1z.both (ns := [0, 0]) rfl rfl⟩
   refine AW.cf hb11 rfl ?_
   refine zw ?_
   refine ob' h fun r14 g15 h => ?_
   refine Ops.hd (ns := [0, 0]) rfl rfl (Y22 (Zay l7 (IntKind.i64.wrap (p2 - x8)) (IntKind.i64.wrap ((IntKind.i64.wrap (p2 + x9)) - x8)) x8 p4_0 _ g15) rfl rfl) ?_
   refine zw ?_
   obtain rfl := Wj h
   exact ⟨k26, (r14, x8, (IntKind.i64.wrap (x9 - x8))), hlt_k26, h29, Y1z.both (ns := [0, 0]) rfl rfl⟩
  refine AW.cf hb10 rfl ?_
  refine AW.exit ?_
  obtain rfl := Wj h
  obtain rfl := Wj h29
  replace h := q25
  exact ⟨(l7, x8), h, Y1z.both (ns := [0, 0]) rfl rfl⟩
 rintro ⟨l16, x17⟩ h
 replace h : Zaz p2 p4_0 l16 x17 = some r := h
 unfold Zaz at h
 refine zw ?_
 refine ob' h fun r18 g19 h => ?_
 refine Ops.hd (ns := [0, 0]) rfl rfl (Y22 (Zay l16 (IntKind.i64.wrap (p2 - x17)) p2 x17 p4_0 _ g19) rfl rfl) ?_
 refine zw ?_
 rw [← Wj h]
 exact ⟨[], _, Y1z.refl _, .nil, [0, 0], _, _, rfl, ⟨rfl, rfl⟩⟩

def Zb3 (l61 : List Int) : Option (List Int) := some l61
def Zb4 (x36 : Int) (l48 : List Int) (x49 : Int) : Option ((List Int × Int) ⊕ ((List Int))) := cond (decide (x49 < (IntKind.i64.wrap (x36 - 1)))) ((getI l48 (IntKind.i64.wrap (x49 + 1))).bind fun e51 => (getI l48 x49).bind fun e53 => (getI (List.set l48 (Int.toNat x49) e51) (IntKind.i64.wrap (x49 + 1))).bind fun e59 => some (.inl ((List.set (List.set l48 (Int.toNat x49) e51) (Int.toNat (IntKind.i64.wrap (x49 + 1))) e53), (IntKind.i64.wrap (x49 + 1))))) (some (.inr l48))
def Zb5 (p0 : List Int) (p1 : Int) (x36 : Int) : Option (List Int) := (iter (fun z178 => Zb4 x36 z178.1 z178.2) big (p0, p1)).bind fun y179 => Zb3 y179
def Zb6 (p0 : List Int) (p1 : Int) (p4_0 : List Int) (x18 : Int) (x19 : Int) : Option ((Int × Int) ⊕ (Int)) := cond (decide (x18 < x19)) ((getI p0 (IntKind.i64.wrap (shrI .u64 (IntKind.u64.wrap (IntKind.i64.wrap (x18 + x19))) 1))).bind fun e29 => (getI p0 p1).bind fun e31 => (Zao e29 e31 p4_0).bind fun r33 => cond (decide (r33 < 0)) (some (.inl ((IntKind.i64.wrap ((IntKind.i64.wrap (shrI .u64 (IntKind.u64.wrap (IntKind.i64.wrap (x18 + x19))) 1)) + 1)), x19))) (some (.inl (x18, (IntKind.i64.wrap (shrI .u64 (IntKind.u64.wrap (IntKind.i64.wrap (x18 + x19))) 1)))))) (some (.inr x18))
def Zb7 (l122 : List Int) : Option (List Int) := some l122
def Zb8 (x97 : Int) (l109 : List Int) (x110 : Int) : Option ((List Int × Int) ⊕ ((List Int))) := cond (decide (x110 > x97)) ((getI l109 (IntKind.i64.wrap (x110 - 1))).bind fun e112 => (getI l109 x110).bind fun e114 => (getI (List.set l109 (Int.toNat x110) e112) (IntKind.i64.wrap (x110 - 1))).bind fun e120 => some (.inl ((List.set (List.set l109 (Int.toNat x110) e112) (Int.toNat (IntKind.i64.wrap (x110 - 1))) e114), (IntKind.i64.wrap (x110 - 1))))) (some (.inr l109))
def Zb9 (p0 : List Int) (p2 : Int) (x97 : Int) : Option (List Int) := (iter (fun z182 => Zb8 x97 z182.1 z182.2) big (p0, p2)).bind fun y183 => Zb7 y183
def Zba (p0 : List Int) (p2 : Int) (p4_0 : List Int) (x79 : Int) (x80 : Int) : Option ((Int × Int) ⊕ (Int)) := cond (decide (x79 < x80)) ((getI p0 p2).bind fun e90 => (getI p0 (IntKind.i64.wrap (shrI .u64 (IntKind.u64.wrap (IntKind.i64.wrap (x79 + x80))) 1))).bind fun e92 => (Zao e90 e92 p4_0).bind fun r94 => cond (decide (r94 < 0)) (some (.inl (x79, (IntKind.i64.wrap (shrI .u64 (IntKind.u64.wrap (IntKind.i64.wrap (x79 + x80))) 1))))) (some (.inl ((IntKind.i64.wrap ((IntKind.i64.wrap (shrI .u64 (IntKind.u64.wrap (IntKind.i64.wrap (x79 + x80))) 1)) + 1)), x80)))) (some (.inr x79))
def Zbb (p1 : Int) (p2 : Int) (p3 : Int) (p4_0 : List Int) (self_ : (List Int) → Int → Int → Int → (List Int) → Option (List Int)) (x160 : Int) (l172 : List Int) (x174 : Bool) : Option (List Int) := cond x174 ((self_ l172 (IntKind.i64.wrap (shrI .u64 (IntKind.u64.wrap (IntKind.i64.wrap (p1 + p3))) 1)) (IntKind.i64.wrap ((IntKind.i64.wrap ((IntKind.i64.wrap (shrI .u64 (IntKind.u64.wrap (IntKind.i64.wrap (p1 + p3))) 1)) + p2)) - x160)) p3 p4_0).bind fun r176 => some r176) (some l172)
def Zbc (p1 : Int) (p2 : Int) (p3 : Int) (p4_0 : List Int) (self_ : (List Int) → Int → Int → Int → (List Int) → Option (List Int)) (x160 : Int) (l172 : List Int) : Option (List Int) := cond (decide ((IntKind.i64.wrap (shrI .u64 (IntKind.u64.wrap (IntKind.i64.wrap (p1 + p3))) 1)) < (IntKind.i64.wrap ((IntKind.i64.wrap ((IntKind.i64.wrap (shrI .u64 (IntKind.u64.wrap (IntKind.i64.wrap (p1 + p3))) 1)) + p2)) - x160)))) (Zbb p1 p2 p3 p4_0 self_ x160 l172 (decide ((IntKind.i64.wrap ((IntKind.i64.wrap ((IntKind.i64.wrap (shrI .u64 (IntKind.u64.wrap (IntKind.i64.wrap (p1 + p3))) 1)) + p2)) - x160)) < p3))) (Zbb p1 p2 p3 p4_0 self_ x160 l172 false)
def Zbd (p1 : Int) (p2 : Int) (p3 : Int) (p4_0 : List Int) (self_ : (List Int) → Int → Int → Int → (List Int) → Option (List Int)) (x160 : Int) (l166 : List Int) (x168 : Bool) : Option (List Int) := cond x168 ((self_ l166 p1 x160 (IntKind.i64.wrap (shrI .u64 (IntKind.u64.wrap (IntKind.i64.wrap (p1 + p3))) 1)) p4_0).bind fun r170 => Zbc p1 p2 p3 p4_0 self_ x160 r170) (Zbc p1 p2 p3 p4_0 self_ x160 l166)
def Zbe (p1 : Int) (p2 : Int) (p3 : Int) (p4_0 : List Int) (self_ : (List Int) → Int → Int → Int → (List Int) → Option (List Int)) (x160 : Int) (l166 : List Int) : Option (List Int) := cond (decide (p1 < x160)) (Zbd p1 p2 p3 p4_0 self_ x160 l166 (decide (x160 < (IntKind.i64.wrap (shrI .u64 (IntKind.u64.wrap (IntKind.i64.wrap (p1 + p3))) 1))))) (Zbd p1 p2 p3 p4_0 self_ x160 l166 false)
def Zbf (p0 : List Int) (p1 : Int) (p2 : Int) (p3 : Int) (p4_0 : List Int) (self_ : (List Int) → Int → Int → Int → (List Int) → Option (List Int)) (x160 : Int) (x162 : Bool) : Option (List Int) := cond x162 ((Zb1 p0 x160 p2 (IntKind.i64.wrap ((IntKind.i64.wrap ((IntKind.i64.wrap (shrI .u64 (IntKind.u64.wrap (IntKind.i64.wrap (p1 + p3))) 1)) + p2)) - x160)) p4_0).bind fun r164 => Zbe p1 p2 p3 p4_0 self_ x160 r164) (Zbe p1 p2 p3 p4_0 self_ x160 p0)
def Zbg (p0 : List Int) (p1 : Int) (p2 : Int) (p3 : Int) (p4_0 : List Int) (self_ : (List Int) → Int → Int → Int → (List Int) → Option (List Int)) (x160 : Int) : Option (List Int) := cond (decide (x160 < p2)) (Zbf p0 p1 p2 p3 p4_0 self_ x160 (decide (p2 < (IntKind.i64.wrap ((IntKind.i64.wrap ((IntKind.i64.wrap (shrI .u64 (IntKind.u64.wrap (IntKind.i64.wrap (p1 + p3))) 1)) + p2)) - x160))))) (Zbf p0 p1 p2 p3 p4_0 self_ x160 false)
def Zbh (p0 : List Int) (p1 : Int) (p2 : Int) (p3 : Int) (p4_0 : List Int) (x142 : Int) (x143 : Int) : Option ((Int × Int) ⊕ (Int)) := cond (decide (x142 < x143)) ((getI p0 (IntKind.i64.wrap ((IntKind.i64.wrap ((IntKind.i64.wrap ((IntKind.i64.wrap (shrI .u64 (IntKind.u64.wrap (IntKind.i64.wrap (p1 + p3))) 1)) + p2)) - 1)) - (IntKind.i64.wrap (shrI .u64 (IntKind.u64.wrap (IntKind.i64.wrap (x142 + x143))) 1))))).bind fun e153 => (getI p0 (IntKind.i64.wrap (shrI .u64 (IntKind.u64.wrap (IntKind.i64.wrap (x142 + x143))) 1))).bind fun e155 => (Zao e153 e155 p4_0).bind fun r157 => cond (decide (r157 < 0)) (some (.inl (x142, (IntKind.i64.wrap (shrI .u64 (IntKind.u64.wrap (IntKind.i64.wrap (x142 + x143))) 1))))) (some (.inl ((IntKind.i64.wrap ((IntKind.i64.wrap (shrI .u64 (IntKind.u64.wrap (IntKind.i64.wrap (x142 + x143))) 1)) + 1)), x143)))) (some (.inr x142))
def Zbi (p0 : List Int) (p1 : Int) (p2 : Int) (p3 : Int) (p4_0 : List Int) (self_ : (List Int) → Int → Int → Int → (List Int) → Option (List Int)) (x124 : Int) (x125 : Int) : Option (List Int) := (iter (fun z186 => Zbh p0 p1 p2 p3 p4_0 z186.1 z186.2) big (x124, x125)).bind fun y187 => Zbg p0 p1 p2 p3 p4_0 self_ y187
def Zbj (self_ : (List Int) → Int → Int → Int → (List Int) → Option (List Int)) (p0 : List Int) (p1 : Int) (p2 : Int) (p3 : Int) (p4_0 : List Int) : Option (List Int) := cond ((IntKind.i64.wrap (p2 - p1)) == 1) ((iter (fun z180 => Zb6 p0 p1 p4_0 z180.1 z180.2) big (p2, p3)).bind fun y181 => Zb5 p0 p1 y181) (cond ((IntKind.i64.wrap (p3 - p2)) == 1) ((iter (fun z184 => Zba p0 p2 p4_0 z184.1 z184.2) big (p1, p2)).bind fun y185 => Zb9 p0 p2 y185) (cond (decide (p2 > (IntKind.i64.wrap (shrI .u64 (IntKind.u64.wrap (IntKind.i64.wrap (p1 + p3))) 1)))) (Zbi p0 p1 p2 p3 p4_0 self_ (IntKind.i64.wrap ((IntKind.i64.wrap ((IntKind.i64.wrap (shrI .u64 (IntKind.u64.wrap (IntKind.i64.wrap (p1 + p3))) 1)) + p2)) - p3)) (IntKind.i64.wrap (shrI .u64 (IntKind.u64.wrap (IntKind.i64.wrap (p1 + p3))) 1))) (Zbi p0 p1 p2 p3 p4_0 self_ p1 p2)))
theorem Zbk (self_ : (List Int) → Int → Int → Int → (List Int) → Option (List Int)) (hself_ : ∀ {w00 : Value} {b01 : Nat} (p0 : List Int) (p1 : Int) (p2 : Int) (p3 : Int) (p4_0 : List Int) (r : List Int), self_ p0 p1 p2 p3 p4_0 = some r → Ok Tryz.prog 306 [cV w00, cI p1, cI p2, cI p3, C.clo 239 [pt b01]] [oA w00 3 kI64 1 p0, oB b01 57 [cM kI64 1 p4_0]] (fun c qs => c = C.tup [] ∧ qs = [oA w00 3 kI64 1 r, oB b01 57 [cM kI64 1 p4_0]])) {w00 : Value} {b01 : Nat} (p0 : List Int) (p1 : Int) (p2 : Int) (p3 : Int) (p4_0 : List Int) (r : List Int) (h : Zbj self_ p0 p1 p2 p3 p4_0 = some r) : Ok Tryz.prog 306 [cV w00, cI p1, cI p2, cI p3, C.clo 239 [pt b01]] [oA w00 3 kI64 1 p0, oB b01 57 [cM kI64 1 p4_0]] (fun c qs => c = C.tup [] ∧ qs = [oA w00 3 kI64 1 r, oB b01 57 [cM kI64 1 p4_0]]) := by
 refine Ok.of_body (rs := []) Tryz.func306 rfl rfl rfl rfl rfl fun X => ?_
 unfold Zbj at h
 refine zw ?_
 refine cnd h (fun hb1 h => ?_) fun hb1 h => ?_
 ·
  refine AW.ct hb1 rfl ?_
  refine AW.seq ?_
  refine AW.region ?_
  refine Ops.v rfl (Yq rfl rfl) ?_
  refine Ops.v rfl (Yr rfl rfl) ?_
  refine Ops.nil ?_
  refine AW.seq ?_
  refine AW.region ?_
  refine Ops.v rfl (Yq rfl rfl) ?_
  refine Ops.v rfl (Yr rfl rfl) ?_
  refine Ops.nil ?_
  refine AW.seq ?_
  refine AW.cut (τ := Int) (fun x36 => ⟨[(0, cV w00), (1, cI p1), (10, cI x36)], [oA w00 3 kI64 1 p0, oB b01 57 [cM kI64 1 p4_0]]⟩) (fun x36 => Zb5 p0 p1 x36 = some r) ?_ ?_
  ·
   refine zw ?_
   refine ob' h fun o195 g196 q197 => ?_
   refine AW.loop (τ := Int × Int) (x := (p2, p3)) (fun (x18, x19) => ⟨[(0, cV w00), (1, cI p1), (4, C.clo 239 [pt b01]), (10, cI x18), (11, cI x19)], [oA w00 3 kI64 1 p0, oB b01 57 [cM kI64 1 p4_0]]⟩) (fun k (x18, x19) => iter (fun z180 => Zb6 p0 p1 p4_0 z180.1 z180.2) k (x18, x19) = some o195) g196 (Y1z.both (ns := [0, 0]) rfl rfl) ?_
   rintro k ⟨x18, x19⟩ i199
   refine Y3y (show iter (fun z180 => Zb6 p0 p1 p4_0 z180.1 z180.2) k (x18, x19) = some o195 from i199) fun k198 y200 hlt_k198 h h201 => ?_
   replace h : Zb6 p0 p1 p4_0 x18 x19 = some y200 := h
   unfold Zb6 at h
   refine zw ?_
   refine cnd h (fun hb20 h => ?_) fun hb20 h => ?_
   ·
    refine AW.ct hb20 rfl ?_
    refine zw ?_
    refine Ops.v rfl (Y10 un_3 Yce rfl rfl) ?_
    refine Ops.v rfl (Yx rfl rfl rfl rfl) ?_
    refine Ops.v rfl (Y10 Yce un_3 rfl rfl) ?_
    refine zw ?_
    refine rD [0] [4,8] [] [0,4,8,12,17,20,24,28,33,38,40] ?_
    refine zw ?_
    refine di h fun e29 g30 h => ?_
    refine OpsD.v rfl rfl (Y2x (p := 0) ld_3.h rfl rfl (Y27 g30).2.2 rfl rfl) ?_
    refine zw ?_
    refine di h fun e31 g32 h => ?_
    refine OpsD.v rfl rfl (Y2x (p := 0) ld_3.h rfl rfl (Y27 g32).2.2 rfl rfl) ?_
    refine zw ?_
    refine ob' h fun r33 g34 h => ?_
    refine Y3k.h (ns := [0]) rfl rfl rfl (Y6j (cs := [_, _]) (ds := [_]) rfl (Zap e29 e31 p4_0 _ g34) rfl rfl) ?_
    rintro _ _ ⟨rfl, rfl⟩
    refine zw ?_
    refine cnd h (fun hb35 h => ?_) fun hb35 h => ?_
    ·
     refine AW.ct hb35 rfl ?_
     refine zw ?_
     obtain rfl := Wj h
     exact ⟨k198, ((IntKind.i64.wrap ((IntKind.i64.wrap (shrI .u64 (IntKind.u64.wrap (IntKind.i64.wrap (x18 + x19))) 1)) + 1)), x19), hlt_k198, h201, Y1z.both (ns := [0, 0]) rfl rfl⟩
    refine AW.cf hb35 rfl ?_
    refine zw ?_
    obtain rfl := Wj h
    exact ⟨k198, (x18, (IntKind.i64.wrap (shrI .u64 (IntKind.u64.wrap (IntKind.i64.wrap (x18 + x19))) 1))), hlt_k198, h201, Y1z.both (ns := [0, 0]) rfl rfl⟩
   refine AW.cf hb20 rfl ?_
   refine AW.exit ?_
   obtain rfl := Wj h
   obtain rfl := Wj h201
   replace h := q197
   exact ⟨x18, h, Y1z.both (ns := [0, 0]) rfl rfl⟩
  intro x36 h
  replace h : Zb5 p0 p1 x36 = some r := h
  unfold Zb5 at h
  refine AW.seq ?_
  refine AW.cut (τ := List Int) (fun l61 => ⟨[], [oA w00 3 kI64 1 l61, oB b01 57 [cM kI64 1 p4_0]]⟩) (fun l61 => Zb3 l61 = some r) ?_ ?_
  ·
   refine zw ?_
   refine ob' h fun o188 g189 q190 => ?_
   refine AW.loop (τ := List Int × Int) (x := (p0, p1)) (fun (l48, x49) => ⟨[(0, cV w00), (10, cI x36), (13, cI x49)], [oA w00 3 kI64 1 l48, oB b01 57 [cM kI64 1 p4_0]]⟩) (fun k (l48, x49) => iter (fun z178 => Zb4 x36 z178.1 z178.2) k (l48, x49) = some o188) g189 (Y1z.both (ns := [0, 0]) rfl rfl) ?_
   rintro k ⟨l48, x49⟩ i192
   refine Y3y (show iter (fun z178 => Zb4 x36 z178.1 z178.2) k (l48, x49) = some o188 from i192) fun k191 y193 hlt_k191 h h194 => ?_
   replace h : Zb4 x36 l48 x49 = some y193 := h
   unfold Zb4 at h
   refine zw ?_
   refine cnd h (fun hb50 h => ?_) fun hb50 h => ?_
   ·
    refine AW.ct hb50 rfl ?_
    refine zw ?_
    refine rD [0,0] [9,13] [15,17] [0,4,8,12,16,20,24,28,32,37,40,44,48,53,56,63,64,71] ?_
    refine zw ?_
    refine di h fun e51 g52 h => ?_
    refine OpsD.v rfl rfl (Y2x (p := 0) ld_3.h rfl rfl (Y27 g52).2.2 rfl rfl) ?_
    refine zw ?_
    refine di h fun e53 g54 h => ?_
    refine OpsD.v rfl rfl (Y2x (p := 0) ld_3.h rfl rfl (Y27 g54).2.2 rfl rfl) ?_
    refine zw ?_
    refine OpsD.late (ns := [0]) rfl rfl rfl (Y30 (e' := e51) ld_3.h rfl rfl (One.val rfl) (Y27 g54).2.2 rfl rfl) ?_
    rintro _ _ ⟨rfl, rfl⟩
    refine ob' h fun e59 g60 h => ?_
    refine OpsD.rest (ns := [0, 0]) rfl ?_
    refine zw ?_
    refine OpsD.late (ns := [0]) rfl rfl rfl (Y30 (e' := e53) ld_3.h rfl rfl (One.val rfl) (Y27 g60).2.2 rfl rfl) ?_
    rintro _ _ ⟨rfl, rfl⟩
    refine zw ?_
    obtain rfl := Wj h
    exact ⟨k191, ((List.set (List.set l48 (Int.toNat x49) e51) (Int.toNat (IntKind.i64.wrap (x49 + 1))) e53), (IntKind.i64.wrap (x49 + 1))), hlt_k191, h194, Y1z.both (ns := [0, 0]) rfl rfl⟩
   refine AW.cf hb50 rfl ?_
   refine AW.exit ?_
   obtain rfl := Wj h
   obtain rfl := Wj h194
   replace h := q190
   exact ⟨l48, h, Y1z.both (ns := [0, 0]) rfl rfl⟩
  intro l61 h
  replace h : Zb3 l61 = some r := h
  unfold Zb3 at h
  refine AW.ret ?_
  rw [← Wj h]
  exact ⟨[], _, Y1z.refl _, .nil, [0, 0], _, _, rfl, ⟨rfl, rfl⟩⟩
 refine AW.cf hb1 rfl ?_
 refine zw ?_
 refine cnd h (fun hb62 h => ?_) fun hb62 h => ?_
 ·
  refine AW.ct hb62 rfl ?_
  refine AW.seq ?_
  refine AW.region ?_
  refine Ops.v rfl (Yq rfl rfl) ?_
  refine Ops.v rfl (Yr rfl rfl) ?_
  refine Ops.nil ?_
  refine AW.seq ?_
  refine AW.region ?_
  refine Ops.v rfl (Yq rfl rfl) ?_
  refine Ops.v rfl (Yr rfl rfl) ?_
  refine Ops.nil ?_
  refine AW.seq ?_
  refine AW.cut (τ := Int) (fun x97 => ⟨[(0, cV w00), (2, cI p2), (14, cI x97)], [oA w00 3 kI64 1 p0, oB b01 57 [cM kI64 1 p4_0]]⟩) (fun x97 => Zb9 p0 p2 x97 = some r) ?_ ?_
  ·
   refine zw ?_
   refine ob' h fun o209 g210 q211 => ?_
   refine AW.loop (τ := Int × Int) (x := (p1, p2)) (fun (x79, x80) => ⟨[(0, cV w00), (2, cI p2), (4, C.clo 239 [pt b01]), (14, cI x79), (15, cI x80)], [oA w00 3 kI64 1 p0, oB b01 57 [cM kI64 1 p4_0]]⟩) (fun k (x79, x80) => iter (fun z184 => Zba p0 p2 p4_0 z184.1 z184.2) k (x79, x80) = some o209) g210 (Y1z.both (ns := [0, 0]) rfl rfl) ?_
   rintro k ⟨x79, x80⟩ i213
   refine Y3y (show iter (fun z184 => Zba p0 p2 p4_0 z184.1 z184.2) k (x79, x80) = some o209 from i213) fun k212 y214 hlt_k212 h h215 => ?_
   replace h : Zba p0 p2 p4_0 x79 x80 = some y214 := h
   unfold Zba at h
   refine zw ?_
   refine cnd h (fun hb81 h => ?_) fun hb81 h => ?_
   ·
    refine AW.ct hb81 rfl ?_
    refine zw ?_
    refine Ops.v rfl (Y10 un_3 Yce rfl rfl) ?_
    refine Ops.v rfl (Yx rfl rfl rfl rfl) ?_
    refine Ops.v rfl (Y10 Yce un_3 rfl rfl) ?_
    refine zw ?_
    refine rD [0] [4,8] [] [0,4,8,12,17,20,24,28,33,38,40,44] ?_
    refine zw ?_
    refine di h fun e90 g91 h => ?_
    refine OpsD.v rfl rfl (Y2x (p := 0) ld_3.h rfl rfl (Y27 g91).2.2 rfl rfl) ?_
    refine zw ?_
    refine di h fun e92 g93 h => ?_
    refine OpsD.v rfl rfl (Y2x (p := 0) ld_3.h rfl rfl (Y27 g93).2.2 rfl rfl) ?_
    refine zw ?_
    refine ob' h fun r94 g95 h => ?_
    refine Y3k.h (ns := [0]) rfl rfl rfl (Y6j (cs := [_, _]) (ds := [_]) rfl (Zap e90 e92 p4_0 _ g95) rfl rfl) ?_
    rintro _ _ ⟨rfl, rfl⟩
    refine zw ?_
    refine cnd h (fun hb96 h => ?_) fun hb96 h => ?_
    ·
     refine AW.cond rfl (fun hn => absurd ((Y3r hb96).symm.trans hn) (by decide)) (fun _ => ?_)
     refine zw ?_
     obtain rfl := Wj h
     exact ⟨k212, (x79, (IntKind.i64.wrap (shrI .u64 (IntKind.u64.wrap (IntKind.i64.wrap (x79 + x80))) 1))), hlt_k212, h215, Y1z.both (ns := [0, 0]) rfl rfl⟩
    refine AW.cond rfl (fun _ => ?_) (fun hn => absurd ((Y3s hb96).symm.trans hn) (by decide))
    refine zw ?_
    obtain rfl := Wj h
    exact ⟨k212, ((IntKind.i64.wrap ((IntKind.i64.wrap (shrI .u64 (IntKind.u64.wrap (IntKind.i64.wrap (x79 + x80))) 1)) + 1)), x80), hlt_k212, h215, Y1z.both (ns := [0, 0]) rfl rfl⟩
   refine AW.cf hb81 rfl ?_
   refine AW.exit ?_
   obtain rfl := Wj h
   obtain rfl := Wj h215
   replace h := q211
   exact ⟨x79, h, Y1z.both (ns := [0, 0]) rfl rfl⟩
  intro x97 h
  replace h : Zb9 p0 p2 x97 = some r := h
  unfold Zb9 at h
  refine AW.seq ?_
  refine AW.cut (τ := List Int) (fun l122 => ⟨[], [oA w00 3 kI64 1 l122, oB b01 57 [cM kI64 1 p4_0]]⟩) (fun l122 => Zb7 l122 = some r) ?_ ?_
  ·
   refine zw ?_
   refine ob' h fun o202 g203 q204 => ?_
   refine AW.loop (τ := List Int × Int) (x := (p0, p2)) (fun (l109, x110) => ⟨[(0, cV w00), (14, cI x97), (17, cI x110)], [oA w00 3 kI64 1 l109, oB b01 57 [cM kI64 1 p4_0]]⟩) (fun k (l109, x110) => iter (fun z182 => Zb8 x97 z182.1 z182.2) k (l109, x110) = some o202) g203 (Y1z.both (ns := [0, 0]) rfl rfl) ?_
   rintro k ⟨l109, x110⟩ i206
   refine Y3y (show iter (fun z182 => Zb8 x97 z182.1 z182.2) k (l109, x110) = some o202 from i206) fun k205 y207 hlt_k205 h h208 => ?_
   replace h : Zb8 x97 l109 x110 = some y207 := h
   unfold Zb8 at h
   refine zw ?_
   refine cnd h (fun hb111 h => ?_) fun hb111 h => ?_
   ·
    refine AW.ct hb111 rfl ?_
    refine zw ?_
    refine rD [0,0] [9,13] [15,17] [0,4,8,12,16,20,24,28,32,37,40,44,48,53,56,63,64,71] ?_
    refine zw ?_
    refine di h fun e112 g113 h => ?_
    refine OpsD.v rfl rfl (Y2x (p := 0) ld_3.h rfl rfl (Y27 g113).2.2 rfl rfl) ?_
    refine zw ?_
    refine di h fun e114 g115 h => ?_
    refine OpsD.v rfl rfl (Y2x (p := 0) ld_3.h rfl rfl (Y27 g115).2.2 rfl rfl) ?_
    refine zw ?_
    refine OpsD.late (ns := [0]) rfl rfl rfl (Y30 (e' := e112) ld_3.h rfl rfl (One.val rfl) (Y27 g115).2.2 rfl rfl) ?_
    rintro _ _ ⟨rfl, rfl⟩
    refine ob' h fun e120 g121 h => ?_
    refine OpsD.rest (ns := [0, 0]) rfl ?_
    refine zw ?_
    refine OpsD.late (ns := [0]) rfl rfl rfl (Y30 (e' := e114) ld_3.h rfl rfl (One.val rfl) (Y27 g121).2.2 rfl rfl) ?_
    rintro _ _ ⟨rfl, rfl⟩
    refine zw ?_
    obtain rfl := Wj h
    exact ⟨k205, ((List.set (List.set l109 (Int.toNat x110) e112) (Int.toNat (IntKind.i64.wrap (x110 - 1))) e114), (IntKind.i64.wrap (x110 - 1))), hlt_k205, h208, Y1z.both (ns := [0, 0]) rfl rfl⟩
   refine AW.cf hb111 rfl ?_
   refine AW.exit ?_
   obtain rfl := Wj h
   obtain rfl := Wj h208
   replace h := q204
   exact ⟨l109, h, Y1z.both (ns := [0, 0]) rfl rfl⟩
  intro l122 h
  replace h : Zb7 l122 = some r := h
  unfold Zb7 at h
  refine AW.ret ?_
  rw [← Wj h]
  exact ⟨[], _, Y1z.refl _, .nil, [0, 0], _, _, rfl, ⟨rfl, rfl⟩⟩
 refine AW.cf hb62 rfl ?_
 refine zw ?_
 refine Ops.v rfl (Y10 un_3 Yce rfl rfl) ?_
 refine Ops.v rfl (Yx rfl rfl rfl rfl) ?_
 refine Ops.v rfl (Y10 Yce un_3 rfl rfl) ?_
 refine Ops.v rfl (Yr rfl rfl) ?_
 refine Ops.nil ?_
 refine AW.seq ?_
 refine AW.region ?_
 refine Ops.v rfl (Yq rfl rfl) ?_
 refine Ops.v rfl (Yq rfl rfl) ?_
 refine Ops.v rfl (Yv rfl rfl rfl rfl) ?_
 refine Ops.v rfl (Yr rfl rfl) ?_
 refine Ops.nil ?_
 refine AW.seq ?_
 refine AW.region ?_
 refine Ops.v rfl (Yr rfl rfl) ?_
 refine Ops.v rfl (Yr rfl rfl) ?_
 refine Ops.nil ?_
 refine AW.seq ?_
 refine AW.cut (τ := Int × Int) (fun (x124, x125) => ⟨[(0, cV w00), (1, cI p1), (2, cI p2), (3, cI p3), (4, C.clo 239 [pt b01]), (18, cI (IntKind.i64.wrap (shrI .u64 (IntKind.u64.wrap (IntKind.i64.wrap (p1 + p3))) 1))), (19, cI (IntKind.i64.wrap ((IntKind.i64.wrap (shrI .u64 (IntKind.u64.wrap (IntKind.i64.wrap (p1 + p3))) 1)) + p2))), (20, cI x124), (21, cI x125)], [oA w00 3 kI64 1 p0, oB b01 57 [cM kI64 1 p4_0]]⟩) (fun (x124, x125) => Zbi p0 p1 p2 p3 p4_0 self_ x124 x125 = some r) ?_ ?_
 ·
  refine zw ?_
  refine cnd h (fun hb123 h => ?_) fun hb123 h => ?_
  ·
   refine AW.ct hb123 rfl ?_
   refine zw ?_
   exact ⟨((IntKind.i64.wrap ((IntKind.i64.wrap ((IntKind.i64.wrap (shrI .u64 (IntKind.u64.wrap (IntKind.i64.wrap (p1 + p3))) 1)) + p2)) - p3)), (IntKind.i64.wrap (shrI .u64 (IntKind.u64.wrap (IntKind.i64.wrap (p1 + p3))) 1))), h, Y1z.both (ns := [0, 0]) rfl rfl⟩
  refine AW.cf hb123 rfl ?_
  refine zw ?_
  exact ⟨(p1, p2), h, Y1z.both (ns := [0, 0]) rfl rfl⟩
 rintro ⟨x124, x125⟩ h
 replace h : Zbi p0 p1 p2 p3 p4_0 self_ x124 x125 = some r := h
 unfold Zbi at h
 refine AW.seq ?_
 refine AW.region ?_
 refine Ops.v rfl (Yq rfl rfl) ?_
 refine Ops.v rfl (Yv rfl rfl rfl rfl) ?_
 refine Ops.v rfl (Yr rfl rfl) ?_
 refine Ops.nil ?_
 refine AW.seq ?_
 refine AW.cut (τ := Int) (fun x160 => ⟨[(0, cV w00), (1, cI p1), (2, cI p2), (3, cI p3), (4, C.clo 239 [pt b01]), (18, cI (IntKind.i64.wrap (shrI .u64 (IntKind.u64.wrap (IntKind.i64.wrap (p1 + p3))) 1))), (19, cI (IntKind.i64.wrap ((IntKind.i64.wrap (shrI .u64 (IntKind.u64.wrap (IntKind.i64.wrap (p1 + p3))) 1)) + p2))), (20, cI x160)], [oA w00 3 kI64 1 p0, oB b01 57 [cM kI64 1 p4_0]]⟩) (fun x160 => Zbg p0 p1 p2 p3 p4_0 self_ x160 = some r) ?_ ?_
 ·
  refine zw ?_
  refine ob' h fun o216 g217 q218 => ?_
  refine AW.loop (τ := Int × Int) (x := (x124, x125)) (fun (x142, x143) => ⟨[(0, cV w00), (1, cI p1), (2, cI p2), (3, cI p3), (4, C.clo 239 [pt b01]), (18, cI (IntKind.i64.wrap (shrI .u64 (IntKind.u64.wrap (IntKind.i64.wrap (p1 + p3))) 1))), (19, cI (IntKind.i64.wrap ((IntKind.i64.wrap (shrI .u64 (IntKind.u64.wrap (IntKind.i64.wrap (p1 + p3))) 1)) + p2))), (20, cI x142), (21, cI x143), (22, cI (IntKind.i64.wrap ((IntKind.i64.wrap ((IntKind.i64.wrap (shrI .u64 (IntKind.u64.wrap (IntKind.i64.wrap (p1 + p3))) 1)) + p2)) - 1)))], [oA w00 3 kI64 1 p0, oB b01 57 [cM kI64 1 p4_0]]⟩) (fun k (x142, x143) => iter (fun z186 => Zbh p0 p1 p2 p3 p4_0 z186.1 z186.2) k (x142, x143) = some o216) g217 (Y1z.both (ns := [0, 0]) rfl rfl) ?_
  rintro k ⟨x142, x143⟩ i220
  refine Y3y (show iter (fun z186 => Zbh p0 p1 p2 p3 p4_0 z186.1 z186.2) k (x142, x143) = some o216 from i220) fun k219 y221 hlt_k219 h h222 => ?_
  replace h : Zbh p0 p1 p2 p3 p4_0 x142 x143 = some y221 := h
  unfold Zbh at h
  refine zw ?_
  refine cnd h (fun hb144 h => ?_) fun hb144 h => ?_
  ·
   refine AW.ct hb144 rfl ?_
   refine zw ?_
   refine Ops.v rfl (Y10 un_3 Yce rfl rfl) ?_
   refine Ops.v rfl (Yx rfl rfl rfl rfl) ?_
   refine Ops.v rfl (Y10 Yce un_3 rfl rfl) ?_
   refine zw ?_
   refine rD [0] [6,10] [] [0,4,8,12,16,20,25,28,32,36,41,46,48,52] ?_
   refine zw ?_
   refine di h fun e153 g154 h => ?_
   refine OpsD.v rfl rfl (Y2x (p := 0) ld_3.h rfl rfl (Y27 g154).2.2 rfl rfl) ?_
   refine zw ?_
   refine di h fun e155 g156 h => ?_
   refine OpsD.v rfl rfl (Y2x (p := 0) ld_3.h rfl rfl (Y27 g156).2.2 rfl rfl) ?_
   refine zw ?_
   refine ob' h fun r157 g158 h => ?_
   refine Y3k.h (ns := [0]) rfl rfl rfl (Y6j (cs := [_, _]) (ds := [_]) rfl (Zap e153 e155 p4_0 _ g158) rfl rfl) ?_
   rintro _ _ ⟨rfl, rfl⟩
   refine zw ?_
   refine cnd h (fun hb159 h => ?_) fun hb159 h => ?_
   ·
    refine AW.cond rfl (fun hn => absurd ((Y3r hb159).symm.trans hn) (by decide)) (fun _ => ?_)
    refine zw ?_
    obtain rfl := Wj h
    exact ⟨k219, (x142, (IntKind.i64.wrap (shrI .u64 (IntKind.u64.wrap (IntKind.i64.wrap (x142 + x143))) 1))), hlt_k219, h222, Y1z.both (ns := [0, 0]) rfl rfl⟩
   refine AW.cond rfl (fun _ => ?_) (fun hn => absurd ((Y3s hb159).symm.trans hn) (by decide))
   refine zw ?_
   obtain rfl := Wj h
   exact ⟨k219, ((IntKind.i64.wrap ((IntKind.i64.wrap (shrI .u64 (IntKind.u64.wrap (IntKind.i64.wrap (x142 + x143))) 1)) + 1)), x143), hlt_k219, h222, Y1z.both (ns := [0, 0]) rfl rfl⟩
  refine AW.cf hb144 rfl ?_
  refine AW.exit ?_
  obtain rfl := Wj h
  obtain rfl := Wj h222
  replace h := q218
  exact ⟨x142, h, Y1z.both (ns := [0, 0]) rfl rfl⟩
 intro x160 h
 replace h : Zbg p0 p1 p2 p3 p4_0 self_ x160 = some r := h
 unfold Zbg at h
 refine AW.seq ?_
 refine AW.region ?_
 refine Ops.v rfl (Yq rfl rfl) ?_
 refine Ops.v rfl (Yq rfl rfl) ?_
 refine Ops.v rfl (Yv rfl rfl rfl rfl) ?_
 refine Ops.v rfl (Yr rfl rfl) ?_
 refine Ops.nil ?_
 refine AW.seq ?_
 refine AW.cut (τ := List Int) (fun l166 => ⟨[(0, cV w00), (1, cI p1), (3, cI p3), (4, C.clo 239 [pt b01]), (18, cI (IntKind.i64.wrap (shrI .u64 (IntKind.u64.wrap (IntKind.i64.wrap (p1 + p3))) 1))), (20, cI x160), (24, cI (IntKind.i64.wrap ((IntKind.i64.wrap ((IntKind.i64.wrap (shrI .u64 (IntKind.u64.wrap (IntKind.i64.wrap (p1 + p3))) 1)) + p2)) - x160)))], [oA w00 3 kI64 1 l166, oB b01 57 [cM kI64 1 p4_0]]⟩) (fun l166 => Zbe p1 p2 p3 p4_0 self_ x160 l166 = some r) ?_ ?_
 ·
  refine AW.seq ?_
  refine AW.cut (τ := Bool) (fun x162 => ⟨[(0, cV w00), (1, cI p1), (2, cI p2), (3, cI p3), (4, C.clo 239 [pt b01]), (18, cI (IntKind.i64.wrap (shrI .u64 (IntKind.u64.wrap (IntKind.i64.wrap (p1 + p3))) 1))), (20, cI x160), (24, cI (IntKind.i64.wrap ((IntKind.i64.wrap ((IntKind.i64.wrap (shrI .u64 (IntKind.u64.wrap (IntKind.i64.wrap (p1 + p3))) 1)) + p2)) - x160))), (185, C.bool x162)], [oA w00 3 kI64 1 p0, oB b01 57 [cM kI64 1 p4_0]]⟩) (fun x162 => Zbf p0 p1 p2 p3 p4_0 self_ x160 x162 = some r) ?_ ?_
  ·
   refine zw ?_
   refine cnd h (fun hb161 h => ?_) fun hb161 h => ?_
   ·
    refine zw ?_
    exact ⟨decide (p2 < (IntKind.i64.wrap ((IntKind.i64.wrap ((IntKind.i64.wrap (shrI .u64 (IntKind.u64.wrap (IntKind.i64.wrap (p1 + p3))) 1)) + p2)) - x160))), h, Y1z.both (ns := [0, 0]) rfl rfl⟩
   refine zw ?_
   exact ⟨false, h, Y1z.both (ns := [0, 0]) rfl rfl⟩
  intro x162 h
  replace h : Zbf p0 p1 p2 p3 p4_0 self_ x160 x162 = some r := h
  unfold Zbf at h
  refine cnd h (fun hb163 h => ?_) fun hb163 h => ?_
  ·
   refine AW.ct hb163 rfl ?_
   refine zw ?_
   refine ob' h fun r164 g165 h => ?_
   refine Ops.hd (ns := [0, 0]) rfl rfl (Y22 (Zb2 p0 x160 p2 (IntKind.i64.wrap ((IntKind.i64.wrap ((IntKind.i64.wrap (shrI .u64 (IntKind.u64.wrap (IntKind.i64.wrap (p1 + p3))) 1)) + p2)) - x160)) p4_0 _ g165) rfl rfl) ?_
   refine zw ?_
   exact ⟨r164, h, Y1z.both (ns := [0, 0]) rfl rfl⟩
  refine AW.cf hb163 rfl ?_
  refine zw ?_
  exact ⟨p0, h, Y1z.both (ns := [0, 0]) rfl rfl⟩
 intro l166 h
 replace h : Zbe p1 p2 p3 p4_0 self_ x160 l166 = some r := h
 unfold Zbe at h
 refine AW.seq ?_
 refine AW.cut (τ := List Int) (fun l172 => ⟨[(0, cV w00), (3, cI p3), (4, C.clo 239 [pt b01]), (18, cI (IntKind.i64.wrap (shrI .u64 (IntKind.u64.wrap (IntKind.i64.wrap (p1 + p3))) 1))), (24, cI (IntKind.i64.wrap ((IntKind.i64.wrap ((IntKind.i64.wrap (shrI .u64 (IntKind.u64.wrap (IntKind.i64.wrap (p1 + p3))) 1)) + p2)) - x160)))], [oA w00 3 kI64 1 l172, oB b01 57 [cM kI64 1 p4_0]]⟩) (fun l172 => Zbc p1 p2 p3 p4_0 self_ x160 l172 = some r) ?_ ?_
 ·
  refine AW.seq ?_
  refine AW.cut (τ := Bool) (fun x168 => ⟨[(0, cV w00), (1, cI p1), (3, cI p3), (4, C.clo 239 [pt b01]), (18, cI (IntKind.i64.wrap (shrI .u64 (IntKind.u64.wrap (IntKind.i64.wrap (p1 + p3))) 1))), (20, cI x160), (24, cI (IntKind.i64.wrap ((IntKind.i64.wrap ((IntKind.i64.wrap (shrI .u64 (IntKind.u64.wrap (IntKind.i64.wrap (p1 + p3))) 1)) + p2)) - x160))), (199, C.bool x168)], [oA w00 3 kI64 1 l166, oB b01 57 [cM kI64 1 p4_0]]⟩) (fun x168 => Zbd p1 p2 p3 p4_0 self_ x160 l166 x168 = some r) ?_ ?_
  ·
   refine zw ?_
   refine cnd h (fun hb167 h => ?_) fun hb167 h => ?_
   ·
    refine zw ?_
    exact ⟨decide (x160 < (IntKind.i64.wrap (shrI .u64 (IntKind.u64.wrap (IntKind.i64.wrap (p1 + p3))) 1))), h, Y1z.both (ns := [0, 0]) rfl rfl⟩
   refine zw ?_
   exact ⟨false, h, Y1z.both (ns := [0, 0]) rfl rfl⟩
  intro x168 h
  replace h : Zbd p1 p2 p3 p4_0 self_ x160 l166 x168 = some r := h
  unfold Zbd at h
  refine cnd h (fun hb169 h => ?_) fun hb169 h => ?_
  ·
   refine AW.ct hb169 rfl ?_
   refine zw ?_
   refine ob' h fun r170 g171 h => ?_
   refine Ops.hd (ns := [0, 0]) rfl rfl (Y22 (hself_ l166 p1 x160 (IntKind.i64.wrap (shrI .u64 (IntKind.u64.wrap (IntKind.i64.wrap (p1 + p3))) 1)) p4_0 _ g171) rfl rfl) ?_
   refine zw ?_
   exact ⟨r170, h, Y1z.both (ns := [0, 0]) rfl rfl⟩
  refine AW.cf hb169 rfl ?_
  refine zw ?_
  exact ⟨l166, h, Y1z.both (ns := [0, 0]) rfl rfl⟩
 intro l172 h
 replace h : Zbc p1 p2 p3 p4_0 self_ x160 l172 = some r := h
 unfold Zbc at h
 refine AW.seq ?_
 refine AW.cut (τ := Bool) (fun x174 => ⟨[(0, cV w00), (3, cI p3), (4, C.clo 239 [pt b01]), (18, cI (IntKind.i64.wrap (shrI .u64 (IntKind.u64.wrap (IntKind.i64.wrap (p1 + p3))) 1))), (24, cI (IntKind.i64.wrap ((IntKind.i64.wrap ((IntKind.i64.wrap (shrI .u64 (IntKind.u64.wrap (IntKind.i64.wrap (p1 + p3))) 1)) + p2)) - x160))), (213, C.bool x174)], [oA w00 3 kI64 1 l172, oB b01 57 [cM kI64 1 p4_0]]⟩) (fun x174 => Zbb p1 p2 p3 p4_0 self_ x160 l172 x174 = some r) ?_ ?_
 ·
  refine zw ?_
  refine cnd h (fun hb173 h => ?_) fun hb173 h => ?_
  ·
   refine zw ?_
   exact ⟨decide ((IntKind.i64.wrap ((IntKind.i64.wrap ((IntKind.i64.wrap (shrI .u64 (IntKind.u64.wrap (IntKind.i64.wrap (p1 + p3))) 1)) + p2)) - x160)) < p3), h, Y1z.both (ns := [0, 0]) rfl rfl⟩
  refine zw ?_
  exact ⟨false, h, Y1z.both (ns := [0, 0]) rfl rfl⟩
 intro x174 h
 replace h : Zbb p1 p2 p3 p4_0 self_ x160 l172 x174 = some r := h
 unfold Zbb at h
 refine cnd h (fun hb175 h => ?_) fun hb175 h => ?_
 ·
  refine AW.ct hb175 rfl ?_
  refine zw ?_
  refine ob' h fun r176 g177 h => ?_
  refine Ops.hd (ns := [0, 0]) rfl rfl (Y22 (hself_ l172 (IntKind.i64.wrap (shrI .u64 (IntKind.u64.wrap (IntKind.i64.wrap (p1 + p3))) 1)) (IntKind.i64.wrap ((IntKind.i64.wrap ((IntKind.i64.wrap (shrI .u64 (IntKind.u64.wrap (IntKind.i64.wrap (p1 + p3))) 1)) + p2)) - x160)) p3 p4_0 _ g177) rfl rfl) ?_
  refine zw ?_
  rw [← Wj h]
  exact ⟨[], _, Y1z.refl _, .nil, [0, 0], _, _, rfl, ⟨rfl, rfl⟩⟩
 refine AW.cf hb175 rfl ?_
 refine zw ?_
 rw [← Wj h]
 exact ⟨[], _, Y1z.refl _, .nil, [0, 0], _, _, rfl, ⟨rfl, rfl⟩⟩
def Zbl : Nat → (List Int) → Int → Int → Int → (List Int) → Option (List Int)
  | 0 => fun _ _ _ _ _ => none
  | n_ + 1 => Zbj (Zbl n_)
theorem Zbm : ∀ (n_ : Nat) {w00 : Value} {b01 : Nat} (p0 : List Int) (p1 : Int) (p2 : Int) (p3 : Int) (p4_0 : List Int) (r : List Int), Zbl n_ p0 p1 p2 p3 p4_0 = some r → Ok Tryz.prog 306 [cV w00, cI p1, cI p2, cI p3, C.clo 239 [pt b01]] [oA w00 3 kI64 1 p0, oB b01 57 [cM kI64 1 p4_0]] (fun c qs => c = C.tup [] ∧ qs = [oA w00 3 kI64 1 r, oB b01 57 [cM kI64 1 p4_0]]) := by
 intro n_
 induction n_ with
 | zero => intro w00 b01 p0 p1 p2 p3 p4_0 r h; cases h
 | succ n_ ih => intro w00 b01 p0 p1 p2 p3 p4_0 r h; unfold Zbl at h; exact Zbk (Zbl n_) @ih p0 p1 p2 p3 p4_0 r h
def Zbn (p0 : List Int) (p1 : Int) (p2 : Int) (p3 : Int) (p4_0 : List Int) : Option (List Int) := Zbl big p0 p1 p2 p3 p4_0
theorem Zbo {w00 : Value} {b01 : Nat} (p0 : List Int) (p1 : Int) (p2 : Int) (p3 : Int) (p4_0 : List Int) (r : List Int) (h : Zbn p0 p1 p2 p3 p4_0 = some r) : Ok Tryz.prog 306 [cV w00, cI p1, cI p2, cI p3, C.clo 239 [pt b01]] [oA w00 3 kI64 1 p0, oB b01 57 [cM kI64 1 p4_0]] (fun c qs => c = C.tup [] ∧ qs = [oA w00 3 kI64 1 r, oB b01 57 [cM kI64 1 p4_0]]) := Zbm big p0 p1 p2 p3 p4_0 r h

end Go.Proofs.YtbgichfjcnibpaaGreat
