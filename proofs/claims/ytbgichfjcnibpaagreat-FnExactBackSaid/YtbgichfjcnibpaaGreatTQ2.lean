/- Printed by gen.py: plain functions for Go functions, and that the walks keep to them. -/
import Derived.Test.YtbgichfjcnibpaaGreatTQ1
set_option autoImplicit false
set_option linter.unusedVariables false
set_option linter.unusedSimpArgs false
set_option maxHeartbeats 1000000
set_option maxRecDepth 100000
namespace Go.Proofs.YtbgichfjcnibpaaGreat
open Go Go.Abs
attribute [local irreducible] AW Ops OpsD Y3n
def Z3q (p0 : List Int) (p1 : Int) (x12 : Int) (x16 : Bool) : Option (List Int) := cond x16 (some p0) ((Y28 p0 0 x12).bind fun s19 => (chk (decide ((([] : List Int).length + s19.length) * 8 ≤ 140737488355328))).bind fun u22 => (chk (decide (((([] : List Int) ++ s19).length + [p1].length) * 8 ≤ 140737488355328))).bind fun u26 => (Y28 p0 x12 (p0.length : Int)).bind fun s28 => (chk (decide ((((([] : List Int) ++ s19) ++ [p1]).length + s28.length) * 8 ≤ 140737488355328))).bind fun u31 => some (((([] : List Int) ++ s19) ++ [p1]) ++ s28))
def Z3r (p0 : List Int) (p1 : Int) (x12 : Int) : Option (List Int) := cond (decide (x12 < (p0.length : Int))) ((getI p0 x12).bind fun e14 => Z3q p0 p1 x12 (e14 == p1)) (Z3q p0 p1 x12 false)
def Z3s (x6 : Int) (x10 : Bool) : Option (Int ⊕ (Int)) := cond x10 (some (.inl (IntKind.i64.wrap (x6 + 1)))) (some (.inr x6))
def Z3t (p0 : List Int) (p1 : Int) (x6 : Int) : Option (Int ⊕ (Int)) := cond (decide (x6 < (p0.length : Int))) ((getI p0 x6).bind fun e8 => Z3s x6 (decide (e8 < p1))) (Z3s x6 false)
def Z3u (p0 : List Int) (p1 : Int) : Option (List Int) := (iter (Z3t p0 p1) big 0).bind fun y33 => Z3r p0 p1 y33
instance Z3v (p0 : List Int) (p1 : Int) : Sp Tryz.prog 232 [cM kI64 1 p0, cI p1] (Z3u p0 p1) (fun r => cM kI64 1 r) := sp Tryz.func232 rfl rfl fun r X h => by
 unfold Z3u at h
 refine AW.seq ?_
 refine AW.region ?_
 refine Ops.v rfl (Yr rfl rfl) ?_
 refine Ops.nil ?_
 refine AW.seq ?_
 refine AW.region ?_
 refine Ops.v rfl (Yr rfl rfl) ?_
 refine Ops.nil ?_
 refine AW.seq ?_
 refine AW.cut (τ := Int) (fun x12 => ⟨[(0, cM kI64 1 p0), (1, cI p1), (5, cI x12)], []⟩) (fun x12 => Z3r p0 p1 x12 = some r) ?_ ?_
 ·
  refine zw ?_
  refine AW.lp (v := ()) h (fun x6 (_ : Unit) => ⟨[(0, cM kI64 1 p0), (1, cI p1), (5, cI x6)], []⟩) (gb []) ?_
  rintro x6 _ y39 h
  exact go
 intro x12 h
 replace h : Z3r p0 p1 x12 = some r := h
 unfold Z3r at h
 refine AW.seq ?_
 refine AW.seq ?_
 refine AW.cut (τ := Bool) (fun x16 => ⟨[(0, cM kI64 1 p0), (1, cI p1), (5, cI x12), (32, C.bool x16)], []⟩) (fun x16 => Z3q p0 p1 x12 x16 = some r) go fun x16 h => ?_
 replace h : Z3q p0 p1 x12 x16 = some r := h
 unfold Z3q at h
 refine cnd h (fun hb17 h => go) fun hb17 h => ?_
 refine AW.cf hb17 rfl ?_
 refine zw ?_
 refine Ops.h (ns := []) rfl rfl (Y39 (k := kI64) (ys := ([] : List Int)) Yab .nil rfl rfl rfl) ?_
 rintro _ _ ⟨b18, rfl, rfl⟩
 refine zw ?_
 refine ob' h fun s19 g20 h => ?_
 refine Ops.v rfl (Y2l Y9v.h rfl rfl g20 rfl) ?_
 refine ob' h fun u22 c21 h => ?_
 refine Ops.h (ns := [0]) rfl rfl (Y2r Yab rfl rfl (Wo (Y3t c21)) (Y3w (by decide) c21) rfl) ?_
 rintro _ _ ⟨v23, rfl, rfl⟩
 refine zw ?_
 refine Ops.h (ns := []) rfl rfl (Y39 (k := kI64) (ys := [p1]) Yab (.one rfl (One.val rfl) rfl rfl .nil) rfl rfl rfl) ?_
 rintro _ _ ⟨b24, rfl, rfl⟩
 refine ob' h fun u26 c25 h => ?_
 refine Ops.h (ns := [1, 0]) rfl rfl (Y2s Yab rfl rfl (Wo (Y3t c25)) (Y3w (by decide) c25) rfl) ?_
 rintro _ _ ⟨v27, rfl, rfl⟩
 refine zw ?_
 refine ob' h fun s28 g29 h => ?_
 refine Ops.v rfl (Y2k Y9v.h rfl rfl g29 rfl) ?_
 refine ob' h fun u31 c30 h => ?_
 refine Ops.h (ns := [0]) rfl rfl (Y2r Yab rfl rfl (Wo (Y3t c30)) (Y3w (by decide) c30) rfl) ?_
 rintro _ _ ⟨v32, rfl, rfl⟩
 refine zw ?_
 refine AW.ret ?_
 rw [← Wj h]
 exact ⟨[cM kI64 1 (((([] : List Int) ++ s19) ++ [p1]) ++ s28)], _, Y21.freeze (p := 0) (t := 4) rfl rfl, (.cons (.tmp rfl) .nil), [], _, _, rfl, ⟨rfl, rfl⟩⟩

def Z3w (x6 : Bool) : Option Bool := some x6
def Z3x (p0 : Y8z) : Option Bool := cond (p0.kind == 1) (Z3w true) (cond (p0.kind == 3) (Z3w true) (cond (p0.kind == 5) (Z3w true) (cond (p0.kind == 2) (Z3w (p0.key != p0.author)) (Z3w false))))
instance Z3y (p0 : Y8z) : Sp Tryz.prog 281 [C.agg [cI p0.id, cI p0.room, cI p0.author, cI p0.kind, cI p0.key, cI p0.n, C.str p0.text, cM kI64 1 p0.prev, cI p0.time]] (Z3x p0) C.bool := sp Tryz.func281 rfl rfl fun r X h => go

def Z3z (p1 : List Int) (r2 : Int) (r4 : Int) (x13 : Int) (x14 : Int) (x15 : Int) (x16 : Int) (x17 : Int) (x18 : Int) (x19 : ByteArray) (l20 : List Int) (x21 : Int) (x23 : Int) (x24 : Int) (x25 : Int) (x26 : Int) (x27 : Int) (x28 : Int) (x29 : ByteArray) (l30 : List Int) (x31 : Int) : Option Bool := (Z3x (Y8z.mk x13 x14 x15 x16 x17 x18 x19 l20 x21)).bind fun r32 => (Z3x (Y8z.mk x23 x24 x25 x26 x27 x28 x29 l30 x31)).bind fun r34 => cond (r32 == r34) ((getI p1 r2).bind fun e37 => (getI p1 r4).bind fun e39 => cond (e37 != e39) (some (decide (e37 < e39))) (cond (x21 != x31) (some (decide (x21 < x31))) (some (decide (x13 < x23))))) ((Z3x (Y8z.mk x13 x14 x15 x16 x17 x18 x19 l20 x21)).bind fun r43 => some r43)
def Z40 (p0 : Y92) (p1 : List Int) (p2 : Int) (p3 : Int) : Option Bool := (Z25 p0.events p2).bind fun r2 => (Z25 p0.events p3).bind fun r4 => (getI p0.events r2).bind fun e6 => (getI p0.events r4).bind fun e8 => Z3z p1 r2 r4 e6.id e6.room e6.author e6.kind e6.key e6.n e6.text e6.prev e6.time e8.id e8.room e8.author e8.kind e8.key e8.n e8.text e8.prev e8.time
instance Z41 (p0 : Y92) (p1 : List Int) (p2 : Int) (p3 : Int) : Sp Tryz.prog 233 [C.agg [cI p0.room, cM Y9b 9 p0.events, cM Y9b 9 p0.parked], cM kI64 1 p1, cI p2, cI p3] (Z40 p0 p1 p2 p3) C.bool := sp Tryz.func233 rfl rfl fun r X h => by
 unfold Z40 at h
 refine zw ?_
 refine ox fun b1 => ?_
 refine zw ?_
 refine rD [0] [1,5] [] [0,5,8,16,21,24,14,30,32,36] ?_
 refine zw ?_
 refine dc h fun r2 g3 h => ?_
 refine zw ?_
 refine dc h fun r4 g5 h => ?_
 refine OpsD.v rfl rfl (Yr rfl rfl) ?_
 refine OpsD.v rfl rfl (Yr rfl rfl) ?_
 refine OpsD.done ?_
 refine AW.seq ?_
 refine AW.cut (τ := Int × Int × Int × Int × Int × Int × ByteArray × List Int × Int × Int × Int × Int × Int × Int × Int × ByteArray × List Int × Int × Nat × Nat) (fun (x13, x14, x15, x16, x17, x18, x19, l20, x21, x23, x24, x25, x26, x27, x28, x29, l30, x31, b12, b22) => ⟨[(1, cM kI64 1 p1), (9, cI r2), (10, cI r4), (11, pt b12), (12, pt b22)], [oB b12 136 [cI x13, cI x14, cI x15, cI x16, cI x17, cI x18, C.str x19, cM kI64 1 l20, cI x21], oB b22 136 [cI x23, cI x24, cI x25, cI x26, cI x27, cI x28, C.str x29, cM kI64 1 l30, cI x31]]⟩) (fun (x13, x14, x15, x16, x17, x18, x19, l20, x21, x23, x24, x25, x26, x27, x28, x29, l30, x31, b12, b22) => Z3z p1 r2 r4 x13 x14 x15 x16 x17 x18 x19 l20 x21 x23 x24 x25 x26 x27 x28 x29 l30 x31 = some r) ?_ ?_
 ·
  refine AW.regionD (L := [1, 4, 6, 9]) (Lt := [13]) (k := .light 0 false (.light 1 true (.light 2 false (.light 3 false (.light 4 true (.light 5 false (.light 6 true (.light 7 false (.light 8 false (.light 9 true (.two 10 11 (.one 11 (.one 12 (.late 13 (.done)))) (.one 10 (.one 12 (.late 13 (.done))))))))))))))) (ns := [0]) (by kernel_rfl) (by kernel_rfl) (by kernel_rfl) (by kernel_rfl) rfl ?_
  refine zw ?_
  refine di h fun e6 g7 h => ?_
  refine zw ?_
  refine di h fun e8 g9 h => ?_
  refine zw ?_
  refine OpsD.two ?_ ?_
  ·
   refine Y3n.h (ns := []) rfl rfl rfl (Y1p (cs := [cI 0, cI 0, cI 0, cI 0, cI 0, cI 0, C.str ByteArray.empty, cV s0, cI 0]) Yac (Y42 rfl rfl) rfl) ?_
   rintro _ _ ⟨b10, rfl, rfl⟩
   refine OpsD.one ?_
   refine Y3n.h (ns := []) rfl rfl rfl (Y1p (cs := [cI 0, cI 0, cI 0, cI 0, cI 0, cI 0, C.str ByteArray.empty, cV s0, cI 0]) Yac (Y42 rfl rfl) rfl) ?_
   rintro _ _ ⟨b11, rfl, rfl⟩
   refine OpsD.one ?_
   refine Y3n.h (ns := [1]) rfl rfl rfl (Y1u (gs := [cI e6.id, cI e6.room, cI e6.author, cI e6.kind, cI e6.key, cI e6.n, C.str e6.text, cM kI64 1 e6.prev, cI e6.time]) Yat.h rfl rfl rfl rfl rfl) ?_
   rintro _ _ ⟨rfl, rfl⟩
   refine OpsD.late (ns := [2]) rfl rfl rfl (Y1u (gs := [cI e8.id, cI e8.room, cI e8.author, cI e8.kind, cI e8.key, cI e8.n, C.str e8.text, cM kI64 1 e8.prev, cI e8.time]) Yat.h rfl rfl rfl rfl rfl) ?_
   rintro _ _ ⟨rfl, rfl⟩
   refine zw ?_
   exact ⟨(e6.id, e6.room, e6.author, e6.kind, e6.key, e6.n, e6.text, e6.prev, e6.time, e8.id, e8.room, e8.author, e8.kind, e8.key, e8.n, e8.text, e8.prev, e8.time, b10, b11), h, Y21.both (ns := [2, 0]) rfl rfl⟩
  refine Y3n.h (ns := []) rfl rfl rfl (Y1p (cs := [cI 0, cI 0, cI 0, cI 0, cI 0, cI 0, C.str ByteArray.empty, cV s0, cI 0]) Yac (Y42 rfl rfl) rfl) ?_
  rintro _ _ ⟨b11, rfl, rfl⟩
  refine OpsD.one ?_
  refine Y3n.h (ns := []) rfl rfl rfl (Y1p (cs := [cI 0, cI 0, cI 0, cI 0, cI 0, cI 0, C.str ByteArray.empty, cV s0, cI 0]) Yac (Y42 rfl rfl) rfl) ?_
  rintro _ _ ⟨b10, rfl, rfl⟩
  refine OpsD.one ?_
  refine Y3n.h (ns := [0]) rfl rfl rfl (Y1u (gs := [cI e6.id, cI e6.room, cI e6.author, cI e6.kind, cI e6.key, cI e6.n, C.str e6.text, cM kI64 1 e6.prev, cI e6.time]) Yat.h rfl rfl rfl rfl rfl) ?_
  rintro _ _ ⟨rfl, rfl⟩
  refine OpsD.late (ns := [2]) rfl rfl rfl (Y1u (gs := [cI e8.id, cI e8.room, cI e8.author, cI e8.kind, cI e8.key, cI e8.n, C.str e8.text, cM kI64 1 e8.prev, cI e8.time]) Yat.h rfl rfl rfl rfl rfl) ?_
  rintro _ _ ⟨rfl, rfl⟩
  refine zw ?_
  exact ⟨(e6.id, e6.room, e6.author, e6.kind, e6.key, e6.n, e6.text, e6.prev, e6.time, e8.id, e8.room, e8.author, e8.kind, e8.key, e8.n, e8.text, e8.prev, e8.time, b10, b11), h, Y21.both (ns := [2, 0]) rfl rfl⟩
 rintro ⟨x13, x14, x15, x16, x17, x18, x19, l20, x21, x23, x24, x25, x26, x27, x28, x29, l30, x31, b12, b22⟩ h
 replace h : Z3z p1 r2 r4 x13 x14 x15 x16 x17 x18 x19 l20 x21 x23 x24 x25 x26 x27 x28 x29 l30 x31 = some r := h
 unfold Z3z at h
 refine zw ?_
 refine rD [0,0] [0,2] [] [1,9,6,14,16,20] ?_
 refine zw ?_
 refine dc h fun r32 g33 h => ?_
 refine zw ?_
 refine dc h fun r34 g35 h => ?_
 refine OpsD.v rfl rfl (Y11 un_4 rfl rfl rfl) ?_
 refine zw ?_
 refine cnd h (fun hb36 h => ?_) fun hb36 h => ?_
 ·
  refine AW.cond rfl (fun hn => absurd ((Y3u hb36).symm.trans hn) (by decide)) (fun _ => ?_)
  refine zw ?_
  refine rD [0,0] [3,7] [] [0,4,8,13,16,20,24,29,32,36] ?_
  refine zw ?_
  refine di h fun e37 g38 h => ?_
  refine zw ?_
  refine di h fun e39 g40 h => ?_
  refine zw ?_
  refine cnd h (fun hb41 h => ?_) fun hb41 h => ?_
  ·
   refine AW.ct hb41 rfl ?_
   refine zw ?_
   refine rD [0,0] [3,7] [] [0,4,8,13,16,20,24,29,32,36] ?_
   exact go
  exact go
 exact go

def Z42 (p0 : Y92) (p1 : List Y94) (p2 : Int) (p3 : Int) : Option Y8z := (Z36 p1 p2 p3).bind fun r3 => cond (r3 == 0) (some (Y8z.mk 0 0 0 0 0 0 ByteArray.empty [] 0)) ((Z25 p0.events r3).bind fun r6 => (getI p0.events r6).bind fun e8 => some e8)
instance Z43 (p0 : Y92) (p1 : List Y94) (p2 : Int) (p3 : Int) : Sp Tryz.prog 221 [C.agg [cI p0.room, cM Y9b 9 p0.events, cM Y9b 9 p0.parked], cM Y9j 3 p1, cI p2, cI p3] (Z42 p0 p1 p2 p3) (fun r => C.agg [cI r.id, cI r.room, cI r.author, cI r.kind, cI r.key, cI r.n, C.str r.text, cM kI64 1 r.prev, cI r.time]) := sp Tryz.func221 rfl rfl fun r X h => by
 unfold Z42 at h
 refine zw ?_
 refine ox fun b1 => ?_
 refine Ops.h (ns := []) rfl rfl (Y1p (cs := [cI 0, cI 0, cI 0, cI 0, cI 0, cI 0, C.str ByteArray.empty, cV s0, cI 0]) Yac (Y42 rfl rfl) rfl) ?_
 rintro _ _ ⟨b2, rfl, rfl⟩
 refine zw ?_
 refine oc h fun r3 g4 h => ?_
 refine zw ?_
 refine cnd h (fun hb5 h => ?_) fun hb5 h => ?_
 ·
  refine AW.ct hb5 rfl ?_
  refine zw ?_
  refine Ops.v rfl (Y38 (ds := [cI 0, cI 0, cI 0, cI 0, cI 0, cI 0, C.str ByteArray.empty, cV s0, cI 0]) Ybv Yac (Y42 rfl rfl) .nil rfl) ?_
  refine Ops.hd (ns := [0]) rfl rfl (Y1u (gs := [cI 0, cI 0, cI 0, cI 0, cI 0, cI 0, C.str ByteArray.empty, cV s0, cI 0]) Yat.h rfl rfl rfl rfl rfl) ?_
  refine zw ?_
  refine AW.ret ?_
  rw [← Wj h]
  exact ⟨[C.agg [cI 0, cI 0, cI 0, cI 0, cI 0, cI 0, C.str ByteArray.empty, cM kI64 1 [], cI 0]], _, Y21.boxFrz (ns := [0]) rfl (fS (fS (fS (fS (fS (fS (fS (FrzL.cons (os := []) (Frz.imp (Imp.nil kI64 1)) (fS FrzL.nil))))))))), (.cons (.cell (p := 0) rfl rfl Yat.h rfl) .nil), [], _, _, rfl, ⟨rfl, rfl⟩⟩
 refine AW.cf hb5 rfl ?_
 refine zw ?_
 refine rD [0,0] [1,3,7] [8] [0,5,8,13,16,22,24,29,35] ?_
 refine zw ?_
 refine dc h fun r6 g7 h => ?_
 refine di h fun e8 g9 h => ?_
 refine zw ?_
 refine OpsD.late (ns := [0]) rfl rfl rfl (Y1u (gs := [cI e8.id, cI e8.room, cI e8.author, cI e8.kind, cI e8.key, cI e8.n, C.str e8.text, cM kI64 1 e8.prev, cI e8.time]) Yat.h rfl rfl rfl rfl rfl) ?_
 rintro _ _ ⟨rfl, rfl⟩
 refine zw ?_
 refine AW.ret ?_
 rw [← Wj h]
 exact ⟨[C.agg [cI e8.id, cI e8.room, cI e8.author, cI e8.kind, cI e8.key, cI e8.n, C.str e8.text, cM kI64 1 e8.prev, cI e8.time]], _, Y21.refl _, (.cons (.cell (p := 0) rfl rfl Yat.h rfl) .nil), [], _, _, rfl, ⟨rfl, rfl⟩⟩

def Z44 (p0 : Y92) (p1 : List Y94) (p2 : Int) : Option Int := (Z42 p0 p1 2 p2).bind fun r2 => some r2.n
instance Z45 (p0 : Y92) (p1 : List Y94) (p2 : Int) : Sp Tryz.prog 162 [C.agg [cI p0.room, cM Y9b 9 p0.events, cM Y9b 9 p0.parked], cM Y9j 3 p1, cI p2] (Z44 p0 p1 p2) cI := sp Tryz.func162 rfl rfl fun r X h => by
 unfold Z44 at h
 refine zw ?_
 refine ox fun b1 => ?_
 refine zw ?_
 refine oc h fun r2 g3 h => ?_
 refine Ops.v rfl (Y6v Ybw rfl rfl rfl) ?_
 exact go

def Z46 (p0 : Y92) (p1 : List Y94) (p2 : Int) : Option Int := (Z36 p1 3 p2).bind fun r2 => cond (decide (r2 > 0)) ((Z42 p0 p1 3 p2).bind fun r5 => some r5.n) ((Z42 p0 p1 1 0).bind fun r7 => cond (r7.author == p2) (some 100) (some 0))
instance Z47 (p0 : Y92) (p1 : List Y94) (p2 : Int) : Sp Tryz.prog 274 [C.agg [cI p0.room, cM Y9b 9 p0.events, cM Y9b 9 p0.parked], cM Y9j 3 p1, cI p2] (Z46 p0 p1 p2) cI := sp Tryz.func274 rfl rfl fun r X h => by
 unfold Z46 at h
 refine zw ?_
 refine ox fun b1 => ?_
 refine zw ?_
 refine oc h fun r2 g3 h => ?_
 refine zw ?_
 refine cnd h (fun hb4 h => ?_) fun hb4 h => ?_
 ·
  refine AW.ct hb4 rfl ?_
  refine zw ?_
  refine oc h fun r5 g6 h => ?_
  refine Ops.v rfl (Y6v Ybw rfl rfl rfl) ?_
  exact go
 refine AW.cf hb4 rfl ?_
 refine zw ?_
 refine oc h fun r7 g8 h => ?_
 refine Ops.v rfl (Y6v Ybx rfl rfl rfl) ?_
 exact go

def Z48 (p0 : Bool) : Option Int := cond p0 (some 11) (some 0)
instance Z49 (p0 : Bool) : Sp Tryz.prog 277 [C.bool p0] (Z48 p0) cI := sp Tryz.func277 rfl rfl fun r X h => go

def Z4a (x20 : Int) : Option Int := some x20
def Z4b (p3 : Int) (x4 : Bool) (x11 : Bool) : Option Int := cond (p3 == 3) ((Z48 true).bind fun r13 => Z4a r13) (cond x4 ((Z48 false).bind fun r16 => Z4a r16) ((Z48 (!x11)).bind fun r18 => Z4a r18))
def Z4c (p0 : Y92) (p1 : List Y94) (p2 : Y8z) (p3 : Int) (x4 : Bool) : Option Int := cond (p2.n == 1) ((Z42 p0 p1 5 0).bind fun r6 => cond (r6.n == 1) (Z4b p3 x4 true) ((Z42 p0 p1 1 0).bind fun r9 => Z4b p3 x4 (r9.author == p2.author))) (cond (p2.n == 2) ((Z48 (!x4)).bind fun r22 => some r22) (some 11))
def Z4d (p0 : Y92) (p1 : List Y94) (p2 : Y8z) (p3 : Int) : Option Int := cond (p3 == 1) (Z4c p0 p1 p2 p3 true) (Z4c p0 p1 p2 p3 (p3 == 4))
instance Z4e (p0 : Y92) (p1 : List Y94) (p2 : Y8z) (p3 : Int) : Sp Tryz.prog 275 [C.agg [cI p0.room, cM Y9b 9 p0.events, cM Y9b 9 p0.parked], cM Y9j 3 p1, C.agg [cI p2.id, cI p2.room, cI p2.author, cI p2.kind, cI p2.key, cI p2.n, C.str p2.text, cM kI64 1 p2.prev, cI p2.time], cI p3] (Z4d p0 p1 p2 p3) cI := sp Tryz.func275 rfl rfl fun r X h => by
 unfold Z4d at h
 refine zw ?_
 refine ox fun b1 => ?_
 refine ox fun b2 => ?_
 refine Ops.v rfl (Yr rfl rfl) ?_
 refine Ops.nil ?_
 refine AW.seq ?_
 refine AW.cut (τ := Bool) (fun x4 => ⟨[(1, cM Y9j 3 p1), (3, cI p3), (4, pt b1), (6, pt b2), (9, C.bool x4)], [oB b1 139 [cI p0.room, cM Y9b 9 p0.events, cM Y9b 9 p0.parked], oB b2 136 [cI p2.id, cI p2.room, cI p2.author, cI p2.kind, cI p2.key, cI p2.n, C.str p2.text, cM kI64 1 p2.prev, cI p2.time]]⟩) (fun x4 => Z4c p0 p1 p2 p3 x4 = some r) go fun x4 h => ?_
 replace h : Z4c p0 p1 p2 p3 x4 = some r := h
 unfold Z4c at h
 refine zw ?_
 refine cnd h (fun hb5 h => ?_) fun hb5 h => ?_
 ·
  refine AW.ct hb5 rfl ?_
  refine zw ?_
  refine rD [0,0] [0,6,11] [] [1,4,10,12,16,20,25,28,40,45,34,36,48,52,56] ?_
  refine zw ?_
  refine dc h fun r6 g7 h => ?_
  refine OpsD.v rfl rfl (Y6v Ybw rfl rfl rfl) ?_
  refine zw ?_
  refine cnd h (fun hb8 h => ?_) fun hb8 h => ?_
  ·
   refine OpsD.gs rfl rfl rfl rfl (.b rfl hb8) rfl rfl ?_
   refine OpsD.gs rfl rfl rfl rfl (.b rfl hb8) rfl rfl ?_
   refine OpsD.gs rfl rfl rfl rfl (.b rfl hb8) rfl rfl ?_
   refine OpsD.gs rfl rfl rfl rfl (.b rfl hb8) rfl rfl ?_
   refine OpsD.one ?_
   refine Y3n.gs rfl rfl rfl rfl (.b rfl hb8) rfl rfl ?_
   exact go
  refine zw ?_
  refine ob' h fun r9 g10 h => ?_
  refine Y3n.gh (ns := []) rfl rfl rfl rfl rfl hb8 rfl (Y24 ((Z43 _ _ _ _).h _ g10) rfl rfl) ?_
  rintro _ _ ⟨rfl, rfl⟩
  refine OpsD.gv rfl rfl rfl rfl rfl hb8 (Y6v Ybx rfl rfl rfl) ?_
  exact go
 exact go

def Z4f (x13 : Int) : Option Int := some x13
def Z4g (x26 : Int) : Option Int := some x26
def Z4h (x36 : Int) : Option Int := some x36
def Z4i (p0 : Y92) (p1 : List Y94) (p2 : Y8z) (p3 : Int) : Option Int := (Z44 p0 p1 p2.key).bind fun r3 => (Z46 p0 p1 p2.key).bind fun r5 => cond (p2.n == 4) (cond (r3 == 1) ((Z48 true).bind fun r9 => Z4f r9) ((Z48 (r3 == 3)).bind fun r11 => Z4f r11)) (cond (p2.n == 2) (cond (decide (p3 < 50)) ((Z48 true).bind fun r16 => Z4g r16) (cond (decide (p3 ≤ r5)) ((Z48 true).bind fun r19 => Z4g r19) (cond (r3 == 0) ((Z48 true).bind fun r22 => Z4g r22) ((Z48 (r3 == 2)).bind fun r24 => Z4g r24)))) (cond (p2.n == 3) (cond (decide (p3 < 50)) ((Z48 true).bind fun r29 => Z4h r29) (cond (decide (p3 ≤ r5)) ((Z48 true).bind fun r32 => Z4h r32) ((Z48 (r3 == 3)).bind fun r34 => Z4h r34))) (some 11)))
instance Z4j (p0 : Y92) (p1 : List Y94) (p2 : Y8z) (p3 : Int) : Sp Tryz.prog 276 [C.agg [cI p0.room, cM Y9b 9 p0.events, cM Y9b 9 p0.parked], cM Y9j 3 p1, C.agg [cI p2.id, cI p2.room, cI p2.author, cI p2.kind, cI p2.key, cI p2.n, C.str p2.text, cM kI64 1 p2.prev, cI p2.time], cI p3] (Z4i p0 p1 p2 p3) cI := sp Tryz.func276 rfl rfl fun r X h => by
 unfold Z4i at h
 refine zw ?_
 refine ox fun b1 => ?_
 refine ox fun b2 => ?_
 refine zw ?_
 refine rD [0,0] [0,3,5,8] [] [1,4,8,13,21,24,28,33,18,38,40,44] ?_
 exact go

def Z4k (x35 : Int) : Option Int := some x35
def Z4l (x53 : Int) : Option Int := some x53
def Z4m (p0 : Y92) (p2 : Y8z) (r10 : Int) (x38 : Bool) : Option Int := cond x38 ((Z48 (decide (r10 < 50))).bind fun r40 => some r40) (cond (p2.kind == 8) ((Z25 p0.events p2.key).bind fun r43 => cond (decide (r43 < 0)) (some 6) (cond (decide (r10 < 50)) ((getI p0.events r43).bind fun e47 => (Z48 (e47.author != p2.author)).bind fun r49 => Z4l r49) ((Z48 false).bind fun r51 => Z4l r51))) (some 0))
def Z4n (p0 : Y92) (p1 : List Y94) (p2 : Y8z) (r8 : Int) (r10 : Int) (x13 : Bool) : Option Int := cond x13 ((Z4d p0 p1 p2 r8).bind fun r15 => some r15) (cond (r8 != 1) (some 11) (cond (p2.kind == 2) ((Z4i p0 p1 p2 r10).bind fun r19 => some r19) (cond (p2.kind == 3) (cond (decide (r10 < 50)) ((Z48 true).bind fun r23 => Z4k r23) (cond (decide (p2.n > r10)) ((Z48 true).bind fun r26 => Z4k r26) (cond (p2.key != p2.author) ((Z46 p0 p1 p2.key).bind fun r29 => (Z48 (decide (r29 ≥ r10))).bind fun r31 => Z4k r31) ((Z48 false).bind fun r33 => Z4k r33)))) (cond (p2.kind == 4) (Z4m p0 p2 r10 (p2.kind == 4)) (cond (p2.kind == 5) (Z4m p0 p2 r10 (p2.kind == 5)) (Z4m p0 p2 r10 (p2.kind == 6)))))))
def Z4o (p0 : Y92) (p1 : List Y94) (p2 : Y8z) : Option Int := (Z36 p1 1 0).bind fun r3 => cond (p2.kind == 1) (cond (decide (r3 > 0)) (some 7) (some 0)) (cond (decide (r3 > 0)) ((Z44 p0 p1 p2.author).bind fun r8 => (Z46 p0 p1 p2.author).bind fun r10 => cond (p2.kind == 2) (Z4n p0 p1 p2 r8 r10 (p2.key == p2.author)) (Z4n p0 p1 p2 r8 r10 false)) (some 10))
instance Z4p (p0 : Y92) (p1 : List Y94) (p2 : Y8z) : Sp Tryz.prog 228 [C.agg [cI p0.room, cM Y9b 9 p0.events, cM Y9b 9 p0.parked], cM Y9j 3 p1, C.agg [cI p2.id, cI p2.room, cI p2.author, cI p2.kind, cI p2.key, cI p2.n, C.str p2.text, cM kI64 1 p2.prev, cI p2.time]] (Z4o p0 p1 p2) cI := sp Tryz.func228 rfl rfl fun r X h => by
 unfold Z4o at h
 refine zw ?_
 refine ox fun b1 => ?_
 refine ox fun b2 => ?_
 refine zw ?_
 refine oc h fun r3 g4 h => ?_
 refine zw ?_
 refine cnd h (fun hb5 h => go) fun hb5 h => ?_
 refine AW.cf hb5 rfl ?_
 refine zw ?_
 refine cnd h (fun hb7 h => ?_) fun hb7 h => ?_
 ·
  refine AW.cond rfl (fun hn => absurd ((Y3u hb7).symm.trans hn) (by decide)) (fun _ => ?_)
  refine zw ?_
  refine rD [0,0] [0,3,5,8] [] [1,4,8,13,21,24,28,33,18,38,40,44] ?_
  refine zw ?_
  refine dc h fun r8 g9 h => ?_
  refine zw ?_
  refine dc h fun r10 g11 h => ?_
  refine OpsD.v rfl rfl (Yr rfl rfl) ?_
  refine OpsD.v rfl rfl (Yr rfl rfl) ?_
  refine OpsD.done ?_
  refine AW.seq ?_
  refine AW.seq ?_
  refine AW.cut (τ := Bool) (fun x13 => ⟨[(1, cM Y9j 3 p1), (3, pt b1), (5, pt b2), (8, cI r8), (9, cI r10), (39, C.bool x13)], [oB b1 139 [cI p0.room, cM Y9b 9 p0.events, cM Y9b 9 p0.parked], oB b2 136 [cI p2.id, cI p2.room, cI p2.author, cI p2.kind, cI p2.key, cI p2.n, C.str p2.text, cM kI64 1 p2.prev, cI p2.time]]⟩) (fun x13 => Z4n p0 p1 p2 r8 r10 x13 = some r) go fun x13 h => ?_
  replace h : Z4n p0 p1 p2 r8 r10 x13 = some r := h
  unfold Z4n at h
  refine cnd h (fun hb14 h => go) fun hb14 h => ?_
  refine AW.cf hb14 rfl ?_
  refine zw ?_
  refine cnd h (fun hb17 h => go) fun hb17 h => ?_
  refine AW.cf hb17 rfl ?_
  refine zw ?_
  refine cnd h (fun hb18 h => go) fun hb18 h => ?_
  refine AW.cf hb18 rfl ?_
  refine zw ?_
  refine cnd h (fun hb21 h => ?_) fun hb21 h => ?_
  ·
   refine AW.ct hb21 rfl ?_
   refine zw ?_
   refine cnd h (fun hb22 h => go) fun hb22 h => ?_
   refine zw ?_
   refine cnd h (fun hb25 h => go) fun hb25 h => ?_
   refine zw ?_
   refine cnd h (fun hb28 h => ?_) fun hb28 h => ?_
   ·
    refine zw ?_
    refine ob' h fun r29 g30 h => ?_
    refine Ops.ghd (ns := []) rfl rfl rfl rfl hb28 rfl (Y24 ((Z47 _ _ _).h _ g30) rfl rfl) ?_
    exact go
   exact go
  refine AW.cf hb21 rfl ?_
  refine AW.seq ?_
  refine AW.cut (τ := Bool) (fun x38 => ⟨[(3, pt b1), (5, pt b2), (9, cI r10), (48, cI p2.kind), (83, C.bool x38)], [oB b1 139 [cI p0.room, cM Y9b 9 p0.events, cM Y9b 9 p0.parked], oB b2 136 [cI p2.id, cI p2.room, cI p2.author, cI p2.kind, cI p2.key, cI p2.n, C.str p2.text, cM kI64 1 p2.prev, cI p2.time]]⟩) (fun x38 => Z4m p0 p2 r10 x38 = some r) ?_ ?_
  ·
   exact go
  intro x38 h
  replace h : Z4m p0 p2 r10 x38 = some r := h
  unfold Z4m at h
  refine cnd h (fun hb39 h => go) fun hb39 h => ?_
  refine AW.cf hb39 rfl ?_
  refine zw ?_
  refine cnd h (fun hb42 h => ?_) fun hb42 h => ?_
  ·
   refine AW.ct hb42 rfl ?_
   refine zw ?_
   refine oc h fun r43 g44 h => ?_
   refine zw ?_
   refine cnd h (fun hb45 h => go) fun hb45 h => ?_
   refine AW.cf hb45 rfl ?_
   refine zw ?_
   refine rD [0,0] [4,8,10] [] [0,4,8,12,17,20,24,28,33,36,41,44,48,54,56] ?_
   exact go
  exact go
 exact go

def Z4q (l249 : List Y94) : Option (List Y94) := some l249
def Z4r (x218 : Int) (l247 : List Y94) : Option ((List Y94 × Int) ⊕ ((List Y94))) := some (.inl (l247, (IntKind.i64.wrap (x218 + 1))))
def Z4s (p0 : Y92) (l217 : List Y94) (x218 : Int) (x230 : Int) (x231 : Int) (x232 : Int) (x233 : Int) (x234 : Int) (x235 : Int) (x236 : ByteArray) (l237 : List Int) (x238 : Int) : Option ((List Y94 × Int) ⊕ ((List Y94))) := (Z4o p0 l217 (Y8z.mk x230 x231 x232 x233 x234 x235 x236 l237 x238)).bind fun r239 => cond (r239 == 0) ((Z3o l217 (Y94.mk x233 x234 x230)).bind fun r242 => Z4r x218 r242) (Z4r x218 l217)
def Z4t (p0 : Y92) (l186 : List Int) (l217 : List Y94) (x218 : Int) : Option ((List Y94 × Int) ⊕ ((List Y94))) := cond (decide (x218 < (l186.length : Int))) ((getI l186 x218).bind fun e220 => (Z25 p0.events e220).bind fun r222 => (getI p0.events r222).bind fun e225 => Z4s p0 l217 x218 e225.id e225.room e225.author e225.kind e225.key e225.n e225.text e225.prev e225.time) (some (.inr l217))
def Z4u (p0 : Y92) (l95 : List Y94) (l186 : List Int) : Option (List Y94) := (iter (fun z251 => Z4t p0 l186 z251.1 z251.2) big (l95, 0)).bind fun y252 => Z4q y252
def Z4v (l96 : List Int) (l141 : List Int) (x142 : Int) (x163 : Int) : Option ((List Int × Int) ⊕ ((List Int))) := (chk (decide ((0 : Int) ≤ x163 ∧ x163 ≤ (l141.length : Int)))).bind fun u166 => (chk (decide ((Int.toNat x163) ≤ l141.length))).bind fun u168 => (chk (decide ((([] : List Int).length + (List.take (Int.toNat x163) l141).length) * 8 ≤ 140737488355328))).bind fun u170 => (getI l96 x142).bind fun e172 => (chk (decide (((([] : List Int) ++ (List.take (Int.toNat x163) l141)).length + [e172].length) * 8 ≤ 140737488355328))).bind fun u176 => (chk (decide ((0 : Int) ≤ x163 ∧ x163 ≤ (l141.length : Int)))).bind fun u179 => (chk (decide ((Int.toNat x163) ≤ l141.length))).bind fun u181 => (chk (decide ((((([] : List Int) ++ (List.take (Int.toNat x163) l141)) ++ [e172]).length + (List.drop (Int.toNat x163) l141).length) * 8 ≤ 140737488355328))).bind fun u183 => some (.inl ((((([] : List Int) ++ (List.take (Int.toNat x163) l141)) ++ [e172]) ++ (List.drop (Int.toNat x163) l141)), (IntKind.i64.wrap (x142 + 1))))
def Z4w (x153 : Int) (x161 : Bool) : Option (Int ⊕ (Int)) := cond x161 (some (.inl (IntKind.i64.wrap (x153 - 1)))) (some (.inr x153))
def Z4x (p0 : Y92) (p1 : List Int) (l96 : List Int) (l141 : List Int) (x142 : Int) (x153 : Int) : Option (Int ⊕ (Int)) := cond (decide (x153 > 0)) ((getI l96 x142).bind fun e155 => (getI l141 (IntKind.i64.wrap (x153 - 1))).bind fun e157 => (Z40 p0 p1 e155 e157).bind fun r159 => Z4w x153 r159) (Z4w x153 false)
def Z4y (p0 : Y92) (p1 : List Int) (l96 : List Int) (l141 : List Int) (x142 : Int) : Option ((List Int × Int) ⊕ ((List Int))) := cond (decide (x142 < (l96.length : Int))) ((iter (Z4x p0 p1 l96 l141 x142) big (l141.length : Int)).bind fun y253 => Z4v l96 l141 x142 y253) (some (.inr l141))
def Z4z (p0 : Y92) (p1 : List Int) (l95 : List Y94) (l96 : List Int) : Option (List Y94) := (iter (fun z254 => Z4y p0 p1 l96 z254.1 z254.2) big (([] : List Int), 0)).bind fun y255 => Z4u p0 l95 y255
def Z50 (x51 : Int) (l92 : List Y94) (l93 : List Int) : Option ((List Y94 × List Int × Int) ⊕ ((List Y94 × List Int))) := some (.inl (l92, l93, (IntKind.i64.wrap (x51 + 1))))
def Z51 (x73 : Int) (l89 : List Y94) (l90 : List Int) : Option ((List Y94 × List Int × Int) ⊕ ((List Y94 × List Int))) := some (.inl (l89, l90, (IntKind.i64.wrap (x73 + 1))))
def Z52 (p2 : List (List Y94)) (x51 : Int) (l71 : List Y94) (l72 : List Int) (x73 : Int) : Option ((List Y94 × List Int × Int) ⊕ ((List Y94 × List Int))) := (getI p2 x51).bind fun e74 => cond (decide (x73 < (e74.length : Int))) ((getI e74 x73).bind fun e77 => (Z3a p2 e77).bind fun r79 => cond r79 ((Z3o l71 e77).bind fun r82 => Z51 x73 r82 l72) ((Z3u l72 e77.id).bind fun r86 => Z51 x73 l71 r86)) (some (.inr (l71, l72)))
def Z53 (p2 : List (List Y94)) (l49 : List Y94) (l50 : List Int) (x51 : Int) : Option ((List Y94 × List Int × Int) ⊕ ((List Y94 × List Int))) := cond (decide (x51 < (p2.length : Int))) ((iter (fun z256 => Z52 p2 x51 z256.1 z256.2.1 z256.2.2) big (l49, l50, 0)).bind fun (y257, y258) => Z50 x51 y257 y258) (some (.inr (l49, l50)))
def Z54 (p0 : Y92) (p1 : List Int) (p2 : List (List Y94)) : Option (List Y94) := (iter (fun z259 => Z53 p2 z259.1 z259.2.1 z259.2.2) big (([] : List Y94), ([] : List Int), 0)).bind fun (y260, y261) => Z4z p0 p1 y260 y261
theorem Z55 (p0 : Y92) (p1 : List Int) (p2 : List (List Y94)) (r : List Y94) (h : Z54 p0 p1 p2 = some r) : Ok Tryz.prog 182 [C.agg [cI p0.room, cM Y9b 9 p0.events, cM Y9b 9 p0.parked], cM kI64 1 p1, cM Y9k 1 p2] [] (fun c qs => ∃ (v250 : Value), c = cV v250 ∧ qs = [oA v250 106 Y9j 3 r]) := by
 refine Ok.of_body (rs := [.tmp 6]) Tryz.func182 rfl rfl rfl rfl rfl fun X => ?_
 unfold Z54 at h
 refine zw ?_
 refine ox fun b1 => ?_
 refine zw ?_
 refine Ops.h (ns := []) rfl rfl (Y39 (k := Y9j) (ys := ([] : List Y94)) Ybt .nil rfl rfl rfl) ?_
 rintro _ _ ⟨b2, rfl, rfl⟩
 refine zw ?_
 refine Ops.h (ns := []) rfl rfl (Y39 (k := kI64) (ys := ([] : List Int)) Yab .nil rfl rfl rfl) ?_
 rintro _ _ ⟨b3, rfl, rfl⟩
 refine Ops.v rfl (Yr rfl rfl) ?_
 refine Ops.nil ?_
 refine AW.seq ?_
 refine AW.cut (τ := List Y94 × List Int × Value) (fun (l95, l96, v94) => ⟨[(1, cM kI64 1 p1), (3, pt b1), (7, cV v94), (8, cM kI64 1 l96)], [oB b1 139 [cI p0.room, cM Y9b 9 p0.events, cM Y9b 9 p0.parked], oA v94 106 Y9j 3 l95]⟩) (fun (l95, l96, v94) => Z4z p0 p1 l95 l96 = some r) ?_ ?_
 ·
  refine zw ?_
  refine AW.lp h (fun (l49, l50, x51) (v48 : Value) => ⟨[(1, cM kI64 1 p1), (2, cM Y9k 1 p2), (3, pt b1), (7, cV v48), (8, cM kI64 1 l50), (9, cI x51)], [oB b1 139 [cI p0.room, cM Y9b 9 p0.events, cM Y9b 9 p0.parked], oA v48 106 Y9j 3 l49]⟩) ((Y21.freeze (p := 0) (t := 8) rfl rfl).trans (Y21.both (ns := [1, 0]) rfl rfl)) ?_
  rintro ⟨l49, l50, x51⟩ v48 y288 h
  refine zw ?_
  refine cnd h (fun hb52 h => ?_) fun hb52 h => ?_
  ·
   refine AW.ct hb52 rfl ?_
   refine zw ?_
   refine AW.lp h (fun (l71, l72, x73) (v70 : Value) => ⟨[(1, cM kI64 1 p1), (2, cM Y9k 1 p2), (3, pt b1), (7, cV v70), (8, cM kI64 1 l72), (9, cI x51), (10, cI x73)], [oB b1 139 [cI p0.room, cM Y9b 9 p0.events, cM Y9b 9 p0.parked], oA v70 106 Y9j 3 l71]⟩) (gb [0, 0]) ?_
   rintro ⟨l71, l72, x73⟩ v70 y295 h
   refine zw ?_
   refine oi h fun e74 g75 h => ?_
   refine zw ?_
   refine cnd h (fun hb76 h => ?_) fun hb76 h => ?_
   ·
    refine AW.ct hb76 rfl ?_
    refine zw ?_
    refine oi h fun e77 g78 h => ?_
    refine zw ?_
    refine oc h fun r79 g80 h => ?_
    refine zw ?_
    refine cnd h (fun hb81 h => ?_) fun hb81 h => ?_
    ·
     refine AW.ct hb81 rfl ?_
     refine zw ?_
     refine ob' h fun r82 g83 h => ?_
     refine Ops.h (ns := [1]) rfl rfl (Y23 (Ok.lend (Z3p l71 e77 _ g83) (FrzT.cons (os := [_]) Frz.arr (fT (FrzT.nil))) (by rintro _ _ ⟨_, rfl, rfl⟩; exact ⟨(Y44.val _), Y48 (Y46.arr Yby) (Y47)⟩)) rfl rfl) ?_
     rintro _ _ ⟨_, ⟨_, ⟨v84, rfl, rfl⟩, rfl⟩, rfl⟩
     exact go
    exact go
   exact go
  exact go
 rintro ⟨l95, l96, v94⟩ h
 replace h : Z4z p0 p1 l95 l96 = some r := h
 unfold Z4z at h
 refine zw ?_
 refine Ops.h (ns := []) rfl rfl (Y39 (k := kI64) (ys := ([] : List Int)) Yab .nil rfl rfl rfl) ?_
 rintro _ _ ⟨b97, rfl, rfl⟩
 refine Ops.v rfl (Yr rfl rfl) ?_
 refine Ops.nil ?_
 refine AW.seq ?_
 refine AW.cut (τ := List Int × Value) (fun (l186, v185) => ⟨[(3, pt b1), (7, cV v94), (11, cV v185)], [oB b1 139 [cI p0.room, cM Y9b 9 p0.events, cM Y9b 9 p0.parked], oA v94 106 Y9j 3 l95, oA v185 2 kI64 1 l186]⟩) (fun (l186, v185) => Z4u p0 l95 l186 = some r) ?_ ?_
 ·
  refine zw ?_
  refine AW.lp h (fun (l141, x142) (v140 : Value) => ⟨[(1, cM kI64 1 p1), (3, pt b1), (7, cV v94), (8, cM kI64 1 l96), (11, cV v140), (12, cI x142)], [oB b1 139 [cI p0.room, cM Y9b 9 p0.events, cM Y9b 9 p0.parked], oA v94 106 Y9j 3 l95, oA v140 2 kI64 1 l141]⟩) (gb [1, 1, 0]) ?_
  rintro ⟨l141, x142⟩ v140 y274 h
  refine zw ?_
  refine cnd h (fun hb143 h => ?_) fun hb143 h => ?_
  ·
   refine AW.ct hb143 rfl ?_
   refine AW.skip ?_
   refine AW.seq ?_
   refine AW.block ?_
   refine AW.seq ?_
   refine AW.region ?_
   refine Ops.v rfl (Yq rfl rfl) ?_
   refine Ops.v rfl (Y2u (p := 2) Y9v.h rfl rfl rfl) ?_
   refine Ops.v rfl (Yr rfl rfl) ?_
   refine Ops.nil ?_
   refine AW.seq ?_
   refine AW.cut (τ := Int) (fun x163 => ⟨[(1, cM kI64 1 p1), (3, pt b1), (7, cV v94), (8, cM kI64 1 l96), (11, cV v140), (12, cI x142), (13, cI x163)], [oB b1 139 [cI p0.room, cM Y9b 9 p0.events, cM Y9b 9 p0.parked], oA v94 106 Y9j 3 l95, oA v140 2 kI64 1 l141]⟩) (fun x163 => Z4v l96 l141 x142 x163 = some y274) ?_ ?_
   ·
    refine zw ?_
    refine AW.lp (v := ()) h (fun x153 (_ : Unit) => ⟨[(1, cM kI64 1 p1), (3, pt b1), (7, cV v94), (8, cM kI64 1 l96), (11, cV v140), (12, cI x142), (13, cI x153)], [oB b1 139 [cI p0.room, cM Y9b 9 p0.events, cM Y9b 9 p0.parked], oA v94 106 Y9j 3 l95, oA v140 2 kI64 1 l141]⟩) (gb [0, 0, 0]) ?_
    rintro x153 _ y281 h
    refine zw ?_
    refine rD [0,0,0] [3,8,13] [] [0,4,8,13,16,20,24,28,33,36,40,44,48,53,58,60] ?_
    refine zw ?_
    refine cnd h (fun hb154 h => ?_) fun hb154 h => ?_
    ·
     refine zw ?_
     refine ob' h fun e155 g156 h => ?_
     refine zw ?_
     refine ob' h fun e157 g158 h => ?_
     refine OpsD.gv rfl rfl rfl rfl rfl hb154 (Y2x (p := 2) Y9v.h rfl rfl rfl g158 rfl) ?_
     refine OpsD.gv rfl rfl rfl rfl rfl hb154 (Y30 (p := 2) ld_2.h rfl rfl (Y29 g158).2.2 rfl rfl) ?_
     refine zw ?_
     refine ob' h fun r159 g160 h => ?_
     refine Y3n.gh (ns := []) rfl rfl rfl rfl rfl hb154 rfl (Y24 ((Z41 _ _ _ _).h _ g160) rfl rfl) ?_
     rintro _ _ ⟨rfl, rfl⟩
     exact go
    refine OpsD.gs rfl rfl rfl rfl (.b rfl hb154) rfl rfl ?_
    refine OpsD.gs rfl rfl rfl rfl (.b rfl hb154) rfl rfl ?_
    refine OpsD.gs rfl rfl rfl rfl (.b rfl hb154) rfl rfl ?_
    refine OpsD.gs rfl rfl rfl rfl (.b rfl hb154) rfl rfl ?_
    refine OpsD.gs rfl rfl rfl rfl (.b rfl hb154) rfl rfl ?_
    refine OpsD.gs rfl rfl rfl rfl (.b rfl hb154) rfl rfl ?_
    refine OpsD.gs rfl rfl rfl rfl (.b rfl hb154) rfl rfl ?_
    refine OpsD.gs rfl rfl rfl rfl (.b rfl hb154) rfl rfl ?_
    refine OpsD.gs rfl rfl rfl rfl (.b rfl hb154) rfl rfl ?_
    refine OpsD.gs rfl rfl rfl rfl (.b rfl hb154) rfl rfl ?_
    refine OpsD.gs rfl rfl rfl rfl (.b rfl hb154) rfl rfl ?_
    refine OpsD.one ?_
    refine Y3n.gs rfl rfl rfl rfl (.b rfl hb154) rfl rfl ?_
    exact go
   intro x163 h
   replace h : Z4v l96 l141 x142 x163 = some y274 := h
   unfold Z4v at h
   refine zw ?_
   refine Ops.h (ns := []) rfl rfl (Y39 (k := kI64) (ys := ([] : List Int)) Yab .nil rfl rfl rfl) ?_
   rintro _ _ ⟨b164, rfl, rfl⟩
   refine zw ?_
   refine ob' h fun u166 c165 h => ?_
   refine Ops.v rfl (Y76 (p := 3) (l := (Int.toNat x163)) Y9v.h rfl rfl rfl (Wo (Y3t c165)) rfl rfl) ?_
   refine ob' h fun u168 c167 h => ?_
   refine ob' h fun u170 c169 h => ?_
   refine Ops.h (ns := [0, 2]) rfl rfl (Y7f Yab rfl rfl (Part.take (Int.toNat x163) (Wo (Y3t c167))) (Wo (Y3t c169)) (Y3w (by decide) c169) rfl) ?_
   rintro _ _ ⟨v171, rfl, rfl⟩
   refine zw ?_
   refine oi h fun e172 g173 h => ?_
   refine zw ?_
   refine Ops.h (ns := []) rfl rfl (Y39 (k := kI64) (ys := [e172]) Yab (.one rfl (One.val rfl) rfl rfl .nil) rfl rfl rfl) ?_
   rintro _ _ ⟨b174, rfl, rfl⟩
   refine ob' h fun u176 c175 h => ?_
   refine Ops.h (ns := [1, 0]) rfl rfl (Y2s Yab rfl rfl (Wo (Y3t c175)) (Y3w (by decide) c175) rfl) ?_
   rintro _ _ ⟨v177, rfl, rfl⟩
   refine zw ?_
   refine ob' h fun u179 c178 h => ?_
   refine Ops.v rfl (Y75 (p := 1) (l := (Int.toNat x163)) Y9v.h rfl rfl rfl (Wo (Y3t c178)) rfl rfl) ?_
   refine ob' h fun u181 c180 h => ?_
   refine ob' h fun u183 c182 h => ?_
   refine Ops.h (ns := [0, 0]) rfl rfl (Y7f Yab rfl rfl (Part.drop (Int.toNat x163) (Wo (Y3t c180))) (Wo (Y3t c182)) (Y3w (by decide) c182) rfl) ?_
   rintro _ _ ⟨v184, rfl, rfl⟩
   exact go
  exact go
 rintro ⟨l186, v185⟩ h
 replace h : Z4u p0 l95 l186 = some r := h
 unfold Z4u at h
 refine AW.seq ?_
 refine AW.cut (τ := List Y94 × Value) (fun (l249, v248) => ⟨[(7, cV v248)], [oA v248 106 Y9j 3 l249]⟩) (fun (l249, v248) => Z4q l249 = some r) ?_ ?_
 ·
  refine zw ?_
  refine AW.lp h (fun (l217, x218) (v216 : Value) => ⟨[(3, pt b1), (7, cV v216), (11, cV v185), (15, cI x218)], [oB b1 139 [cI p0.room, cM Y9b 9 p0.events, cM Y9b 9 p0.parked], oA v216 106 Y9j 3 l217, oA v185 2 kI64 1 l186]⟩) (gb [0, 0, 0]) ?_
  rintro ⟨l217, x218⟩ v216 y267 h
  refine AW.seq ?_
  refine AW.seq ?_
  refine AW.region ?_
  refine Ops.v rfl (Yq rfl rfl) ?_
  refine Ops.v rfl (Yq rfl rfl) ?_
  refine Ops.v rfl (Y2u (p := 2) Y9v.h rfl rfl rfl) ?_
  refine zw ?_
  refine cnd h (fun hb219 h => ?_) fun hb219 h => ?_
  ·
   refine AW.ct hb219 rfl ?_
   refine AW.skip ?_
   refine AW.seq ?_
   refine AW.block ?_
   refine AW.seq ?_
   refine AW.cut (τ := Int × Int × Int × Int × Int × Int × ByteArray × List Int × Int × Nat) (fun (x230, x231, x232, x233, x234, x235, x236, l237, x238, b229) => ⟨[(3, pt b1), (7, cV v216), (11, cV v185), (15, cI x218), (16, pt b229)], [oB b1 139 [cI p0.room, cM Y9b 9 p0.events, cM Y9b 9 p0.parked], oA v216 106 Y9j 3 l217, oA v185 2 kI64 1 l186, oB b229 136 [cI x230, cI x231, cI x232, cI x233, cI x234, cI x235, C.str x236, cM kI64 1 l237, cI x238]]⟩) (fun (x230, x231, x232, x233, x234, x235, x236, l237, x238, b229) => Z4s p0 l217 x218 x230 x231 x232 x233 x234 x235 x236 l237 x238 = some y267) ?_ ?_
   ·
    refine AW.regionD (L := [1, 3, 7, 10]) (Lt := [12]) (k := .light 0 false (.light 1 true (.light 2 false (.light 3 true (.light 4 false (.light 5 false (.light 6 false (.light 7 true (.two 8 11 (.light 9 false (.light 10 true (.one 11 (.late 12 (.done))))) (.one 8 (.light 9 false (.light 10 true (.late 12 (.done)))))))))))))) (ns := [0, 0, 0]) (by kernel_rfl) (by kernel_rfl) (by kernel_rfl) (by kernel_rfl) rfl ?_
    refine zw ?_
    refine ob' h fun e220 g221 h => ?_
    refine OpsD.v rfl rfl (Y2x (p := 2) Y9v.h rfl rfl rfl g221 rfl) ?_
    refine OpsD.v rfl rfl (Y30 (p := 2) ld_2.h rfl rfl (Y29 g221).2.2 rfl rfl) ?_
    refine ob' h fun r222 g223 h => ?_
    refine OpsD.two ?_ ?_
    ·
     refine Y3n.h (ns := []) rfl rfl rfl (Y24 ((Z26 _ _).h _ g223) rfl rfl) ?_
     rintro _ _ ⟨rfl, rfl⟩
     refine di h fun e225 g226 h => ?_
     refine OpsD.v rfl rfl (Y1i Yat.h rfl rfl rfl rfl) ?_
     refine OpsD.one ?_
     refine Y3n.h (ns := []) rfl rfl rfl (Y1p (cs := [cI 0, cI 0, cI 0, cI 0, cI 0, cI 0, C.str ByteArray.empty, cV s0, cI 0]) Yac (Y42 rfl rfl) rfl) ?_
     rintro _ _ ⟨b224, rfl, rfl⟩
     refine OpsD.late (ns := [3]) rfl rfl rfl (Y1u (gs := [cI e225.id, cI e225.room, cI e225.author, cI e225.kind, cI e225.key, cI e225.n, C.str e225.text, cM kI64 1 e225.prev, cI e225.time]) Yat.h rfl rfl rfl rfl rfl) ?_
     rintro _ _ ⟨rfl, rfl⟩
     refine zw ?_
     exact ⟨(e225.id, e225.room, e225.author, e225.kind, e225.key, e225.n, e225.text, e225.prev, e225.time, b224), h, Y21.both (ns := [1, 1, 1, 0]) rfl rfl⟩
    refine Y3n.h (ns := []) rfl rfl rfl (Y1p (cs := [cI 0, cI 0, cI 0, cI 0, cI 0, cI 0, C.str ByteArray.empty, cV s0, cI 0]) Yac (Y42 rfl rfl) rfl) ?_
    rintro _ _ ⟨b224, rfl, rfl⟩
    refine OpsD.one ?_
    refine Y3n.h (ns := []) rfl rfl rfl (Y24 ((Z26 _ _).h _ g223) rfl rfl) ?_
    rintro _ _ ⟨rfl, rfl⟩
    refine di h fun e227 g228 h => ?_
    refine zw ?_
    refine OpsD.late (ns := [3]) rfl rfl rfl (Y1u (gs := [cI e227.id, cI e227.room, cI e227.author, cI e227.kind, cI e227.key, cI e227.n, C.str e227.text, cM kI64 1 e227.prev, cI e227.time]) Yat.h rfl rfl rfl rfl rfl) ?_
    rintro _ _ ⟨rfl, rfl⟩
    refine zw ?_
    exact ⟨(e227.id, e227.room, e227.author, e227.kind, e227.key, e227.n, e227.text, e227.prev, e227.time, b224), h, Y21.both (ns := [1, 1, 1, 0]) rfl rfl⟩
   rintro ⟨x230, x231, x232, x233, x234, x235, x236, l237, x238, b229⟩ h
   replace h : Z4s p0 l217 x218 x230 x231 x232 x233 x234 x235 x236 l237 x238 = some y267 := h
   unfold Z4s at h
   refine AW.seq ?_
   refine AW.region ?_
   refine Ops.v rfl (Y1l (p := 0) (ds := [cI p0.room, cM Y9b 9 p0.events, cM Y9b 9 p0.parked]) Yb4.h rfl rfl rfl rfl rfl) ?_
   refine Ops.v rfl (Yq rfl rfl) ?_
   refine Ops.v rfl (Y1l (p := 3) (ds := [cI x230, cI x231, cI x232, cI x233, cI x234, cI x235, C.str x236, cM kI64 1 l237, cI x238]) Yat.h rfl rfl rfl rfl rfl) ?_
   refine ob' h fun r239 g240 h => ?_
   refine Ops.hd (ns := [1]) rfl rfl (Y24 (Ok.lendE ((Z4p p0 l217 (Y8z.mk x230 x231 x232 x233 x234 x235 x236 l237 x238)).h _ g240) (fT (FrzT.cons (os := [_]) Frz.arr (fT (FrzT.nil)))) (Y44.val _)) rfl rfl) ?_
   refine zw ?_
   refine cnd h (fun hb241 h => ?_) fun hb241 h => ?_
   ·
    refine AW.ct hb241 rfl ?_
    refine zw ?_
    refine Ops.v rfl (Y38 (ds := [cI x233, cI x234, cI x230]) Ybz Yc0 (Y42 rfl rfl) (.one rfl (One.val rfl) rfl rfl (.one rfl (One.val rfl) rfl rfl (.one rfl (One.val rfl) rfl rfl .nil))) rfl) ?_
    refine ob' h fun r242 g243 h => ?_
    refine Ops.h (ns := [0]) rfl rfl (Y23 (Ok.lend (Z3p l217 (Y94.mk x233 x234 x230) _ g243) (FrzT.cons (os := [_]) Frz.arr (fT (FrzT.nil))) (by rintro _ _ ⟨_, rfl, rfl⟩; exact ⟨(Y44.val _), Y48 (Y46.arr Yby) (Y47)⟩)) rfl rfl) ?_
    rintro _ _ ⟨_, ⟨_, ⟨v244, rfl, rfl⟩, rfl⟩, rfl⟩
    exact go
   exact go
  exact go
 rintro ⟨l249, v248⟩ h
 replace h : Z4q l249 = some r := h
 unfold Z4q at h
 refine zw ?_
 refine AW.ret ?_
 rw [← Wj h]
 exact ⟨[cV v248], _, Y21.refl _, (.cons (.tmp rfl) .nil), [0], _, _, rfl, ⟨v248, rfl, rfl⟩⟩
instance Z55' (p0 : Y92) (p1 : List Int) (p2 : List (List Y94)) : Sp Tryz.prog 182 [C.agg [cI p0.room, cM Y9b 9 p0.events, cM Y9b 9 p0.parked], cM kI64 1 p1, cM Y9k 1 p2] (Z54 p0 p1 p2) (fun r => cM Y9j 3 r) := ⟨fun r h => Ok.freeze (Z55 p0 p1 p2 r h) (by rintro c qs ⟨v250, rfl, rfl⟩; exact Frz.arr)⟩

def Z56 (p0 : Y8z) : Option Y8z := (chk (decide ((([] : List Int).length + p0.prev.length) * 8 ≤ 140737488355328))).bind fun u5 => some (Y8z.mk p0.id p0.room p0.author p0.kind p0.key p0.n p0.text (([] : List Int) ++ p0.prev) p0.time)
theorem Z57 (p0 : Y8z) (r : Y8z) (h : Z56 p0 = some r) : Ok Tryz.prog 167 [C.agg [cI p0.id, cI p0.room, cI p0.author, cI p0.kind, cI p0.key, cI p0.n, C.str p0.text, cM kI64 1 p0.prev, cI p0.time]] [] (fun c qs => ∃ (v8 : Value), c = C.agg [cI r.id, cI r.room, cI r.author, cI r.kind, cI r.key, cI r.n, C.str r.text, cV v8, cI r.time] ∧ qs = [oA v8 2 kI64 1 r.prev]) := by
 refine Ok.of_body (rs := [.cell 2 136]) Tryz.func167 rfl rfl rfl rfl rfl fun X => ?_
 unfold Z56 at h
 refine zw ?_
 refine ox fun b1 => ?_
 refine Ops.h (ns := []) rfl rfl (Y1p (cs := [cI 0, cI 0, cI 0, cI 0, cI 0, cI 0, C.str ByteArray.empty, cV s0, cI 0]) Yac (Y42 rfl rfl) rfl) ?_
 rintro _ _ ⟨b2, rfl, rfl⟩
 refine zw ?_
 refine Ops.h (ns := []) rfl rfl (Y39 (k := kI64) (ys := ([] : List Int)) Yab .nil rfl rfl rfl) ?_
 rintro _ _ ⟨b3, rfl, rfl⟩
 refine zw ?_
 refine ob' h fun u5 c4 h => ?_
 refine Ops.h (ns := [0]) rfl rfl (Y2r Yab rfl rfl (Wo (Y3t c4)) (Y3w (by decide) c4) rfl) ?_
 rintro _ _ ⟨v6, rfl, rfl⟩
 refine Ops.v rfl (Y1b Yaq.h rfl rfl) ?_
 refine Ops.learn (Sim.arr_one (p := 0) rfl) fun n7 => ?_
 refine Ops.hd (ns := [2]) rfl rfl (Y1t (gs := [cI p0.id, cI p0.room, cI p0.author, cI p0.kind, cI p0.key, cI p0.n, C.str p0.text, cV v6, cI p0.time]) Y9y.h rfl rfl (One.val n7) rfl rfl) ?_
 refine zw ?_
 refine Ops.hd (ns := [2]) rfl rfl (Y1u (gs := [cI p0.id, cI p0.room, cI p0.author, cI p0.kind, cI p0.key, cI p0.n, C.str p0.text, cV v6, cI p0.time]) Yat.h rfl rfl rfl rfl rfl) ?_
 refine zw ?_
 refine AW.ret ?_
 rw [← Wj h]
 exact ⟨[C.agg [cI p0.id, cI p0.room, cI p0.author, cI p0.kind, cI p0.key, cI p0.n, C.str p0.text, cV v6, cI p0.time]], _, Y21.refl _, (.cons (.cell (p := 0) rfl rfl Yat.h rfl) .nil), [2], _, _, rfl, ⟨v6, rfl, rfl⟩⟩
instance Z57' (p0 : Y8z) : Sp Tryz.prog 167 [C.agg [cI p0.id, cI p0.room, cI p0.author, cI p0.kind, cI p0.key, cI p0.n, C.str p0.text, cM kI64 1 p0.prev, cI p0.time]] (Z56 p0) (fun r => C.agg [cI r.id, cI r.room, cI r.author, cI r.kind, cI r.key, cI r.n, C.str r.text, cM kI64 1 r.prev, cI r.time]) := ⟨fun r h => Ok.freeze (Z57 p0 r h) (by rintro c qs ⟨v8, rfl, rfl⟩; exact Frz.agg (fS (fS (fS (fS (fS (fS (fS (FrzL.cons (os := [_]) (Frz.arr) (fS (FrzL.nil)))))))))))⟩

def Z58 (p0 : Y92) (p1 : Int) : Option Y8z := (Z25 p0.events p1).bind fun r3 => cond (decide (r3 < 0)) (some (Y8z.mk 0 0 0 0 0 0 ByteArray.empty [] 0)) ((getI p0.events r3).bind fun e6 => (Z56 e6).bind fun r8 => some r8)
instance Z59 (p0 : Y92) (p1 : Int) : Sp Tryz.prog 278 [C.agg [cI p0.room, cM Y9b 9 p0.events, cM Y9b 9 p0.parked], cI p1] (Z58 p0 p1) (fun r => C.agg [cI r.id, cI r.room, cI r.author, cI r.kind, cI r.key, cI r.n, C.str r.text, cM kI64 1 r.prev, cI r.time]) := sp Tryz.func278 rfl rfl fun r X h => by
 unfold Z58 at h
 refine zw ?_
 refine ox fun b1 => ?_
 refine Ops.h (ns := []) rfl rfl (Y1p (cs := [cI 0, cI 0, cI 0, cI 0, cI 0, cI 0, C.str ByteArray.empty, cV s0, cI 0]) Yac (Y42 rfl rfl) rfl) ?_
 rintro _ _ ⟨b2, rfl, rfl⟩
 refine zw ?_
 refine oc h fun r3 g4 h => ?_
 refine zw ?_
 refine cnd h (fun hb5 h => ?_) fun hb5 h => ?_
 ·
  refine AW.ct hb5 rfl ?_
  refine zw ?_
  refine Ops.v rfl (Y38 (ds := [cI 0, cI 0, cI 0, cI 0, cI 0, cI 0, C.str ByteArray.empty, cV s0, cI 0]) Ybv Yac (Y42 rfl rfl) .nil rfl) ?_
  refine Ops.hd (ns := [0]) rfl rfl (Y1u (gs := [cI 0, cI 0, cI 0, cI 0, cI 0, cI 0, C.str ByteArray.empty, cV s0, cI 0]) Yat.h rfl rfl rfl rfl rfl) ?_
  refine zw ?_
  refine AW.ret ?_
  rw [← Wj h]
  exact ⟨[C.agg [cI 0, cI 0, cI 0, cI 0, cI 0, cI 0, C.str ByteArray.empty, cM kI64 1 [], cI 0]], _, Y21.boxFrz (ns := [0]) rfl (fS (fS (fS (fS (fS (fS (fS (FrzL.cons (os := []) (Frz.imp (Imp.nil kI64 1)) (fS FrzL.nil))))))))), (.cons (.cell (p := 0) rfl rfl Yat.h rfl) .nil), [], _, _, rfl, ⟨rfl, rfl⟩⟩
 refine AW.cf hb5 rfl ?_
 refine zw ?_
 refine oi h fun e6 g7 h => ?_
 refine zw ?_
 refine oc h fun r8 g9 h => ?_
 refine Ops.hd (ns := [0]) rfl rfl (Y1u (gs := [cI r8.id, cI r8.room, cI r8.author, cI r8.kind, cI r8.key, cI r8.n, C.str r8.text, cM kI64 1 r8.prev, cI r8.time]) Yat.h rfl rfl rfl rfl rfl) ?_
 refine zw ?_
 refine AW.ret ?_
 rw [← Wj h]
 exact ⟨[C.agg [cI r8.id, cI r8.room, cI r8.author, cI r8.kind, cI r8.key, cI r8.n, C.str r8.text, cM kI64 1 r8.prev, cI r8.time]], _, Y21.refl _, (.cons (.cell (p := 0) rfl rfl Yat.h rfl) .nil), [], _, _, rfl, ⟨rfl, rfl⟩⟩

def Z5a : Option Bool := some false
def Z5b (p0 : Y92) (p1 : Int) (l35 : List Bool) (l37 : List Int) : Option ((List Bool × List Int) ⊕ (Bool ⊕ Unit)) := cond (decide ((l37.length : Int) > 0)) ((getI l37 0).bind fun e39 => (chk (decide ((0 : Int) ≤ 1 ∧ 1 ≤ (l37.length : Int)))).bind fun u42 => (Z25 p0.events e39).bind fun r44 => cond (e39 == p1) (some (.inr (.inl true))) ((getI l35 r44).bind fun e47 => cond e47 (some (.inl (l35, (List.drop (Int.toNat 1) l37)))) ((getI p0.events r44).bind fun e50 => (chk (decide (((List.drop (Int.toNat 1) l37).length + e50.prev.length) * 8 ≤ 140737488355328))).bind fun u53 => some (.inl ((List.set l35 (Int.toNat r44) true), ((List.drop (Int.toNat 1) l37) ++ e50.prev)))))) (some (.inr (.inr ())))
def Z5c (p0 : Y92) (p1 : Int) (p2 : Int) (x7 : Bool) : Option Bool := cond x7 (some false) ((chk (decide (0 ≤ (p0.events.length : Int) ∧ (p0.events.length : Int) * 1 ≤ 140737488355328))).bind fun u10 => (Z58 p0 p2).bind fun r13 => (chk (decide ((([] : List Int).length + r13.prev.length) * 8 ≤ 140737488355328))).bind fun u16 => (iter (fun z55 => Z5b p0 p1 z55.1 z55.2) big ((List.replicate (Int.toNat (p0.events.length : Int)) false), (([] : List Int) ++ r13.prev))).bind (fun z57 => match z57 with | .inl y56 => some y56 | .inr () => Z5a))
def Z5d (p0 : Y92) (p1 : Int) (p2 : Int) : Option Bool := (Z25 p0.events p1).bind fun r2 => cond (decide (r2 < 0)) (Z5c p0 p1 p2 true) ((Z25 p0.events p2).bind fun r5 => Z5c p0 p1 p2 (decide (r5 < 0)))
instance Z5e (p0 : Y92) (p1 : Int) (p2 : Int) : Sp Tryz.prog 229 [C.agg [cI p0.room, cM Y9b 9 p0.events, cM Y9b 9 p0.parked], cI p1, cI p2] (Z5d p0 p1 p2) C.bool := sp Tryz.func229 rfl rfl fun r X h => by
 unfold Z5d at h
 refine zw ?_
 refine ox fun b1 => ?_
 refine Ops.v rfl (Yr rfl rfl) ?_
 refine Ops.nil ?_
 refine AW.seq ?_
 refine AW.seq ?_
 refine AW.cut (τ := Bool) (fun x7 => ⟨[(1, cI p1), (2, cI p2), (3, pt b1), (22, C.bool x7)], [oB b1 139 [cI p0.room, cM Y9b 9 p0.events, cM Y9b 9 p0.parked]]⟩) (fun x7 => Z5c p0 p1 p2 x7 = some r) ?_ ?_
 ·
  refine zw ?_
  refine oc h fun r2 g3 h => ?_
  refine zw ?_
  refine cnd h (fun hb4 h => go) fun hb4 h => ?_
  refine zw ?_
  refine ob' h fun r5 g6 h => ?_
  refine Ops.ghd (ns := []) rfl rfl rfl rfl hb4 rfl (Y24 ((Z26 _ _).h _ g6) rfl rfl) ?_
  exact go
 intro x7 h
 replace h : Z5c p0 p1 p2 x7 = some r := h
 unfold Z5c at h
 refine cnd h (fun hb8 h => go) fun hb8 h => ?_
 refine AW.cf hb8 rfl ?_
 refine zw ?_
 refine ob' h fun u10 c9 h => ?_
 refine Ops.h (ns := []) rfl rfl (Y3b (k := Y9l) (z := false) Yc1 ze_4 (Y42 rfl rfl) rfl rfl (Y3x c9).1 (Y3x c9).2 (Y3y (by decide) c9) rfl) ?_
 rintro _ _ ⟨b11, rfl, rfl⟩
 refine zw ?_
 refine Ops.h (ns := []) rfl rfl (Y39 (k := kI64) (ys := ([] : List Int)) Yab .nil rfl rfl rfl) ?_
 rintro _ _ ⟨b12, rfl, rfl⟩
 refine zw ?_
 refine oc h fun r13 g14 h => ?_
 refine Ops.v rfl (Y6v Yc2 rfl rfl rfl) ?_
 refine ob' h fun u16 c15 h => ?_
 refine Ops.h (ns := [0]) rfl rfl (Y2r Yab rfl rfl (Wo (Y3t c15)) (Y3w (by decide) c15) rfl) ?_
 rintro _ _ ⟨v17, rfl, rfl⟩
 refine zw ?_
 refine AW.lp h (fun (l35, l37) (v36 : Value) => ⟨[(1, cI p1), (3, pt b1), (7, cV (sn b11 (p0.events.length : Int))), (8, cV v36)], [oB b1 139 [cI p0.room, cM Y9b 9 p0.events, cM Y9b 9 p0.parked], oA (sn b11 (p0.events.length : Int)) 4 Y9l 1 l35, Obj.que v36 2 kI64 1 l37]⟩) ((Y21.que (p := 0) rfl).trans (Y21.both (ns := [2, 1, 0]) rfl rfl)) ?_
 rintro ⟨l35, l37⟩ v36 y63 h
 refine zw ?_
 refine Ops.v rfl (Y7o (p := 2) Y9v.h rfl rfl rfl) ?_
 refine zw ?_
 refine cnd h (fun hb38 h => ?_) fun hb38 h => ?_
 ·
  refine AW.ct hb38 rfl ?_
  refine zw ?_
  refine ob' h fun e39 g40 h => ?_
  refine Ops.v rfl (Y7p (p := 2) Y9v.h rfl rfl rfl g40 rfl) ?_
  refine Ops.v rfl (Y7q (p := 2) ld_2.h rfl rfl (Y29 g40).2.2 rfl rfl) ?_
  refine zw ?_
  refine ob' h fun u42 c41 h => ?_
  refine Ops.h (ns := [2]) rfl rfl (Y7r (l := (Int.toNat 1)) Y9v.h rfl rfl (Wo (Y3t c41)) rfl rfl) ?_
  rintro _ _ ⟨v43, rfl, rfl⟩
  refine zw ?_
  refine oc h fun r44 g45 h => ?_
  refine zw ?_
  refine cnd h (fun hb46 h => go) fun hb46 h => ?_
  refine AW.cf hb46 rfl ?_
  refine zw ?_
  refine ob' h fun e47 g48 h => ?_
  refine Ops.v rfl (Y2x (p := 2) Yc3.h rfl rfl rfl g48 rfl) ?_
  refine Ops.v rfl (Y30 (p := 2) ld_4.h rfl rfl (Y29 g48).2.2 rfl rfl) ?_
  refine zw ?_
  refine cnd h (fun hb49 h => go) fun hb49 h => ?_
  refine AW.cond rfl (fun _ => ?_) (fun hn => absurd ((Y3v hb49).symm.trans hn) (by decide))
  refine AW.seq ?_
  refine AW.region ?_
  refine Ops.v rfl (Yq rfl rfl) ?_
  refine Ops.v rfl (Yq rfl rfl) ?_
  refine Ops.v rfl (Y2x (p := 2) Yc3.h rfl rfl rfl g48 rfl) ?_
  refine Ops.hd (ns := [2]) rfl rfl (Y33 (e' := true) ld_4.h rfl rfl (One.val rfl) (Y29 g48).2.2 rfl rfl) ?_
  refine zw ?_
  refine oi h fun e50 g51 h => ?_
  refine zw ?_
  refine ob' h fun u53 c52 h => ?_
  refine Ops.h (ns := [1]) rfl rfl (Y7u Yab rfl rfl (Wo (Y3t c52)) (Y3w (by decide) c52) rfl) ?_
  rintro _ _ ⟨v54, rfl, rfl⟩
  exact go
 exact go

def Z5f (l38 : List Int) (l260 : List (List Y94)) (l261 : List (List Y94)) (l262 : List Int) : Option Y95 := some (Y95.mk l38 l260 l261 l262)
def Z5g (x152 : Int) (l257 : List (List Y94)) (l258 : List (List Y94)) (l259 : List Int) : Option ((List (List Y94) × List (List Y94) × List Int × Int) ⊕ ((List (List Y94) × List (List Y94) × List Int))) := some (.inl (l257, l258, l259, (IntKind.i64.wrap (x152 + 1))))
def Z5h (l149 : List (List Y94)) (l150 : List (List Y94)) (x152 : Int) (r156 : Int) (e158 : Y8z) (r220 : List Y94) (e225 : List Y94) (l241 : List Int) (x251 : Bool) : Option ((List (List Y94) × List (List Y94) × List Int × Int) ⊕ ((List (List Y94) × List (List Y94) × List Int))) := cond x251 ((Z3o e225 (Y94.mk e158.kind e158.key e158.id)).bind fun r253 => (getI (List.set l150 (Int.toNat r156) (([] : List Y94) ++ e225)) r156).bind fun e255 => Z5g x152 (List.set l149 (Int.toNat r156) r220) (List.set (List.set l150 (Int.toNat r156) (([] : List Y94) ++ e225)) (Int.toNat r156) r253) l241) (Z5g x152 (List.set l149 (Int.toNat r156) r220) (List.set l150 (Int.toNat r156) (([] : List Y94) ++ e225)) l241)
def Z5i (l149 : List (List Y94)) (l150 : List (List Y94)) (x152 : Int) (r156 : Int) (e158 : Y8z) (r220 : List Y94) (e225 : List Y94) (l241 : List Int) : Option ((List (List Y94) × List (List Y94) × List Int × Int) ⊕ ((List (List Y94) × List (List Y94) × List Int))) := (chk (decide ((([] : List Y94).length + e225.length) * 24 ≤ 140737488355328))).bind fun u244 => (getI l150 r156).bind fun e246 => (getI l241 r156).bind fun e248 => cond (e248 == 0) (Z5h l149 l150 x152 r156 e158 r220 e225 l241 (decide (e158.kind ≤ 6))) (Z5h l149 l150 x152 r156 e158 r220 e225 l241 false)
def Z5j (l149 : List (List Y94)) (l150 : List (List Y94)) (l151 : List Int) (x152 : Int) (r156 : Int) (e158 : Y8z) (r220 : List Y94) (e225 : List Y94) (r227 : Int) (x237 : Bool) : Option ((List (List Y94) × List (List Y94) × List Int × Int) ⊕ ((List (List Y94) × List (List Y94) × List Int))) := cond x237 ((getI (List.set l151 (Int.toNat r156) r227) r156).bind fun e239 => Z5i l149 l150 x152 r156 e158 r220 e225 (List.set (List.set l151 (Int.toNat r156) r227) (Int.toNat r156) 6)) (Z5i l149 l150 x152 r156 e158 r220 e225 (List.set l151 (Int.toNat r156) r227))
def Z5k (p0 : Y92) (l38 : List Int) (l149 : List (List Y94)) (l150 : List (List Y94)) (l151 : List Int) (x152 : Int) (r156 : Int) (e158 : Y8z) (l214 : List (List Y94)) : Option ((List (List Y94) × List (List Y94) × List Int × Int) ⊕ ((List (List Y94) × List (List Y94) × List Int))) := (Z54 p0 l38 l214).bind fun r220 => (getI l149 r156).bind fun e223 => (getI (List.set l149 (Int.toNat r156) r220) r156).bind fun e225 => (Z4o p0 e225 e158).bind fun r227 => (getI l151 r156).bind fun e229 => (getI (List.set l151 (Int.toNat r156) r227) r156).bind fun e231 => cond (e231 == 0) (cond (e158.kind == 8) ((Z5d p0 e158.key e158.id).bind fun r235 => Z5j l149 l150 l151 x152 r156 e158 r220 e225 r227 (!r235)) (Z5j l149 l150 l151 x152 r156 e158 r220 e225 r227 false)) (Z5j l149 l150 l151 x152 r156 e158 r220 e225 r227 false)
def Z5l (p0 : Y92) (l150 : List (List Y94)) (e158 : Y8z) (l187 : List (List Y94)) (x188 : Int) : Option ((List (List Y94) × Int) ⊕ ((List (List Y94)))) := cond (decide (x188 < (e158.prev.length : Int))) ((getI e158.prev x188).bind fun e203 => (Z25 p0.events e203).bind fun r205 => (getI l150 r205).bind fun e207 => (chk (decide ((l187.length + [e207].length) * 24 ≤ 140737488355328))).bind fun u211 => some (.inl ((l187 ++ [e207]), (IntKind.i64.wrap (x188 + 1))))) (some (.inr l187))
def Z5m (p0 : Y92) (l38 : List Int) (r42 : List Int) (l149 : List (List Y94)) (l150 : List (List Y94)) (l151 : List Int) (x152 : Int) : Option ((List (List Y94) × List (List Y94) × List Int × Int) ⊕ ((List (List Y94) × List (List Y94) × List Int))) := cond (decide (x152 < (p0.events.length : Int))) ((getI r42 x152).bind fun e154 => (Z25 p0.events e154).bind fun r156 => (getI p0.events r156).bind fun e158 => (iter (fun z267 => Z5l p0 l150 e158 z267.1 z267.2) big (([] : List (List Y94)), 0)).bind fun y268 => Z5k p0 l38 l149 l150 l151 x152 r156 e158 y268) (some (.inr (l149, l150, l151)))
def Z5n (p0 : Y92) (l38 : List Int) : Option Y95 := (Z31 p0).bind fun r42 => (iter (fun z269 => Z5m p0 l38 r42 z269.1 z269.2.1 z269.2.2.1 z269.2.2.2) big ((List.replicate (Int.toNat (p0.events.length : Int)) []), (List.replicate (Int.toNat (p0.events.length : Int)) []), (List.replicate (Int.toNat (p0.events.length : Int)) 0), 0)).bind fun (y270, y271, y272) => Z5f l38 y270 y271 y272
def Z5o (p0 : Y92) : Option Y95 := (Z2k p0.events).bind fun r2 => (chk (decide (0 ≤ (p0.events.length : Int) ∧ (p0.events.length : Int) * 24 ≤ 140737488355328))).bind fun u5 => (chk (decide (0 ≤ (p0.events.length : Int) ∧ (p0.events.length : Int) * 24 ≤ 140737488355328))).bind fun u8 => (chk (decide (0 ≤ (p0.events.length : Int) ∧ (p0.events.length : Int) * 8 ≤ 140737488355328))).bind fun u11 => Z5n p0 r2
theorem Z5p (p0 : Y92) (r : Y95) (h : Z5o p0 = some r) : Ok Tryz.prog 179 [C.agg [cI p0.room, cM Y9b 9 p0.events, cM Y9b 9 p0.parked]] [] (fun c qs => ∃ (b263 : Nat) (v264 : Value) (v265 : Value) (v266 : Value), c = pt b263 ∧ qs = [oB b263 215 [cM kI64 1 r.depths, cV v264, cV v265, cV v266], oA v264 27 Y9k 1 r.ahead, oA v265 27 Y9k 1 r.behind, oA v266 2 kI64 1 r.code]) := by
 refine Ok.of_body (rs := [.tmp 2]) Tryz.func179 rfl rfl rfl rfl rfl fun X => ?_
 unfold Z5o at h
 refine zw ?_
 refine ox fun b1 => ?_
 refine Ops.v rfl (Yr rfl rfl) ?_
 refine Ops.nil ?_
 refine AW.seq ?_
 refine AW.region ?_
 refine Ops.v rfl (Y1b Yb1.h rfl rfl) ?_
 refine Ops.v rfl (Y1k (p := 0) Yb2.h rfl rfl rfl rfl) ?_
 refine Ops.v rfl (Y2c Yax.h rfl rfl) ?_
 refine Ops.v rfl (Yr rfl rfl) ?_
 refine Ops.nil ?_
 refine AW.seq ?_
 refine AW.cut (τ := List Int × Nat × Value × Value × Value) (fun (l38, b37, v39, v40, v41) => ⟨[(1, pt b1), (3, cI (p0.events.length : Int)), (4, pt b37)], [oB b1 139 [cI p0.room, cM Y9b 9 p0.events, cM Y9b 9 p0.parked], oB b37 215 [cM kI64 1 l38, cV v39, cV v40, cV v41], oA v39 27 Y9k 1 (List.replicate (Int.toNat (p0.events.length : Int)) []), oA v40 27 Y9k 1 (List.replicate (Int.toNat (p0.events.length : Int)) []), oA v41 2 kI64 1 (List.replicate (Int.toNat (p0.events.length : Int)) 0)]⟩) (fun (l38, b37, v39, v40, v41) => Z5n p0 l38 = some r) ?_ ?_
 ·
  refine AW.regionD (L := [1]) (Lt := []) (k := .light 0 false (.light 1 true (.light 3 false (.light 5 false (.light 7 false (.four 2 4 6 8 (.three 4 6 8 (.two 6 8 (.one 8 (.light 9 false (.one 10 (.light 11 false .done)))) (.one 6 (.light 9 false (.one 10 (.light 11 false .done))))) (.two 4 8 (.one 8 (.light 9 false (.one 10 (.light 11 false .done)))) (.one 4 (.light 9 false (.one 10 (.light 11 false .done))))) (.two 4 6 (.one 6 (.light 9 false (.one 10 (.light 11 false .done)))) (.one 4 (.light 9 false (.one 10 (.light 11 false .done)))))) (.three 2 6 8 (.two 6 8 (.one 8 (.light 9 false (.one 10 (.light 11 false .done)))) (.one 6 (.light 9 false (.one 10 (.light 11 false .done))))) (.two 2 8 (.one 8 (.light 9 false (.one 10 (.light 11 false .done)))) (.one 2 (.light 9 false (.one 10 (.light 11 false .done))))) (.two 2 6 (.one 6 (.light 9 false (.one 10 (.light 11 false .done)))) (.one 2 (.light 9 false (.one 10 (.light 11 false .done)))))) (.three 2 4 8 (.two 4 8 (.one 8 (.light 9 false (.one 10 (.light 11 false .done)))) (.one 4 (.light 9 false (.one 10 (.light 11 false .done))))) (.two 2 8 (.one 8 (.light 9 false (.one 10 (.light 11 false .done)))) (.one 2 (.light 9 false (.one 10 (.light 11 false .done))))) (.two 2 4 (.one 4 (.light 9 false (.one 10 (.light 11 false .done)))) (.one 2 (.light 9 false (.one 10 (.light 11 false .done)))))) (.three 2 4 6 (.two 4 6 (.one 6 (.light 9 false (.one 10 (.light 11 false .done)))) (.one 4 (.light 9 false (.one 10 (.light 11 false .done))))) (.two 2 6 (.one 6 (.light 9 false (.one 10 (.light 11 false .done)))) (.one 2 (.light 9 false (.one 10 (.light 11 false .done))))) (.two 2 4 (.one 4 (.light 9 false (.one 10 (.light 11 false .done)))) (.one 2 (.light 9 false (.one 10 (.light 11 false .done)))))))))))) (ns := [0]) (by kernel_rfl) (by kernel_rfl) (by kernel_rfl) (by kernel_rfl) rfl ?_
  refine zw ?_
  refine ob' h fun r2 g3 h => ?_
  refine ob' h fun u5 c4 h => ?_
  refine ob' h fun u8 c7 h => ?_
  refine ob' h fun u11 c10 h => ?_
  refine OpsD.four ?_ ?_ ?_ ?_
  ·
   refine Y3n.h (ns := []) rfl rfl rfl (Y24 ((Z2l' _).h _ g3) rfl rfl) ?_
   rintro _ _ ⟨rfl, rfl⟩
   refine OpsD.three ?_ ?_ ?_
   ·
    refine Y3n.h (ns := []) rfl rfl rfl (Y3b (k := Y9k) (z := []) Yc4 Yc5 (fun w F => Imps.cells (.cons (Imp.nil Y9j 3) .nil) (Y42 (cs := [cV s0]) rfl rfl w F)) rfl rfl (Y3x c4).1 (Y3x c4).2 (Y3y (by decide) c4) rfl) ?_
    rintro _ _ ⟨b6, rfl, rfl⟩
    refine OpsD.two ?_ ?_
    ·
     refine Y3n.h (ns := []) rfl rfl rfl (Y3b (k := Y9k) (z := []) Yc4 Yc5 (fun w F => Imps.cells (.cons (Imp.nil Y9j 3) .nil) (Y42 (cs := [cV s0]) rfl rfl w F)) rfl rfl (Y3x c7).1 (Y3x c7).2 (Y3y (by decide) c7) rfl) ?_
     rintro _ _ ⟨b9, rfl, rfl⟩
     refine OpsD.one ?_
     refine Y3n.h (ns := []) rfl rfl rfl (Y3b (k := kI64) (z := 0) Yab ze_2 (Y42 rfl rfl) rfl rfl (Y3x c10).1 (Y3x c10).2 (Y3y (by decide) c10) rfl) ?_
     rintro _ _ ⟨b12, rfl, rfl⟩
     refine OpsD.v rfl rfl (Y38 (ds := [cM kI64 1 r2, cV (sn b6 (p0.events.length : Int)), cV (sn b9 (p0.events.length : Int)), cV (sn b12 (p0.events.length : Int))]) Yc6 Yc7 (Y42 rfl rfl) (.one rfl One.im rfl rfl (.one rfl (One.val rfl) rfl rfl (.one rfl (One.val rfl) rfl rfl (.one rfl (One.val rfl) rfl rfl .nil)))) rfl) ?_
     refine zw ?_
     refine dx fun b13 => ?_
     refine zw ?_
     exact ⟨(r2, b13, (sn b6 (p0.events.length : Int)), (sn b9 (p0.events.length : Int)), (sn b12 (p0.events.length : Int))), h, Y21.both (ns := [0, 0, 2, 1, 0]) rfl rfl⟩
    refine Y3n.h (ns := []) rfl rfl rfl (Y3b (k := kI64) (z := 0) Yab ze_2 (Y42 rfl rfl) rfl rfl (Y3x c10).1 (Y3x c10).2 (Y3y (by decide) c10) rfl) ?_
    rintro _ _ ⟨b12, rfl, rfl⟩
    refine OpsD.one ?_
    refine Y3n.h (ns := []) rfl rfl rfl (Y3b (k := Y9k) (z := []) Yc4 Yc5 (fun w F => Imps.cells (.cons (Imp.nil Y9j 3) .nil) (Y42 (cs := [cV s0]) rfl rfl w F)) rfl rfl (Y3x c7).1 (Y3x c7).2 (Y3y (by decide) c7) rfl) ?_
    rintro _ _ ⟨b9, rfl, rfl⟩
    refine OpsD.v rfl rfl (Y38 (ds := [cM kI64 1 r2, cV (sn b6 (p0.events.length : Int)), cV (sn b9 (p0.events.length : Int)), cV (sn b12 (p0.events.length : Int))]) Yc6 Yc7 (Y42 rfl rfl) (.one rfl One.im rfl rfl (.one rfl (One.val rfl) rfl rfl (.one rfl (One.val rfl) rfl rfl (.one rfl (One.val rfl) rfl rfl .nil)))) rfl) ?_
    refine zw ?_
    refine dx fun b14 => ?_
    refine zw ?_
    exact ⟨(r2, b14, (sn b6 (p0.events.length : Int)), (sn b9 (p0.events.length : Int)), (sn b12 (p0.events.length : Int))), h, Y21.both (ns := [0, 0, 2, 0, 0]) rfl rfl⟩
   ·
    refine Y3n.h (ns := []) rfl rfl rfl (Y3b (k := Y9k) (z := []) Yc4 Yc5 (fun w F => Imps.cells (.cons (Imp.nil Y9j 3) .nil) (Y42 (cs := [cV s0]) rfl rfl w F)) rfl rfl (Y3x c7).1 (Y3x c7).2 (Y3y (by decide) c7) rfl) ?_
    rintro _ _ ⟨b9, rfl, rfl⟩
    refine OpsD.two ?_ ?_
    ·
     refine Y3n.h (ns := []) rfl rfl rfl (Y3b (k := Y9k) (z := []) Yc4 Yc5 (fun w F => Imps.cells (.cons (Imp.nil Y9j 3) .nil) (Y42 (cs := [cV s0]) rfl rfl w F)) rfl rfl (Y3x c4).1 (Y3x c4).2 (Y3y (by decide) c4) rfl) ?_
     rintro _ _ ⟨b6, rfl, rfl⟩
     refine OpsD.one ?_
     refine Y3n.h (ns := []) rfl rfl rfl (Y3b (k := kI64) (z := 0) Yab ze_2 (Y42 rfl rfl) rfl rfl (Y3x c10).1 (Y3x c10).2 (Y3y (by decide) c10) rfl) ?_
     rintro _ _ ⟨b12, rfl, rfl⟩
     refine OpsD.v rfl rfl (Y38 (ds := [cM kI64 1 r2, cV (sn b6 (p0.events.length : Int)), cV (sn b9 (p0.events.length : Int)), cV (sn b12 (p0.events.length : Int))]) Yc6 Yc7 (Y42 rfl rfl) (.one rfl One.im rfl rfl (.one rfl (One.val rfl) rfl rfl (.one rfl (One.val rfl) rfl rfl (.one rfl (One.val rfl) rfl rfl .nil)))) rfl) ?_
     refine zw ?_
     refine dx fun b15 => ?_
     refine zw ?_
     exact ⟨(r2, b15, (sn b6 (p0.events.length : Int)), (sn b9 (p0.events.length : Int)), (sn b12 (p0.events.length : Int))), h, Y21.both (ns := [0, 0, 1, 1, 0]) rfl rfl⟩
    refine Y3n.h (ns := []) rfl rfl rfl (Y3b (k := kI64) (z := 0) Yab ze_2 (Y42 rfl rfl) rfl rfl (Y3x c10).1 (Y3x c10).2 (Y3y (by decide) c10) rfl) ?_
    rintro _ _ ⟨b12, rfl, rfl⟩
    refine OpsD.one ?_
    refine Y3n.h (ns := []) rfl rfl rfl (Y3b (k := Y9k) (z := []) Yc4 Yc5 (fun w F => Imps.cells (.cons (Imp.nil Y9j 3) .nil) (Y42 (cs := [cV s0]) rfl rfl w F)) rfl rfl (Y3x c4).1 (Y3x c4).2 (Y3y (by decide) c4) rfl) ?_
    rintro _ _ ⟨b6, rfl, rfl⟩
    refine OpsD.v rfl rfl (Y38 (ds := [cM kI64 1 r2, cV (sn b6 (p0.events.length : Int)), cV (sn b9 (p0.events.length : Int)), cV (sn b12 (p0.events.length : Int))]) Yc6 Yc7 (Y42 rfl rfl) (.one rfl One.im rfl rfl (.one rfl (One.val rfl) rfl rfl (.one rfl (One.val rfl) rfl rfl (.one rfl (One.val rfl) rfl rfl .nil)))) rfl) ?_
    refine zw ?_
    refine dx fun b16 => ?_
    refine zw ?_
    exact ⟨(r2, b16, (sn b6 (p0.events.length : Int)), (sn b9 (p0.events.length : Int)), (sn b12 (p0.events.length : Int))), h, Y21.both (ns := [0, 0, 0, 1, 0]) rfl rfl⟩
   refine Y3n.h (ns := []) rfl rfl rfl (Y3b (k := kI64) (z := 0) Yab ze_2 (Y42 rfl rfl) rfl rfl (Y3x c10).1 (Y3x c10).2 (Y3y (by decide) c10) rfl) ?_
   rintro _ _ ⟨b12, rfl, rfl⟩
   refine OpsD.two ?_ ?_
   ·
    refine Y3n.h (ns := []) rfl rfl rfl (Y3b (k := Y9k) (z := []) Yc4 Yc5 (fun w F => Imps.cells (.cons (Imp.nil Y9j 3) .nil) (Y42 (cs := [cV s0]) rfl rfl w F)) rfl rfl (Y3x c4).1 (Y3x c4).2 (Y3y (by decide) c4) rfl) ?_
    rintro _ _ ⟨b6, rfl, rfl⟩
    refine OpsD.one ?_
    refine Y3n.h (ns := []) rfl rfl rfl (Y3b (k := Y9k) (z := []) Yc4 Yc5 (fun w F => Imps.cells (.cons (Imp.nil Y9j 3) .nil) (Y42 (cs := [cV s0]) rfl rfl w F)) rfl rfl (Y3x c7).1 (Y3x c7).2 (Y3y (by decide) c7) rfl) ?_
    rintro _ _ ⟨b9, rfl, rfl⟩
    refine OpsD.v rfl rfl (Y38 (ds := [cM kI64 1 r2, cV (sn b6 (p0.events.length : Int)), cV (sn b9 (p0.events.length : Int)), cV (sn b12 (p0.events.length : Int))]) Yc6 Yc7 (Y42 rfl rfl) (.one rfl One.im rfl rfl (.one rfl (One.val rfl) rfl rfl (.one rfl (One.val rfl) rfl rfl (.one rfl (One.val rfl) rfl rfl .nil)))) rfl) ?_
    refine zw ?_
    refine dx fun b17 => ?_
    refine zw ?_
    exact ⟨(r2, b17, (sn b6 (p0.events.length : Int)), (sn b9 (p0.events.length : Int)), (sn b12 (p0.events.length : Int))), h, Y21.both (ns := [0, 0, 1, 0, 0]) rfl rfl⟩
   refine Y3n.h (ns := []) rfl rfl rfl (Y3b (k := Y9k) (z := []) Yc4 Yc5 (fun w F => Imps.cells (.cons (Imp.nil Y9j 3) .nil) (Y42 (cs := [cV s0]) rfl rfl w F)) rfl rfl (Y3x c7).1 (Y3x c7).2 (Y3y (by decide) c7) rfl) ?_
   rintro _ _ ⟨b9, rfl, rfl⟩
   refine OpsD.one ?_
   refine Y3n.h (ns := []) rfl rfl rfl (Y3b (k := Y9k) (z := []) Yc4 Yc5 (fun w F => Imps.cells (.cons (Imp.nil Y9j 3) .nil) (Y42 (cs := [cV s0]) rfl rfl w F)) rfl rfl (Y3x c4).1 (Y3x c4).2 (Y3y (by decide) c4) rfl) ?_
   rintro _ _ ⟨b6, rfl, rfl⟩
   refine OpsD.v rfl rfl (Y38 (ds := [cM kI64 1 r2, cV (sn b6 (p0.events.length : Int)), cV (sn b9 (p0.events.length : Int)), cV (sn b12 (p0.events.length : Int))]) Yc6 Yc7 (Y42 rfl rfl) (.one rfl One.im rfl rfl (.one rfl (One.val rfl) rfl rfl (.one rfl (One.val rfl) rfl rfl (.one rfl (One.val rfl) rfl rfl .nil)))) rfl) ?_
   refine zw ?_
   refine dx fun b18 => ?_
   refine zw ?_
   exact ⟨(r2, b18, (sn b6 (p0.events.length : Int)), (sn b9 (p0.events.length : Int)), (sn b12 (p0.events.length : Int))), h, Y21.both (ns := [0, 0, 0, 0, 0]) rfl rfl⟩
  ·
   refine Y3n.h (ns := []) rfl rfl rfl (Y3b (k := Y9k) (z := []) Yc4 Yc5 (fun w F => Imps.cells (.cons (Imp.nil Y9j 3) .nil) (Y42 (cs := [cV s0]) rfl rfl w F)) rfl rfl (Y3x c4).1 (Y3x c4).2 (Y3y (by decide) c4) rfl) ?_
   rintro _ _ ⟨b6, rfl, rfl⟩
   refine OpsD.three ?_ ?_ ?_
   ·
    refine Y3n.h (ns := []) rfl rfl rfl (Y24 ((Z2l' _).h _ g3) rfl rfl) ?_
    rintro _ _ ⟨rfl, rfl⟩
    refine OpsD.two ?_ ?_
    ·
     refine Y3n.h (ns := []) rfl rfl rfl (Y3b (k := Y9k) (z := []) Yc4 Yc5 (fun w F => Imps.cells (.cons (Imp.nil Y9j 3) .nil) (Y42 (cs := [cV s0]) rfl rfl w F)) rfl rfl (Y3x c7).1 (Y3x c7).2 (Y3y (by decide) c7) rfl) ?_
     rintro _ _ ⟨b9, rfl, rfl⟩
     refine OpsD.one ?_
     refine Y3n.h (ns := []) rfl rfl rfl (Y3b (k := kI64) (z := 0) Yab ze_2 (Y42 rfl rfl) rfl rfl (Y3x c10).1 (Y3x c10).2 (Y3y (by decide) c10) rfl) ?_
     rintro _ _ ⟨b12, rfl, rfl⟩
     refine OpsD.v rfl rfl (Y38 (ds := [cM kI64 1 r2, cV (sn b6 (p0.events.length : Int)), cV (sn b9 (p0.events.length : Int)), cV (sn b12 (p0.events.length : Int))]) Yc6 Yc7 (Y42 rfl rfl) (.one rfl One.im rfl rfl (.one rfl (One.val rfl) rfl rfl (.one rfl (One.val rfl) rfl rfl (.one rfl (One.val rfl) rfl rfl .nil)))) rfl) ?_
     refine zw ?_
     refine dx fun b19 => ?_
     refine zw ?_
     exact ⟨(r2, b19, (sn b6 (p0.events.length : Int)), (sn b9 (p0.events.length : Int)), (sn b12 (p0.events.length : Int))), h, Y21.both (ns := [0, 0, 2, 1, 0]) rfl rfl⟩
    refine Y3n.h (ns := []) rfl rfl rfl (Y3b (k := kI64) (z := 0) Yab ze_2 (Y42 rfl rfl) rfl rfl (Y3x c10).1 (Y3x c10).2 (Y3y (by decide) c10) rfl) ?_
    rintro _ _ ⟨b12, rfl, rfl⟩
    refine OpsD.one ?_
    refine Y3n.h (ns := []) rfl rfl rfl (Y3b (k := Y9k) (z := []) Yc4 Yc5 (fun w F => Imps.cells (.cons (Imp.nil Y9j 3) .nil) (Y42 (cs := [cV s0]) rfl rfl w F)) rfl rfl (Y3x c7).1 (Y3x c7).2 (Y3y (by decide) c7) rfl) ?_
    rintro _ _ ⟨b9, rfl, rfl⟩
    refine OpsD.v rfl rfl (Y38 (ds := [cM kI64 1 r2, cV (sn b6 (p0.events.length : Int)), cV (sn b9 (p0.events.length : Int)), cV (sn b12 (p0.events.length : Int))]) Yc6 Yc7 (Y42 rfl rfl) (.one rfl One.im rfl rfl (.one rfl (One.val rfl) rfl rfl (.one rfl (One.val rfl) rfl rfl (.one rfl (One.val rfl) rfl rfl .nil)))) rfl) ?_
    refine zw ?_
    refine dx fun b20 => ?_
    refine zw ?_
    exact ⟨(r2, b20, (sn b6 (p0.events.length : Int)), (sn b9 (p0.events.length : Int)), (sn b12 (p0.events.length : Int))), h, Y21.both (ns := [0, 0, 2, 0, 0]) rfl rfl⟩
   ·
    refine Y3n.h (ns := []) rfl rfl rfl (Y3b (k := Y9k) (z := []) Yc4 Yc5 (fun w F => Imps.cells (.cons (Imp.nil Y9j 3) .nil) (Y42 (cs := [cV s0]) rfl rfl w F)) rfl rfl (Y3x c7).1 (Y3x c7).2 (Y3y (by decide) c7) rfl) ?_
    rintro _ _ ⟨b9, rfl, rfl⟩
    refine OpsD.two ?_ ?_
    ·
     refine Y3n.h (ns := []) rfl rfl rfl (Y24 ((Z2l' _).h _ g3) rfl rfl) ?_
     rintro _ _ ⟨rfl, rfl⟩
     refine OpsD.one ?_
     refine Y3n.h (ns := []) rfl rfl rfl (Y3b (k := kI64) (z := 0) Yab ze_2 (Y42 rfl rfl) rfl rfl (Y3x c10).1 (Y3x c10).2 (Y3y (by decide) c10) rfl) ?_
     rintro _ _ ⟨b12, rfl, rfl⟩
     refine OpsD.v rfl rfl (Y38 (ds := [cM kI64 1 r2, cV (sn b6 (p0.events.length : Int)), cV (sn b9 (p0.events.length : Int)), cV (sn b12 (p0.events.length : Int))]) Yc6 Yc7 (Y42 rfl rfl) (.one rfl One.im rfl rfl (.one rfl (One.val rfl) rfl rfl (.one rfl (One.val rfl) rfl rfl (.one rfl (One.val rfl) rfl rfl .nil)))) rfl) ?_
     refine zw ?_
     refine dx fun b21 => ?_
     refine zw ?_
     exact ⟨(r2, b21, (sn b6 (p0.events.length : Int)), (sn b9 (p0.events.length : Int)), (sn b12 (p0.events.length : Int))), h, Y21.both (ns := [0, 0, 2, 1, 0]) rfl rfl⟩
    refine Y3n.h (ns := []) rfl rfl rfl (Y3b (k := kI64) (z := 0) Yab ze_2 (Y42 rfl rfl) rfl rfl (Y3x c10).1 (Y3x c10).2 (Y3y (by decide) c10) rfl) ?_
    rintro _ _ ⟨b12, rfl, rfl⟩
    refine OpsD.one ?_
    refine Y3n.h (ns := []) rfl rfl rfl (Y24 ((Z2l' _).h _ g3) rfl rfl) ?_
    rintro _ _ ⟨rfl, rfl⟩
    refine OpsD.v rfl rfl (Y38 (ds := [cM kI64 1 r2, cV (sn b6 (p0.events.length : Int)), cV (sn b9 (p0.events.length : Int)), cV (sn b12 (p0.events.length : Int))]) Yc6 Yc7 (Y42 rfl rfl) (.one rfl One.im rfl rfl (.one rfl (One.val rfl) rfl rfl (.one rfl (One.val rfl) rfl rfl (.one rfl (One.val rfl) rfl rfl .nil)))) rfl) ?_
    refine zw ?_
    refine dx fun b22 => ?_
    refine zw ?_
    exact ⟨(r2, b22, (sn b6 (p0.events.length : Int)), (sn b9 (p0.events.length : Int)), (sn b12 (p0.events.length : Int))), h, Y21.both (ns := [0, 0, 2, 1, 0]) rfl rfl⟩
   refine Y3n.h (ns := []) rfl rfl rfl (Y3b (k := kI64) (z := 0) Yab ze_2 (Y42 rfl rfl) rfl rfl (Y3x c10).1 (Y3x c10).2 (Y3y (by decide) c10) rfl) ?_
   rintro _ _ ⟨b12, rfl, rfl⟩
   refine OpsD.two ?_ ?_
   ·
    refine Y3n.h (ns := []) rfl rfl rfl (Y24 ((Z2l' _).h _ g3) rfl rfl) ?_
    rintro _ _ ⟨rfl, rfl⟩
    refine OpsD.one ?_
    refine Y3n.h (ns := []) rfl rfl rfl (Y3b (k := Y9k) (z := []) Yc4 Yc5 (fun w F => Imps.cells (.cons (Imp.nil Y9j 3) .nil) (Y42 (cs := [cV s0]) rfl rfl w F)) rfl rfl (Y3x c7).1 (Y3x c7).2 (Y3y (by decide) c7) rfl) ?_
    rintro _ _ ⟨b9, rfl, rfl⟩
    refine OpsD.v rfl rfl (Y38 (ds := [cM kI64 1 r2, cV (sn b6 (p0.events.length : Int)), cV (sn b9 (p0.events.length : Int)), cV (sn b12 (p0.events.length : Int))]) Yc6 Yc7 (Y42 rfl rfl) (.one rfl One.im rfl rfl (.one rfl (One.val rfl) rfl rfl (.one rfl (One.val rfl) rfl rfl (.one rfl (One.val rfl) rfl rfl .nil)))) rfl) ?_
    refine zw ?_
    refine dx fun b23 => ?_
    refine zw ?_
    exact ⟨(r2, b23, (sn b6 (p0.events.length : Int)), (sn b9 (p0.events.length : Int)), (sn b12 (p0.events.length : Int))), h, Y21.both (ns := [0, 0, 2, 0, 0]) rfl rfl⟩
   refine Y3n.h (ns := []) rfl rfl rfl (Y3b (k := Y9k) (z := []) Yc4 Yc5 (fun w F => Imps.cells (.cons (Imp.nil Y9j 3) .nil) (Y42 (cs := [cV s0]) rfl rfl w F)) rfl rfl (Y3x c7).1 (Y3x c7).2 (Y3y (by decide) c7) rfl) ?_
   rintro _ _ ⟨b9, rfl, rfl⟩
   refine OpsD.one ?_
   refine Y3n.h (ns := []) rfl rfl rfl (Y24 ((Z2l' _).h _ g3) rfl rfl) ?_
   rintro _ _ ⟨rfl, rfl⟩
   refine OpsD.v rfl rfl (Y38 (ds := [cM kI64 1 r2, cV (sn b6 (p0.events.length : Int)), cV (sn b9 (p0.events.length : Int)), cV (sn b12 (p0.events.length : Int))]) Yc6 Yc7 (Y42 rfl rfl) (.one rfl One.im rfl rfl (.one rfl (One.val rfl) rfl rfl (.one rfl (One.val rfl) rfl rfl (.one rfl (One.val rfl) rfl rfl .nil)))) rfl) ?_
   refine zw ?_
   refine dx fun b24 => ?_
   refine zw ?_
   exact ⟨(r2, b24, (sn b6 (p0.events.length : Int)), (sn b9 (p0.events.length : Int)), (sn b12 (p0.events.length : Int))), h, Y21.both (ns := [0, 0, 2, 0, 0]) rfl rfl⟩
  ·
   refine Y3n.h (ns := []) rfl rfl rfl (Y3b (k := Y9k) (z := []) Yc4 Yc5 (fun w F => Imps.cells (.cons (Imp.nil Y9j 3) .nil) (Y42 (cs := [cV s0]) rfl rfl w F)) rfl rfl (Y3x c7).1 (Y3x c7).2 (Y3y (by decide) c7) rfl) ?_
   rintro _ _ ⟨b9, rfl, rfl⟩
   refine OpsD.three ?_ ?_ ?_
   ·
    refine Y3n.h (ns := []) rfl rfl rfl (Y24 ((Z2l' _).h _ g3) rfl rfl) ?_
    rintro _ _ ⟨rfl, rfl⟩
    refine OpsD.two ?_ ?_
    ·
     refine Y3n.h (ns := []) rfl rfl rfl (Y3b (k := Y9k) (z := []) Yc4 Yc5 (fun w F => Imps.cells (.cons (Imp.nil Y9j 3) .nil) (Y42 (cs := [cV s0]) rfl rfl w F)) rfl rfl (Y3x c4).1 (Y3x c4).2 (Y3y (by decide) c4) rfl) ?_
     rintro _ _ ⟨b6, rfl, rfl⟩
     refine OpsD.one ?_
     refine Y3n.h (ns := []) rfl rfl rfl (Y3b (k := kI64) (z := 0) Yab ze_2 (Y42 rfl rfl) rfl rfl (Y3x c10).1 (Y3x c10).2 (Y3y (by decide) c10) rfl) ?_
     rintro _ _ ⟨b12, rfl, rfl⟩
     refine OpsD.v rfl rfl (Y38 (ds := [cM kI64 1 r2, cV (sn b6 (p0.events.length : Int)), cV (sn b9 (p0.events.length : Int)), cV (sn b12 (p0.events.length : Int))]) Yc6 Yc7 (Y42 rfl rfl) (.one rfl One.im rfl rfl (.one rfl (One.val rfl) rfl rfl (.one rfl (One.val rfl) rfl rfl (.one rfl (One.val rfl) rfl rfl .nil)))) rfl) ?_
     refine zw ?_
     refine dx fun b25 => ?_
     refine zw ?_
     exact ⟨(r2, b25, (sn b6 (p0.events.length : Int)), (sn b9 (p0.events.length : Int)), (sn b12 (p0.events.length : Int))), h, Y21.both (ns := [0, 0, 1, 1, 0]) rfl rfl⟩
    refine Y3n.h (ns := []) rfl rfl rfl (Y3b (k := kI64) (z := 0) Yab ze_2 (Y42 rfl rfl) rfl rfl (Y3x c10).1 (Y3x c10).2 (Y3y (by decide) c10) rfl) ?_
    rintro _ _ ⟨b12, rfl, rfl⟩
    refine OpsD.one ?_
    refine Y3n.h (ns := []) rfl rfl rfl (Y3b (k := Y9k) (z := []) Yc4 Yc5 (fun w F => Imps.cells (.cons (Imp.nil Y9j 3) .nil) (Y42 (cs := [cV s0]) rfl rfl w F)) rfl rfl (Y3x c4).1 (Y3x c4).2 (Y3y (by decide) c4) rfl) ?_
    rintro _ _ ⟨b6, rfl, rfl⟩
    refine OpsD.v rfl rfl (Y38 (ds := [cM kI64 1 r2, cV (sn b6 (p0.events.length : Int)), cV (sn b9 (p0.events.length : Int)), cV (sn b12 (p0.events.length : Int))]) Yc6 Yc7 (Y42 rfl rfl) (.one rfl One.im rfl rfl (.one rfl (One.val rfl) rfl rfl (.one rfl (One.val rfl) rfl rfl (.one rfl (One.val rfl) rfl rfl .nil)))) rfl) ?_
    refine zw ?_
    refine dx fun b26 => ?_
    refine zw ?_
    exact ⟨(r2, b26, (sn b6 (p0.events.length : Int)), (sn b9 (p0.events.length : Int)), (sn b12 (p0.events.length : Int))), h, Y21.both (ns := [0, 0, 0, 1, 0]) rfl rfl⟩
   ·
    refine Y3n.h (ns := []) rfl rfl rfl (Y3b (k := Y9k) (z := []) Yc4 Yc5 (fun w F => Imps.cells (.cons (Imp.nil Y9j 3) .nil) (Y42 (cs := [cV s0]) rfl rfl w F)) rfl rfl (Y3x c4).1 (Y3x c4).2 (Y3y (by decide) c4) rfl) ?_
    rintro _ _ ⟨b6, rfl, rfl⟩
    refine OpsD.two ?_ ?_
    ·
     refine Y3n.h (ns := []) rfl rfl rfl (Y24 ((Z2l' _).h _ g3) rfl rfl) ?_
     rintro _ _ ⟨rfl, rfl⟩
     refine OpsD.one ?_
     refine Y3n.h (ns := []) rfl rfl rfl (Y3b (k := kI64) (z := 0) Yab ze_2 (Y42 rfl rfl) rfl rfl (Y3x c10).1 (Y3x c10).2 (Y3y (by decide) c10) rfl) ?_
     rintro _ _ ⟨b12, rfl, rfl⟩
     refine OpsD.v rfl rfl (Y38 (ds := [cM kI64 1 r2, cV (sn b6 (p0.events.length : Int)), cV (sn b9 (p0.events.length : Int)), cV (sn b12 (p0.events.length : Int))]) Yc6 Yc7 (Y42 rfl rfl) (.one rfl One.im rfl rfl (.one rfl (One.val rfl) rfl rfl (.one rfl (One.val rfl) rfl rfl (.one rfl (One.val rfl) rfl rfl .nil)))) rfl) ?_
     refine zw ?_
     refine dx fun b27 => ?_
     refine zw ?_
     exact ⟨(r2, b27, (sn b6 (p0.events.length : Int)), (sn b9 (p0.events.length : Int)), (sn b12 (p0.events.length : Int))), h, Y21.both (ns := [0, 0, 1, 1, 0]) rfl rfl⟩
    refine Y3n.h (ns := []) rfl rfl rfl (Y3b (k := kI64) (z := 0) Yab ze_2 (Y42 rfl rfl) rfl rfl (Y3x c10).1 (Y3x c10).2 (Y3y (by decide) c10) rfl) ?_
    rintro _ _ ⟨b12, rfl, rfl⟩
    refine OpsD.one ?_
    refine Y3n.h (ns := []) rfl rfl rfl (Y24 ((Z2l' _).h _ g3) rfl rfl) ?_
    rintro _ _ ⟨rfl, rfl⟩
    refine OpsD.v rfl rfl (Y38 (ds := [cM kI64 1 r2, cV (sn b6 (p0.events.length : Int)), cV (sn b9 (p0.events.length : Int)), cV (sn b12 (p0.events.length : Int))]) Yc6 Yc7 (Y42 rfl rfl) (.one rfl One.im rfl rfl (.one rfl (One.val rfl) rfl rfl (.one rfl (One.val rfl) rfl rfl (.one rfl (One.val rfl) rfl rfl .nil)))) rfl) ?_
    refine zw ?_
    refine dx fun b28 => ?_
    refine zw ?_
    exact ⟨(r2, b28, (sn b6 (p0.events.length : Int)), (sn b9 (p0.events.length : Int)), (sn b12 (p0.events.length : Int))), h, Y21.both (ns := [0, 0, 1, 1, 0]) rfl rfl⟩
   refine Y3n.h (ns := []) rfl rfl rfl (Y3b (k := kI64) (z := 0) Yab ze_2 (Y42 rfl rfl) rfl rfl (Y3x c10).1 (Y3x c10).2 (Y3y (by decide) c10) rfl) ?_
   rintro _ _ ⟨b12, rfl, rfl⟩
   refine OpsD.two ?_ ?_
   ·
    refine Y3n.h (ns := []) rfl rfl rfl (Y24 ((Z2l' _).h _ g3) rfl rfl) ?_
    rintro _ _ ⟨rfl, rfl⟩
    refine OpsD.one ?_
    refine Y3n.h (ns := []) rfl rfl rfl (Y3b (k := Y9k) (z := []) Yc4 Yc5 (fun w F => Imps.cells (.cons (Imp.nil Y9j 3) .nil) (Y42 (cs := [cV s0]) rfl rfl w F)) rfl rfl (Y3x c4).1 (Y3x c4).2 (Y3y (by decide) c4) rfl) ?_
    rintro _ _ ⟨b6, rfl, rfl⟩
    refine OpsD.v rfl rfl (Y38 (ds := [cM kI64 1 r2, cV (sn b6 (p0.events.length : Int)), cV (sn b9 (p0.events.length : Int)), cV (sn b12 (p0.events.length : Int))]) Yc6 Yc7 (Y42 rfl rfl) (.one rfl One.im rfl rfl (.one rfl (One.val rfl) rfl rfl (.one rfl (One.val rfl) rfl rfl (.one rfl (One.val rfl) rfl rfl .nil)))) rfl) ?_
    refine zw ?_
    refine dx fun b29 => ?_
    refine zw ?_
    exact ⟨(r2, b29, (sn b6 (p0.events.length : Int)), (sn b9 (p0.events.length : Int)), (sn b12 (p0.events.length : Int))), h, Y21.both (ns := [0, 0, 0, 1, 0]) rfl rfl⟩
   refine Y3n.h (ns := []) rfl rfl rfl (Y3b (k := Y9k) (z := []) Yc4 Yc5 (fun w F => Imps.cells (.cons (Imp.nil Y9j 3) .nil) (Y42 (cs := [cV s0]) rfl rfl w F)) rfl rfl (Y3x c4).1 (Y3x c4).2 (Y3y (by decide) c4) rfl) ?_
   rintro _ _ ⟨b6, rfl, rfl⟩
   refine OpsD.one ?_
   refine Y3n.h (ns := []) rfl rfl rfl (Y24 ((Z2l' _).h _ g3) rfl rfl) ?_
   rintro _ _ ⟨rfl, rfl⟩
   refine OpsD.v rfl rfl (Y38 (ds := [cM kI64 1 r2, cV (sn b6 (p0.events.length : Int)), cV (sn b9 (p0.events.length : Int)), cV (sn b12 (p0.events.length : Int))]) Yc6 Yc7 (Y42 rfl rfl) (.one rfl One.im rfl rfl (.one rfl (One.val rfl) rfl rfl (.one rfl (One.val rfl) rfl rfl (.one rfl (One.val rfl) rfl rfl .nil)))) rfl) ?_
   refine zw ?_
   refine dx fun b30 => ?_
   refine zw ?_
   exact ⟨(r2, b30, (sn b6 (p0.events.length : Int)), (sn b9 (p0.events.length : Int)), (sn b12 (p0.events.length : Int))), h, Y21.both (ns := [0, 0, 0, 1, 0]) rfl rfl⟩
  refine Y3n.h (ns := []) rfl rfl rfl (Y3b (k := kI64) (z := 0) Yab ze_2 (Y42 rfl rfl) rfl rfl (Y3x c10).1 (Y3x c10).2 (Y3y (by decide) c10) rfl) ?_
  rintro _ _ ⟨b12, rfl, rfl⟩
  refine OpsD.three ?_ ?_ ?_
  ·
   refine Y3n.h (ns := []) rfl rfl rfl (Y24 ((Z2l' _).h _ g3) rfl rfl) ?_
   rintro _ _ ⟨rfl, rfl⟩
   refine OpsD.two ?_ ?_
   ·
    refine Y3n.h (ns := []) rfl rfl rfl (Y3b (k := Y9k) (z := []) Yc4 Yc5 (fun w F => Imps.cells (.cons (Imp.nil Y9j 3) .nil) (Y42 (cs := [cV s0]) rfl rfl w F)) rfl rfl (Y3x c4).1 (Y3x c4).2 (Y3y (by decide) c4) rfl) ?_
    rintro _ _ ⟨b6, rfl, rfl⟩
    refine OpsD.one ?_
    refine Y3n.h (ns := []) rfl rfl rfl (Y3b (k := Y9k) (z := []) Yc4 Yc5 (fun w F => Imps.cells (.cons (Imp.nil Y9j 3) .nil) (Y42 (cs := [cV s0]) rfl rfl w F)) rfl rfl (Y3x c7).1 (Y3x c7).2 (Y3y (by decide) c7) rfl) ?_
    rintro _ _ ⟨b9, rfl, rfl⟩
    refine OpsD.v rfl rfl (Y38 (ds := [cM kI64 1 r2, cV (sn b6 (p0.events.length : Int)), cV (sn b9 (p0.events.length : Int)), cV (sn b12 (p0.events.length : Int))]) Yc6 Yc7 (Y42 rfl rfl) (.one rfl One.im rfl rfl (.one rfl (One.val rfl) rfl rfl (.one rfl (One.val rfl) rfl rfl (.one rfl (One.val rfl) rfl rfl .nil)))) rfl) ?_
    refine zw ?_
    refine dx fun b31 => ?_
    refine zw ?_
    exact ⟨(r2, b31, (sn b6 (p0.events.length : Int)), (sn b9 (p0.events.length : Int)), (sn b12 (p0.events.length : Int))), h, Y21.both (ns := [0, 0, 1, 0, 0]) rfl rfl⟩
   refine Y3n.h (ns := []) rfl rfl rfl (Y3b (k := Y9k) (z := []) Yc4 Yc5 (fun w F => Imps.cells (.cons (Imp.nil Y9j 3) .nil) (Y42 (cs := [cV s0]) rfl rfl w F)) rfl rfl (Y3x c7).1 (Y3x c7).2 (Y3y (by decide) c7) rfl) ?_
   rintro _ _ ⟨b9, rfl, rfl⟩
   refine OpsD.one ?_
   refine Y3n.h (ns := []) rfl rfl rfl (Y3b (k := Y9k) (z := []) Yc4 Yc5 (fun w F => Imps.cells (.cons (Imp.nil Y9j 3) .nil) (Y42 (cs := [cV s0]) rfl rfl w F)) rfl rfl (Y3x c4).1 (Y3x c4).2 (Y3y (by decide) c4) rfl) ?_
   rintro _ _ ⟨b6, rfl, rfl⟩
   refine OpsD.v rfl rfl (Y38 (ds := [cM kI64 1 r2, cV (sn b6 (p0.events.length : Int)), cV (sn b9 (p0.events.length : Int)), cV (sn b12 (p0.events.length : Int))]) Yc6 Yc7 (Y42 rfl rfl) (.one rfl One.im rfl rfl (.one rfl (One.val rfl) rfl rfl (.one rfl (One.val rfl) rfl rfl (.one rfl (One.val rfl) rfl rfl .nil)))) rfl) ?_
   refine zw ?_
   refine dx fun b32 => ?_
   refine zw ?_
   exact ⟨(r2, b32, (sn b6 (p0.events.length : Int)), (sn b9 (p0.events.length : Int)), (sn b12 (p0.events.length : Int))), h, Y21.both (ns := [0, 0, 0, 0, 0]) rfl rfl⟩
  ·
   refine Y3n.h (ns := []) rfl rfl rfl (Y3b (k := Y9k) (z := []) Yc4 Yc5 (fun w F => Imps.cells (.cons (Imp.nil Y9j 3) .nil) (Y42 (cs := [cV s0]) rfl rfl w F)) rfl rfl (Y3x c4).1 (Y3x c4).2 (Y3y (by decide) c4) rfl) ?_
   rintro _ _ ⟨b6, rfl, rfl⟩
   refine OpsD.two ?_ ?_
   ·
    refine Y3n.h (ns := []) rfl rfl rfl (Y24 ((Z2l' _).h _ g3) rfl rfl) ?_
    rintro _ _ ⟨rfl, rfl⟩
    refine OpsD.one ?_
    refine Y3n.h (ns := []) rfl rfl rfl (Y3b (k := Y9k) (z := []) Yc4 Yc5 (fun w F => Imps.cells (.cons (Imp.nil Y9j 3) .nil) (Y42 (cs := [cV s0]) rfl rfl w F)) rfl rfl (Y3x c7).1 (Y3x c7).2 (Y3y (by decide) c7) rfl) ?_
    rintro _ _ ⟨b9, rfl, rfl⟩
    refine OpsD.v rfl rfl (Y38 (ds := [cM kI64 1 r2, cV (sn b6 (p0.events.length : Int)), cV (sn b9 (p0.events.length : Int)), cV (sn b12 (p0.events.length : Int))]) Yc6 Yc7 (Y42 rfl rfl) (.one rfl One.im rfl rfl (.one rfl (One.val rfl) rfl rfl (.one rfl (One.val rfl) rfl rfl (.one rfl (One.val rfl) rfl rfl .nil)))) rfl) ?_
    refine zw ?_
    refine dx fun b33 => ?_
    refine zw ?_
    exact ⟨(r2, b33, (sn b6 (p0.events.length : Int)), (sn b9 (p0.events.length : Int)), (sn b12 (p0.events.length : Int))), h, Y21.both (ns := [0, 0, 1, 0, 0]) rfl rfl⟩
   refine Y3n.h (ns := []) rfl rfl rfl (Y3b (k := Y9k) (z := []) Yc4 Yc5 (fun w F => Imps.cells (.cons (Imp.nil Y9j 3) .nil) (Y42 (cs := [cV s0]) rfl rfl w F)) rfl rfl (Y3x c7).1 (Y3x c7).2 (Y3y (by decide) c7) rfl) ?_
   rintro _ _ ⟨b9, rfl, rfl⟩
   refine OpsD.one ?_
   refine Y3n.h (ns := []) rfl rfl rfl (Y24 ((Z2l' _).h _ g3) rfl rfl) ?_
   rintro _ _ ⟨rfl, rfl⟩
   refine OpsD.v rfl rfl (Y38 (ds := [cM kI64 1 r2, cV (sn b6 (p0.events.length : Int)), cV (sn b9 (p0.events.length : Int)), cV (sn b12 (p0.events.length : Int))]) Yc6 Yc7 (Y42 rfl rfl) (.one rfl One.im rfl rfl (.one rfl (One.val rfl) rfl rfl (.one rfl (One.val rfl) rfl rfl (.one rfl (One.val rfl) rfl rfl .nil)))) rfl) ?_
   refine zw ?_
   refine dx fun b34 => ?_
   refine zw ?_
   exact ⟨(r2, b34, (sn b6 (p0.events.length : Int)), (sn b9 (p0.events.length : Int)), (sn b12 (p0.events.length : Int))), h, Y21.both (ns := [0, 0, 1, 0, 0]) rfl rfl⟩
  refine Y3n.h (ns := []) rfl rfl rfl (Y3b (k := Y9k) (z := []) Yc4 Yc5 (fun w F => Imps.cells (.cons (Imp.nil Y9j 3) .nil) (Y42 (cs := [cV s0]) rfl rfl w F)) rfl rfl (Y3x c7).1 (Y3x c7).2 (Y3y (by decide) c7) rfl) ?_
  rintro _ _ ⟨b9, rfl, rfl⟩
  refine OpsD.two ?_ ?_
  ·
   refine Y3n.h (ns := []) rfl rfl rfl (Y24 ((Z2l' _).h _ g3) rfl rfl) ?_
   rintro _ _ ⟨rfl, rfl⟩
   refine OpsD.one ?_
   refine Y3n.h (ns := []) rfl rfl rfl (Y3b (k := Y9k) (z := []) Yc4 Yc5 (fun w F => Imps.cells (.cons (Imp.nil Y9j 3) .nil) (Y42 (cs := [cV s0]) rfl rfl w F)) rfl rfl (Y3x c4).1 (Y3x c4).2 (Y3y (by decide) c4) rfl) ?_
   rintro _ _ ⟨b6, rfl, rfl⟩
   refine OpsD.v rfl rfl (Y38 (ds := [cM kI64 1 r2, cV (sn b6 (p0.events.length : Int)), cV (sn b9 (p0.events.length : Int)), cV (sn b12 (p0.events.length : Int))]) Yc6 Yc7 (Y42 rfl rfl) (.one rfl One.im rfl rfl (.one rfl (One.val rfl) rfl rfl (.one rfl (One.val rfl) rfl rfl (.one rfl (One.val rfl) rfl rfl .nil)))) rfl) ?_
   refine zw ?_
   refine dx fun b35 => ?_
   refine zw ?_
   exact ⟨(r2, b35, (sn b6 (p0.events.length : Int)), (sn b9 (p0.events.length : Int)), (sn b12 (p0.events.length : Int))), h, Y21.both (ns := [0, 0, 0, 0, 0]) rfl rfl⟩
  refine Y3n.h (ns := []) rfl rfl rfl (Y3b (k := Y9k) (z := []) Yc4 Yc5 (fun w F => Imps.cells (.cons (Imp.nil Y9j 3) .nil) (Y42 (cs := [cV s0]) rfl rfl w F)) rfl rfl (Y3x c4).1 (Y3x c4).2 (Y3y (by decide) c4) rfl) ?_
  rintro _ _ ⟨b6, rfl, rfl⟩
  refine OpsD.one ?_
  refine Y3n.h (ns := []) rfl rfl rfl (Y24 ((Z2l' _).h _ g3) rfl rfl) ?_
  rintro _ _ ⟨rfl, rfl⟩
  refine OpsD.v rfl rfl (Y38 (ds := [cM kI64 1 r2, cV (sn b6 (p0.events.length : Int)), cV (sn b9 (p0.events.length : Int)), cV (sn b12 (p0.events.length : Int))]) Yc6 Yc7 (Y42 rfl rfl) (.one rfl One.im rfl rfl (.one rfl (One.val rfl) rfl rfl (.one rfl (One.val rfl) rfl rfl (.one rfl (One.val rfl) rfl rfl .nil)))) rfl) ?_
  refine zw ?_
  refine dx fun b36 => ?_
  refine zw ?_
  exact ⟨(r2, b36, (sn b6 (p0.events.length : Int)), (sn b9 (p0.events.length : Int)), (sn b12 (p0.events.length : Int))), h, Y21.both (ns := [0, 0, 0, 0, 0]) rfl rfl⟩
 rintro ⟨l38, b37, v39, v40, v41⟩ h
 replace h : Z5n p0 l38 = some r := h
 unfold Z5n at h
 refine zw ?_
 refine oc h fun r42 g43 h => ?_
 refine Ops.v rfl (Yr rfl rfl) ?_
 refine Ops.nil ?_
 refine AW.seq ?_
 refine AW.cut (τ := List (List Y94) × List (List Y94) × List Int) (fun (l260, l261, l262) => ⟨[(4, pt b37)], [oB b37 215 [cM kI64 1 l38, cV v39, cV v40, cV v41], oA v39 27 Y9k 1 l260, oA v40 27 Y9k 1 l261, oA v41 2 kI64 1 l262]⟩) (fun (l260, l261, l262) => Z5f l38 l260 l261 l262 = some r) ?_ ?_
 ·
  refine zw ?_
  refine AW.lp (v := ()) h (fun (l149, l150, l151, x152) (_ : Unit) => ⟨[(1, pt b1), (3, cI (p0.events.length : Int)), (4, pt b37), (5, cM kI64 1 r42), (6, cI x152)], [oB b1 139 [cI p0.room, cM Y9b 9 p0.events, cM Y9b 9 p0.parked], oB b37 215 [cM kI64 1 l38, cV v39, cV v40, cV v41], oA v39 27 Y9k 1 l149, oA v40 27 Y9k 1 l150, oA v41 2 kI64 1 l151]⟩) (gb [0, 0, 0, 0, 0]) ?_
  rintro ⟨l149, l150, l151, x152⟩ _ y278 h
  refine zw ?_
  refine cnd h (fun hb153 h => ?_) fun hb153 h => ?_
  ·
   refine AW.ct hb153 rfl ?_
   refine AW.skip ?_
   refine AW.seq ?_
   refine AW.cut (τ := List (List Y94) × List (List Y94) × List Int) (fun (l257, l258, l259) => ⟨[(1, pt b1), (3, cI (p0.events.length : Int)), (4, pt b37), (5, cM kI64 1 r42), (6, cI x152)], [oB b1 139 [cI p0.room, cM Y9b 9 p0.events, cM Y9b 9 p0.parked], oB b37 215 [cM kI64 1 l38, cV v39, cV v40, cV v41], oA v39 27 Y9k 1 l257, oA v40 27 Y9k 1 l258, oA v41 2 kI64 1 l259]⟩) (fun (l257, l258, l259) => Z5g x152 l257 l258 l259 = some y278) ?_ ?_
   ·
    refine zw ?_
    refine rD [0,0,0,0,0] [1,5] [] [0,5,8,12,16,21,26,28] ?_
    refine zw ?_
    refine di h fun e154 g155 h => ?_
    refine zw ?_
    refine dc h fun r156 g157 h => ?_
    refine zw ?_
    refine oi h fun e158 g159 h => ?_
    refine zw ?_
    refine Ops.h (ns := []) rfl rfl (Y1p (cs := [cI 0, cI 0, cI 0, cI 0, cI 0, cI 0, C.str ByteArray.empty, cV s0, cI 0]) Yac (Y42 rfl rfl) rfl) ?_
    rintro _ _ ⟨b160, rfl, rfl⟩
    refine Ops.hd (ns := [0]) rfl rfl (Y1u (gs := [cI e158.id, cI e158.room, cI e158.author, cI e158.kind, cI e158.key, cI e158.n, C.str e158.text, cM kI64 1 e158.prev, cI e158.time]) Yat.h rfl rfl rfl rfl rfl) ?_
    refine zw ?_
    refine Ops.h (ns := []) rfl rfl (Y39 (k := Y9k) (ys := ([] : List (List Y94))) Yc4 .nil rfl rfl rfl) ?_
    rintro _ _ ⟨b161, rfl, rfl⟩
    refine Ops.v rfl (Yr rfl rfl) ?_
    refine Ops.nil ?_
    refine AW.seq ?_
    refine AW.cut (τ := List (List Y94) × Value) (fun (l214, v213) => ⟨[(1, pt b1), (3, cI (p0.events.length : Int)), (4, pt b37), (5, cM kI64 1 r42), (6, cI x152), (7, cI r156), (8, pt b160), (9, cV v213)], [oB b1 139 [cI p0.room, cM Y9b 9 p0.events, cM Y9b 9 p0.parked], oB b37 215 [cM kI64 1 l38, cV v39, cV v40, cV v41], oA v39 27 Y9k 1 l149, oA v40 27 Y9k 1 l150, oA v41 2 kI64 1 l151, oB b160 136 [cI e158.id, cI e158.room, cI e158.author, cI e158.kind, cI e158.key, cI e158.n, C.str e158.text, cM kI64 1 e158.prev, cI e158.time], oA v213 27 Y9k 1 l214]⟩) (fun (l214, v213) => Z5k p0 l38 l149 l150 l151 x152 r156 e158 l214 = some y278) ?_ ?_
    ·
     refine zw ?_
     refine AW.lp h (fun (l187, x188) (v186 : Value) => ⟨[(1, pt b1), (3, cI (p0.events.length : Int)), (4, pt b37), (5, cM kI64 1 r42), (6, cI x152), (7, cI r156), (8, pt b160), (9, cV v186), (10, cI x188)], [oB b1 139 [cI p0.room, cM Y9b 9 p0.events, cM Y9b 9 p0.parked], oB b37 215 [cM kI64 1 l38, cV v39, cV v40, cV v41], oA v39 27 Y9k 1 l149, oA v40 27 Y9k 1 l150, oA v41 2 kI64 1 l151, oB b160 136 [cI e158.id, cI e158.room, cI e158.author, cI e158.kind, cI e158.key, cI e158.n, C.str e158.text, cM kI64 1 e158.prev, cI e158.time], oA v186 27 Y9k 1 l187]⟩) (gb [2, 2, 2, 2, 2, 1, 0]) ?_
     rintro ⟨l187, x188⟩ v186 y285 h
     refine AW.seq ?_
     refine AW.seq ?_
     refine AW.region ?_
     refine Ops.v rfl (Yq rfl rfl) ?_
     refine Ops.v rfl (Y1b Yaq.h rfl rfl) ?_
     refine Ops.v rfl (Y1k (p := 5) Y9y.h rfl rfl rfl rfl) ?_
     refine zw ?_
     refine cnd h (fun hb189 h => ?_) fun hb189 h => ?_
     ·
      refine AW.ct hb189 rfl ?_
      refine zw ?_
      refine rD [0,0,0,0,0,0] [4,6,8,11,14] [] [0,4,8,12,17,20,25,28,33,36,40,45,50,52,57,62,66,68] ?_
      refine OpsD.v rfl rfl (Yq rfl rfl) ?_
      refine OpsD.v rfl rfl (Yq rfl rfl) ?_
      refine OpsD.v rfl rfl (Y14 rfl rfl) ?_
      refine OpsD.v rfl rfl (Y1b Yc8.h rfl rfl) ?_
      refine OpsD.v rfl rfl (Y1k (p := 1) Yc9.h rfl rfl rfl rfl) ?_
      refine OpsD.v rfl rfl (Y1b Yb1.h rfl rfl) ?_
      refine OpsD.v rfl rfl (Y1k (p := 0) Yb2.h rfl rfl rfl rfl) ?_
      refine OpsD.v rfl rfl (Y1b Yaq.h rfl rfl) ?_
      refine OpsD.v rfl rfl (Y1k (p := 5) Y9y.h rfl rfl rfl rfl) ?_
      refine zw ?_
      refine di h fun e203 g204 h => ?_
      refine zw ?_
      refine dc h fun r205 g206 h => ?_
      refine ob' h fun e207 g208 h => ?_
      refine OpsD.v rfl rfl (Y2x (p := 3) Ybr.h rfl rfl rfl g208 rfl) ?_
      refine OpsD.v rfl rfl (Y30 (p := 3) Ybs.h rfl rfl (Y29 g208).2.2 rfl rfl) ?_
      refine OpsD.one ?_
      refine Y3n.h (ns := []) rfl rfl rfl (Y39 (k := Y9k) (ys := [e207]) Yc4 (.one rfl One.im rfl rfl .nil) rfl rfl rfl) ?_
      rintro _ _ ⟨b209, rfl, rfl⟩
      refine zw ?_
      refine ob' h fun u211 c210 h => ?_
      refine Y3n.h (ns := [1, 0]) rfl rfl rfl (Y2s Yc4 rfl rfl (Wo (Y3t c210)) (Y3w (by decide) c210) rfl) ?_
      rintro _ _ ⟨v212, rfl, rfl⟩
      refine zw ?_
      exact le h (gb [0, 0, 0, 0, 0, 0, 0])
     refine AW.cf hb189 rfl ?_
     refine AW.exit ?_
     refine lx h fun h => ?_
     exact ⟨(l187, v186), h, Y21.both (ns := [0, 0, 0, 0, 0, 0, 0]) rfl rfl⟩
    rintro ⟨l214, v213⟩ h
    replace h : Z5k p0 l38 l149 l150 l151 x152 r156 e158 l214 = some y278 := h
    unfold Z5k at h
    refine zw ?_
    refine rD [0,0,0,0,0,0] [3,5,9] [13] [0,4,8,13,16,21,24,28,32,37,40,46,48,55] ?_
    refine zw ?_
    refine ob' h fun r220 g221 h => ?_
    refine Y3n.h (ns := [0]) rfl rfl rfl (Y24 (Ok.freezeL (Ok.lend (Z55 p0 l38 l214 _ g221) (fT (fT (FrzT.cons (os := [_]) Frz.arr (FrzT.nil)))) (by rintro _ _ ⟨_, rfl, rfl⟩; exact ⟨(Y44.val _), Y48 (Y46.arr Yby) (Y47)⟩)) (by rintro c qs ⟨v222, rfl, rfl⟩; exact Frz.arr)) rfl rfl) ?_
    rintro _ _ ⟨rfl, rfl⟩
    refine ob' h fun e223 g224 h => ?_
    refine OpsD.v rfl rfl (Y2x (p := 2) Ybr.h rfl rfl rfl g224 rfl) ?_
    refine OpsD.late (ns := [2]) rfl rfl rfl (Y33 (e' := r220) Ybs.h rfl rfl One.im (Y29 g224).2.2 rfl rfl) ?_
    rintro _ _ ⟨rfl, rfl⟩
    refine zw ?_
    refine rD [0,0,0,0,0,0,0] [3,5,9,12,13] [16] [0,4,8,13,16,21,24,28,32,37,40,44,49,53,58,60,67] ?_
    refine zw ?_
    refine di h fun e225 g226 h => ?_
    refine OpsD.v rfl rfl (Y30 (p := 0) Ybs.h rfl rfl (Y29 g226).2.2 rfl rfl) ?_
    refine OpsD.v rfl rfl (Y1l (p := 5) (ds := [cI e158.id, cI e158.room, cI e158.author, cI e158.kind, cI e158.key, cI e158.n, C.str e158.text, cM kI64 1 e158.prev, cI e158.time]) Yat.h rfl rfl rfl rfl rfl) ?_
    refine zw ?_
    refine dc h fun r227 g228 h => ?_
    refine ob' h fun e229 g230 h => ?_
    refine OpsD.v rfl rfl (Y2x (p := 4) Y9v.h rfl rfl rfl g230 rfl) ?_
    refine OpsD.late (ns := [4]) rfl rfl rfl (Y33 (e' := r227) ld_2.h rfl rfl (One.val rfl) (Y29 g230).2.2 rfl rfl) ?_
    rintro _ _ ⟨rfl, rfl⟩
    refine OpsD.done ?_
    refine AW.seq ?_
    refine AW.cut (τ := List Int) (fun l241 => ⟨[(1, pt b1), (3, cI (p0.events.length : Int)), (4, pt b37), (5, cM kI64 1 r42), (6, cI x152), (7, cI r156), (8, pt b160)], [oB b1 139 [cI p0.room, cM Y9b 9 p0.events, cM Y9b 9 p0.parked], oB b37 215 [cM kI64 1 l38, cV v39, cV v40, cV v41], oA v39 27 Y9k 1 (List.set l149 (Int.toNat r156) r220), oA v40 27 Y9k 1 l150, oA v41 2 kI64 1 l241, oB b160 136 [cI e158.id, cI e158.room, cI e158.author, cI e158.kind, cI e158.key, cI e158.n, C.str e158.text, cM kI64 1 e158.prev, cI e158.time]]⟩) (fun l241 => Z5i l149 l150 x152 r156 e158 r220 e225 l241 = some y278) ?_ ?_
    ·
     refine AW.seq ?_
     refine AW.cut (τ := Bool) (fun x237 => ⟨[(1, pt b1), (3, cI (p0.events.length : Int)), (4, pt b37), (5, cM kI64 1 r42), (6, cI x152), (7, cI r156), (8, pt b160), (119, C.bool x237)], [oB b1 139 [cI p0.room, cM Y9b 9 p0.events, cM Y9b 9 p0.parked], oB b37 215 [cM kI64 1 l38, cV v39, cV v40, cV v41], oA v39 27 Y9k 1 (List.set l149 (Int.toNat r156) r220), oA v40 27 Y9k 1 l150, oA v41 2 kI64 1 (List.set l151 (Int.toNat r156) r227), oB b160 136 [cI e158.id, cI e158.room, cI e158.author, cI e158.kind, cI e158.key, cI e158.n, C.str e158.text, cM kI64 1 e158.prev, cI e158.time]]⟩) (fun x237 => Z5j l149 l150 l151 x152 r156 e158 r220 e225 r227 x237 = some y278) ?_ ?_
     ·
      refine zw ?_
      refine oi h fun e231 g232 h => ?_
      refine Ops.v rfl (Y30 (p := 0) ld_2.h rfl rfl (Y29 g232).2.2 rfl rfl) ?_
      refine zw ?_
      refine cnd h (fun hb233 h => ?_) fun hb233 h => ?_
      ·
       refine Ops.gv rfl rfl rfl rfl hb233 (Y1b Yak.h rfl rfl) ?_
       refine Ops.gv rfl rfl rfl rfl hb233 (Y1k (p := 5) ld_2.h rfl rfl rfl rfl) ?_
       refine zw ?_
       refine cnd h (fun hb234 h => ?_) fun hb234 h => ?_
       ·
        refine Ops.gv rfl rfl rfl rfl hb234 (Y1l (p := 2) (ds := [cI p0.room, cM Y9b 9 p0.events, cM Y9b 9 p0.parked]) Yb4.h rfl rfl rfl rfl rfl) ?_
        refine Ops.gv rfl rfl rfl rfl hb234 (Y1b Yam.h rfl rfl) ?_
        refine Ops.gv rfl rfl rfl rfl hb234 (Y1k (p := 5) ld_2.h rfl rfl rfl rfl) ?_
        refine Ops.gv rfl rfl rfl rfl hb234 (Y1b Yae.h rfl rfl) ?_
        refine Ops.gv rfl rfl rfl rfl hb234 (Y1k (p := 5) ld_2.h rfl rfl rfl rfl) ?_
        refine ob' h fun r235 g236 h => ?_
        refine Ops.ghd (ns := []) rfl rfl rfl rfl hb234 rfl (Y24 ((Z5e _ _ _).h _ g236) rfl rfl) ?_
        refine zw ?_
        exact ⟨(!r235), h, Y21.both (ns := [2, 2, 1, 1, 0, 0]) rfl rfl⟩
       refine zw ?_
       exact ⟨false, h, Y21.both (ns := [2, 2, 1, 1, 0, 0]) rfl rfl⟩
      refine zw ?_
      exact ⟨false, h, Y21.both (ns := [2, 2, 1, 1, 0, 0]) rfl rfl⟩
     intro x237 h
     replace h : Z5j l149 l150 l151 x152 r156 e158 r220 e225 r227 x237 = some y278 := h
     unfold Z5j at h
     refine cnd h (fun hb238 h => ?_) fun hb238 h => ?_
     ·
      refine AW.ct hb238 rfl ?_
      refine zw ?_
      refine ob' h fun e239 g240 h => ?_
      refine Ops.v rfl (Y2x (p := 4) Y9v.h rfl rfl rfl g240 rfl) ?_
      refine Ops.hd (ns := [4]) rfl rfl (Y33 (e' := 6) ld_2.h rfl rfl (One.val rfl) (Y29 g240).2.2 rfl rfl) ?_
      refine zw ?_
      exact ⟨(List.set (List.set l151 (Int.toNat r156) r227) (Int.toNat r156) 6), h, Y21.both (ns := [1, 1, 1, 1, 0, 0]) rfl rfl⟩
     refine AW.cf hb238 rfl ?_
     refine zw ?_
     exact ⟨(List.set l151 (Int.toNat r156) r227), h, Y21.both (ns := [0, 0, 0, 0, 0, 0]) rfl rfl⟩
    intro l241 h
    replace h : Z5i l149 l150 x152 r156 e158 r220 e225 l241 = some y278 := h
    unfold Z5i at h
    refine zw ?_
    refine rD [0,0,0,0,0,0] [3,9,12] [15] [0,4,8,13,16,24,28,32,37,40,44,49,22,54,56,63] ?_
    refine OpsD.v rfl rfl (Yq rfl rfl) ?_
    refine OpsD.v rfl rfl (Y14 rfl rfl) ?_
    refine OpsD.v rfl rfl (Y1b Yc8.h rfl rfl) ?_
    refine OpsD.v rfl rfl (Y1k (p := 1) Yc9.h rfl rfl rfl rfl) ?_
    refine OpsD.v rfl rfl (Yq rfl rfl) ?_
    refine OpsD.v rfl rfl (Yq rfl rfl) ?_
    refine OpsD.v rfl rfl (Y14 rfl rfl) ?_
    refine OpsD.v rfl rfl (Y1b Yca.h rfl rfl) ?_
    refine OpsD.v rfl rfl (Y1k (p := 1) Yc9.h rfl rfl rfl rfl) ?_
    refine OpsD.v rfl rfl (Yq rfl rfl) ?_
    refine OpsD.v rfl rfl (Y2x (p := 2) Ybr.h rfl rfl rfl g226 rfl) ?_
    refine OpsD.v rfl rfl (Y30 (p := 2) Ybs.h rfl rfl (Y29 g226).2.2 rfl rfl) ?_
    refine OpsD.one ?_
    refine Y3n.h (ns := []) rfl rfl rfl (Y39 (k := Y9j) (ys := ([] : List Y94)) Ybt .nil rfl rfl rfl) ?_
    rintro _ _ ⟨b242, rfl, rfl⟩
    refine zw ?_
    refine ob' h fun u244 c243 h => ?_
    refine Y3n.h (ns := [0]) rfl rfl rfl (Y2r Ybt rfl rfl (Wo (Y3t c243)) (Y3w (by decide) c243) rfl) ?_
    rintro _ _ ⟨v245, rfl, rfl⟩
    refine ob' h fun e246 g247 h => ?_
    refine OpsD.v rfl rfl (Y2x (p := 3) Ybr.h rfl rfl rfl g247 rfl) ?_
    refine OpsD.late (ns := [6, 3]) rfl rfl rfl (HOp.frz (t := 139) rfl Frz.arr (Y33 (e' := (([] : List Y94) ++ e225)) Ybs.h rfl rfl One.im (Y29 g247).2.2 rfl rfl)) ?_
    rintro _ _ ⟨rfl, rfl⟩
    refine OpsD.done ?_
    refine AW.seq ?_
    refine AW.cut (τ := Bool) (fun x251 => ⟨[(1, pt b1), (3, cI (p0.events.length : Int)), (4, pt b37), (5, cM kI64 1 r42), (6, cI x152), (7, cI r156), (8, pt b160), (153, C.bool x251)], [oB b1 139 [cI p0.room, cM Y9b 9 p0.events, cM Y9b 9 p0.parked], oB b37 215 [cM kI64 1 l38, cV v39, cV v40, cV v41], oA v39 27 Y9k 1 (List.set l149 (Int.toNat r156) r220), oA v40 27 Y9k 1 (List.set l150 (Int.toNat r156) (([] : List Y94) ++ e225)), oA v41 2 kI64 1 l241, oB b160 136 [cI e158.id, cI e158.room, cI e158.author, cI e158.kind, cI e158.key, cI e158.n, C.str e158.text, cM kI64 1 e158.prev, cI e158.time]]⟩) (fun x251 => Z5h l149 l150 x152 r156 e158 r220 e225 l241 x251 = some y278) ?_ ?_
    ·
     refine zw ?_
     refine ob' h fun e248 g249 h => ?_
     refine Ops.v rfl (Y2x (p := 4) Y9v.h rfl rfl rfl g249 rfl) ?_
     refine Ops.v rfl (Y30 (p := 4) ld_2.h rfl rfl (Y29 g249).2.2 rfl rfl) ?_
     refine zw ?_
     refine cnd h (fun hb250 h => ?_) fun hb250 h => ?_
     ·
      refine Ops.gv rfl rfl rfl rfl hb250 (Y1b Yak.h rfl rfl) ?_
      refine Ops.gv rfl rfl rfl rfl hb250 (Y1k (p := 5) ld_2.h rfl rfl rfl rfl) ?_
      refine zw ?_
      exact ⟨decide (e158.kind ≤ 6), h, Y21.both (ns := [1, 1, 1, 0, 0, 0]) rfl rfl⟩
     refine zw ?_
     exact ⟨false, h, Y21.both (ns := [1, 1, 1, 0, 0, 0]) rfl rfl⟩
    intro x251 h
    replace h : Z5h l149 l150 x152 r156 e158 r220 e225 l241 x251 = some y278 := h
    unfold Z5h at h
    refine cnd h (fun hb252 h => ?_) fun hb252 h => ?_
    ·
     refine AW.ct hb252 rfl ?_
     refine rD [0,0,0,0,0,0] [3,8,11,13,15,17] [21] [0,4,8,13,16,20,24,28,33,36,40,45,48,53,56,61,64,69,72,78,80,87] ?_
     refine OpsD.v rfl rfl (Yq rfl rfl) ?_
     refine OpsD.v rfl rfl (Y14 rfl rfl) ?_
     refine OpsD.v rfl rfl (Y1b Yc8.h rfl rfl) ?_
     refine OpsD.v rfl rfl (Y1k (p := 1) Yc9.h rfl rfl rfl rfl) ?_
     refine OpsD.v rfl rfl (Yq rfl rfl) ?_
     refine OpsD.v rfl rfl (Yq rfl rfl) ?_
     refine OpsD.v rfl rfl (Y14 rfl rfl) ?_
     refine OpsD.v rfl rfl (Y1b Yca.h rfl rfl) ?_
     refine OpsD.v rfl rfl (Y1k (p := 1) Yc9.h rfl rfl rfl rfl) ?_
     refine OpsD.v rfl rfl (Yq rfl rfl) ?_
     refine OpsD.v rfl rfl (Y2x (p := 2) Ybr.h rfl rfl rfl g226 rfl) ?_
     refine OpsD.v rfl rfl (Y30 (p := 2) Ybs.h rfl rfl (Y29 g226).2.2 rfl rfl) ?_
     refine OpsD.v rfl rfl (Y1b Yak.h rfl rfl) ?_
     refine OpsD.v rfl rfl (Y1k (p := 5) ld_2.h rfl rfl rfl rfl) ?_
     refine OpsD.v rfl rfl (Y1b Yam.h rfl rfl) ?_
     refine OpsD.v rfl rfl (Y1k (p := 5) ld_2.h rfl rfl rfl rfl) ?_
     refine OpsD.v rfl rfl (Y1b Yae.h rfl rfl) ?_
     refine OpsD.v rfl rfl (Y1k (p := 5) ld_2.h rfl rfl rfl rfl) ?_
     refine OpsD.v rfl rfl (Y38 (ds := [cI e158.kind, cI e158.key, cI e158.id]) Ybz Yc0 (Y42 rfl rfl) (.one rfl (One.val rfl) rfl rfl (.one rfl (One.val rfl) rfl rfl (.one rfl (One.val rfl) rfl rfl .nil))) rfl) ?_
     refine zw ?_
     refine dc h fun r253 g254 h => ?_
     refine ob' h fun e255 g256 h => ?_
     refine OpsD.v rfl rfl (Y2x (p := 3) Ybr.h rfl rfl rfl g256 rfl) ?_
     refine OpsD.late (ns := [3]) rfl rfl rfl (Y33 (e' := r253) Ybs.h rfl rfl One.im (Y29 g256).2.2 rfl rfl) ?_
     rintro _ _ ⟨rfl, rfl⟩
     refine zw ?_
     exact ⟨((List.set l149 (Int.toNat r156) r220), (List.set (List.set l150 (Int.toNat r156) (([] : List Y94) ++ e225)) (Int.toNat r156) r253), l241), h, Y21.both (ns := [1, 1, 1, 0, 0]) rfl rfl⟩
    refine AW.cf hb252 rfl ?_
    refine zw ?_
    exact ⟨((List.set l149 (Int.toNat r156) r220), (List.set l150 (Int.toNat r156) (([] : List Y94) ++ e225)), l241), h, Y21.both (ns := [0, 0, 0, 0, 0]) rfl rfl⟩
   rintro ⟨l257, l258, l259⟩ h
   replace h : Z5g x152 l257 l258 l259 = some y278 := h
   unfold Z5g at h
   refine zw ?_
   exact lu h (gb [0, 0, 0, 0, 0])
  refine AW.cf hb153 rfl ?_
  refine AW.exit ?_
  refine lx h fun h => ?_
  exact ⟨(l149, l150, l151), h, Y21.both (ns := [1, 1, 1, 1]) rfl rfl⟩
 rintro ⟨l260, l261, l262⟩ h
 replace h : Z5f l38 l260 l261 l262 = some r := h
 unfold Z5f at h
 refine zw ?_
 refine AW.ret ?_
 rw [← Wj h]
 exact ⟨[pt b37], _, Y21.refl _, (.cons (.tmp rfl) .nil), [0, 0, 0, 0], _, _, rfl, ⟨b37, v39, v40, v41, rfl, rfl⟩⟩
instance Z5p' (p0 : Y92) : Sp Tryz.prog 179 [C.agg [cI p0.room, cM Y9b 9 p0.events, cM Y9b 9 p0.parked]] (Z5o p0) (fun r => C.ip [cM kI64 1 r.depths, cM Y9k 1 r.ahead, cM Y9k 1 r.behind, cM kI64 1 r.code]) := ⟨fun r h => Ok.freeze (Z5p p0 r h) (by rintro c qs ⟨b263, v264, v265, v266, rfl, rfl⟩; exact Frz.box (fS (FrzL.cons (os := [_]) (Frz.arr) (FrzL.cons (os := [_]) (Frz.arr) (FrzL.cons (os := [_]) (Frz.arr) (FrzL.nil))))))⟩

end Go.Proofs.YtbgichfjcnibpaaGreat
