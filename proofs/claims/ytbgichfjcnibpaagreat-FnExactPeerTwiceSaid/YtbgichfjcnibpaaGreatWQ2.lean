/- Printed by gen.py: plain functions for Go functions, and that the walks keep to them. -/
import Derived.Test.YtbgichfjcnibpaaGreatWQ1
set_option autoImplicit false
set_option linter.unusedVariables false
set_option linter.unusedSimpArgs false
set_option maxHeartbeats 1000000
set_option maxRecDepth 100000
namespace Go.Proofs.YtbgichfjcnibpaaGreat
open Go Go.Abs
attribute [local irreducible] AW Ops OpsD Y3n
def Z3k (l69 : List Int) : Option (List Int) := some l69
def Z3l (x37 : Int) (l67 : List Int) : Option ((List Int × Int) ⊕ ((List Int))) := some (.inl (l67, (IntKind.i64.wrap (x37 + 1))))
def Z3m (x53 : Int) (l65 : List Int) : Option ((List Int × Int) ⊕ ((List Int))) := some (.inl (l65, (IntKind.i64.wrap (x53 + 1))))
def Z3n (p0 : Y90) (r2 : List Int) (x37 : Int) (l52 : List Int) (x53 : Int) : Option ((List Int × Int) ⊕ ((List Int))) := cond (decide (x53 < (p0.events.length : Int))) ((getI r2 x53).bind fun e55 => cond (e55 == x37) ((getI p0.events x53).bind fun e58 => (chk (decide ((l52.length + [e58.id].length) * 8 ≤ 140737488355328))).bind fun u62 => Z3m x53 (l52 ++ [e58.id])) (Z3m x53 l52)) (some (.inr l52))
def Z3o (p0 : Y90) (r2 : List Int) (l36 : List Int) (x37 : Int) : Option ((List Int × Int) ⊕ ((List Int))) := cond (decide ((l36.length : Int) < (p0.events.length : Int))) ((iter (fun z71 => Z3n p0 r2 x37 z71.1 z71.2) big (l36, 0)).bind fun y72 => Z3l x37 y72) (some (.inr l36))
def Z3p (p0 : Y90) : Option (List Int) := (Z38 p0.events).bind fun r2 => (iter (fun z73 => Z3o p0 r2 z73.1 z73.2) big (([] : List Int), 1)).bind fun y74 => Z3k y74
theorem Z3q (p0 : Y90) (r : List Int) (h : Z3p p0 = some r) : Ok Tryz.prog 227 [C.agg [cI p0.room, cM Y99 9 p0.events, cM Y99 9 p0.parked]] [] (fun c qs => ∃ (v70 : Value), c = cV v70 ∧ qs = [oA v70 2 kI64 1 r]) := by
 refine Ok.of_body (rs := [.tmp 2]) Tryz.func227 rfl rfl rfl rfl rfl fun X => ?_
 unfold Z3p at h
 refine zw ?_
 refine ox fun b1 => ?_
 refine zw ?_
 refine oc h fun r2 g3 h => ?_
 refine zw ?_
 refine Ops.h (ns := []) rfl rfl (Y39 (k := kI64) (ys := ([] : List Int)) Yak .nil rfl rfl rfl) ?_
 rintro _ _ ⟨b4, rfl, rfl⟩
 refine Ops.v rfl (Yr rfl rfl) ?_
 refine Ops.nil ?_
 refine AW.seq ?_
 refine AW.cut (τ := List Int × Value) (fun (l69, v68) => ⟨[(4, cV v68)], [oA v68 2 kI64 1 l69]⟩) (fun (l69, v68) => Z3k l69 = some r) ?_ ?_
 ·
  refine zw ?_
  refine AW.lp h (fun (l36, x37) (v35 : Value) => ⟨[(1, pt b1), (3, cM kI64 1 r2), (4, cV v35), (5, cI x37)], [oB b1 139 [cI p0.room, cM Y99 9 p0.events, cM Y99 9 p0.parked], oA v35 2 kI64 1 l36]⟩) (gb [1, 0]) ?_
  rintro ⟨l36, x37⟩ v35 y80 h
  refine zw ?_
  refine cnd h (fun hb38 h => ?_) fun hb38 h => ?_
  ·
   refine AW.ct hb38 rfl ?_
   refine zw ?_
   refine AW.lp h (fun (l52, x53) (v51 : Value) => ⟨[(1, pt b1), (3, cM kI64 1 r2), (4, cV v51), (5, cI x37), (6, cI x53)], [oB b1 139 [cI p0.room, cM Y99 9 p0.events, cM Y99 9 p0.parked], oA v51 2 kI64 1 l52]⟩) (gb [0, 0]) ?_
   rintro ⟨l52, x53⟩ v51 y87 h
   refine zw ?_
   refine cnd h (fun hb54 h => ?_) fun hb54 h => ?_
   ·
    refine AW.ct hb54 rfl ?_
    refine zw ?_
    refine oi h fun e55 g56 h => ?_
    refine zw ?_
    refine cnd h (fun hb57 h => ?_) fun hb57 h => ?_
    ·
     refine AW.ct hb57 rfl ?_
     refine zw ?_
     refine oi h fun e58 g59 h => ?_
     refine zw ?_
     refine Ops.h (ns := []) rfl rfl (Y39 (k := kI64) (ys := [e58.id]) Yak (.one rfl (One.val rfl) rfl rfl .nil) rfl rfl rfl) ?_
     rintro _ _ ⟨b60, rfl, rfl⟩
     refine ob' h fun u62 c61 h => ?_
     refine Ops.h (ns := [2, 0]) rfl rfl (Y2s Yak rfl rfl (Wo (Y3t c61)) (Y3w (by decide) c61) rfl) ?_
     rintro _ _ ⟨v63, rfl, rfl⟩
     exact go
    exact go
   exact go
  exact go
 rintro ⟨l69, v68⟩ h
 replace h : Z3k l69 = some r := h
 unfold Z3k at h
 refine zw ?_
 refine AW.ret ?_
 rw [← Wj h]
 exact ⟨[cV v68], _, Y21.refl _, (.cons (.tmp rfl) .nil), [0], _, _, rfl, ⟨v68, rfl, rfl⟩⟩
instance Z3q' (p0 : Y90) : Sp Tryz.prog 227 [C.agg [cI p0.room, cM Y99 9 p0.events, cM Y99 9 p0.parked]] (Z3p p0) (fun r => cM kI64 1 r) := ⟨fun r h => Ok.freeze (Z3q p0 r h) (by rintro c qs ⟨v70, rfl, rfl⟩; exact Frz.arr)⟩

def Z3r : Option Int := some 0
def Z3s (p0 : List Y93) (x9 : Int) (x14 : Bool) : Option (Int ⊕ (Int ⊕ Unit)) := cond x14 ((getI p0 x9).bind fun e16 => some (.inr (.inl e16.id))) (some (.inl (IntKind.i64.wrap (x9 + 1))))
def Z3t (p0 : List Y93) (p1 : Int) (p2 : Int) (x9 : Int) : Option (Int ⊕ (Int ⊕ Unit)) := cond (decide (x9 < (p0.length : Int))) ((getI p0 x9).bind fun e11 => cond (e11.kind == p1) (Z3s p0 x9 (e11.key == p2)) (Z3s p0 x9 false)) (some (.inr (.inr ())))
def Z3u (p0 : List Y93) (p1 : Int) (p2 : Int) : Option Int := (iter (Z3t p0 p1 p2) big 0).bind (fun z19 => match z19 with | .inl y18 => some y18 | .inr () => Z3r)
instance Z3v (p0 : List Y93) (p1 : Int) (p2 : Int) : Sp Tryz.prog 263 [cM Y9l 3 p0, cI p1, cI p2] (Z3u p0 p1 p2) cI := sp Tryz.func263 rfl rfl fun r X h => by
 unfold Z3u at h
 refine zw ?_
 refine AW.lp (v := ()) h (fun x9 (_ : Unit) => ⟨[(0, cM Y9l 3 p0), (1, cI p1), (2, cI p2), (7, cI x9)], []⟩) (gb []) ?_
 rintro x9 _ y25 h
 exact go

def Z3w : Option Bool := some true
def Z3x (p0 : List (List Y93)) (p1 : Y93) (x8 : Int) : Option (Int ⊕ (Bool ⊕ Unit)) := cond (decide (x8 < (p0.length : Int))) ((getI p0 x8).bind fun e10 => (Z3u e10 p1.kind p1.key).bind fun r12 => cond (r12 != p1.id) (some (.inr (.inl false))) (some (.inl (IntKind.i64.wrap (x8 + 1))))) (some (.inr (.inr ())))
def Z3y (p0 : List (List Y93)) (p1 : Y93) : Option Bool := (iter (Z3x p0 p1) big 0).bind (fun z16 => match z16 with | .inl y15 => some y15 | .inr () => Z3w)
instance Z3z (p0 : List (List Y93)) (p1 : Y93) : Sp Tryz.prog 231 [cM Y9m 1 p0, C.agg [cI p1.kind, cI p1.key, cI p1.id]] (Z3y p0 p1) C.bool := sp Tryz.func231 rfl rfl fun r X h => by
 unfold Z3y at h
 refine zw ?_
 refine ox fun b1 => ?_
 refine zw ?_
 refine AW.lp (v := ()) h (fun x8 (_ : Unit) => ⟨[(0, cM Y9m 1 p0), (3, pt b1), (5, cI x8)], [oB b1 106 [cI p1.kind, cI p1.key, cI p1.id]]⟩) (gb [0]) ?_
 rintro x8 _ y22 h
 refine zw ?_
 refine cnd h (fun hb9 h => ?_) fun hb9 h => ?_
 ·
  refine AW.ct hb9 rfl ?_
  refine zw ?_
  refine rD [0] [3,5,7,10] [] [0,4,8,13,16,21,24,29,36,41,34,44] ?_
  exact go
 exact go

def Z40 (l35 : List Y93) : Option (List Y93) := some l35
def Z41 (x19 : Int) (l33 : List Y93) : Option ((List Y93 × Int) ⊕ ((List Y93))) := some (.inl (l33, (IntKind.i64.wrap (x19 + 1))))
def Z42 (p0 : List Y93) (l18 : List Y93) (x19 : Int) (x24 : Bool) : Option ((List Y93 × Int) ⊕ ((List Y93))) := cond x24 ((getI p0 x19).bind fun e26 => (chk (decide ((l18.length + [e26].length) * 24 ≤ 140737488355328))).bind fun u30 => Z41 x19 (l18 ++ [e26])) (Z41 x19 l18)
def Z43 (p0 : List Y93) (p1 : Y93) (l18 : List Y93) (x19 : Int) : Option ((List Y93 × Int) ⊕ ((List Y93))) := cond (decide (x19 < (p0.length : Int))) ((getI p0 x19).bind fun e21 => cond (e21.kind != p1.kind) (Z42 p0 l18 x19 true) (Z42 p0 l18 x19 (e21.key != p1.key))) (some (.inr l18))
def Z44 (p0 : List Y93) (p1 : Y93) : Option (List Y93) := (iter (fun z37 => Z43 p0 p1 z37.1 z37.2) big (([] : List Y93), 0)).bind fun y38 => Z40 y38
theorem Z45 (p0 : List Y93) (p1 : Y93) (r : List Y93) (h : Z44 p0 p1 = some r) : Ok Tryz.prog 279 [cM Y9l 3 p0, C.agg [cI p1.kind, cI p1.key, cI p1.id]] [] (fun c qs => ∃ (v36 : Value), c = cV v36 ∧ qs = [oA v36 106 Y9l 3 r]) := by
 refine Ok.of_body (rs := [.tmp 4]) Tryz.func279 rfl rfl rfl rfl rfl fun X => ?_
 unfold Z44 at h
 refine zw ?_
 refine ox fun b1 => ?_
 refine zw ?_
 refine Ops.h (ns := []) rfl rfl (Y39 (k := Y9l) (ys := ([] : List Y93)) Ycv .nil rfl rfl rfl) ?_
 rintro _ _ ⟨b2, rfl, rfl⟩
 refine Ops.v rfl (Yr rfl rfl) ?_
 refine Ops.nil ?_
 refine AW.seq ?_
 refine AW.cut (τ := List Y93 × Value) (fun (l35, v34) => ⟨[(5, cV v34)], [oA v34 106 Y9l 3 l35]⟩) (fun (l35, v34) => Z40 l35 = some r) ?_ ?_
 ·
  refine zw ?_
  refine AW.lp h (fun (l18, x19) (v17 : Value) => ⟨[(0, cM Y9l 3 p0), (3, pt b1), (5, cV v17), (6, cI x19)], [oB b1 106 [cI p1.kind, cI p1.key, cI p1.id], oA v17 106 Y9l 3 l18]⟩) (gb [1, 0]) ?_
  rintro ⟨l18, x19⟩ v17 y44 h
  refine zw ?_
  refine cnd h (fun hb20 h => ?_) fun hb20 h => ?_
  ·
   refine AW.ct hb20 rfl ?_
   refine AW.skip ?_
   refine AW.seq ?_
   refine AW.block ?_
   refine AW.seq ?_
   refine AW.cut (τ := Bool) (fun x24 => ⟨[(0, cM Y9l 3 p0), (3, pt b1), (5, cV v17), (6, cI x19), (31, C.bool x24)], [oB b1 106 [cI p1.kind, cI p1.key, cI p1.id], oA v17 106 Y9l 3 l18]⟩) (fun x24 => Z42 p0 l18 x19 x24 = some y44) ?_ ?_
   ·
    refine rD [0,0] [4,6,13,15] [] [0,4,8,12,17,20,25,28,32,36,40,44,48,53,56,61,64,68] ?_
    exact go
   intro x24 h
   replace h : Z42 p0 l18 x19 x24 = some y44 := h
   unfold Z42 at h
   refine cnd h (fun hb25 h => ?_) fun hb25 h => ?_
   ·
    refine AW.ct hb25 rfl ?_
    refine zw ?_
    refine oi h fun e26 g27 h => ?_
    refine zw ?_
    refine Ops.h (ns := []) rfl rfl (Y39 (k := Y9l) (ys := [e26]) Ycv (.agg rfl rfl .nil) rfl rfl rfl) ?_
    rintro _ _ ⟨b28, rfl, rfl⟩
    refine ob' h fun u30 c29 h => ?_
    refine Ops.h (ns := [2, 0]) rfl rfl (Y2s Ycv rfl rfl (Wo (Y3t c29)) (Y3w (by decide) c29) rfl) ?_
    rintro _ _ ⟨v31, rfl, rfl⟩
    exact go
   exact go
  exact go
 rintro ⟨l35, v34⟩ h
 replace h : Z40 l35 = some r := h
 unfold Z40 at h
 refine zw ?_
 refine AW.ret ?_
 rw [← Wj h]
 exact ⟨[cV v34], _, Y21.refl _, (.cons (.tmp rfl) .nil), [0], _, _, rfl, ⟨v34, rfl, rfl⟩⟩
instance Z45' (p0 : List Y93) (p1 : Y93) : Sp Tryz.prog 279 [cM Y9l 3 p0, C.agg [cI p1.kind, cI p1.key, cI p1.id]] (Z44 p0 p1) (fun r => cM Y9l 3 r) := ⟨fun r h => Ok.freeze (Z45 p0 p1 r h) (by rintro c qs ⟨v36, rfl, rfl⟩; exact Frz.arr)⟩

def Z46 (x5 : Bool) : Option Bool := some x5
def Z47 (p0 : Y93) (p1 : Y93) : Option Bool := cond (decide (p0.kind < p1.kind)) (Z46 true) (cond (p0.kind == p1.kind) (Z46 (decide (p0.key < p1.key))) (Z46 false))
instance Z48 (p0 : Y93) (p1 : Y93) : Sp Tryz.prog 280 [C.agg [cI p0.kind, cI p0.key, cI p0.id], C.agg [cI p1.kind, cI p1.key, cI p1.id]] (Z47 p0 p1) C.bool := sp Tryz.func280 rfl rfl fun r X h => go

def Z49 (p1 : Y93) (r2 : List Y93) (x19 : Int) : Option (List Y93) := (Y28 r2 0 x19).bind fun s21 => (chk (decide ((([] : List Y93).length + s21.length) * 24 ≤ 140737488355328))).bind fun u24 => (chk (decide (((([] : List Y93) ++ s21).length + [p1].length) * 24 ≤ 140737488355328))).bind fun u28 => (Y28 r2 x19 (r2.length : Int)).bind fun s30 => (chk (decide ((((([] : List Y93) ++ s21) ++ [p1]).length + s30.length) * 24 ≤ 140737488355328))).bind fun u33 => some (((([] : List Y93) ++ s21) ++ [p1]) ++ s30)
def Z4a (x11 : Int) (x17 : Bool) : Option (Int ⊕ (Int)) := cond x17 (some (.inl (IntKind.i64.wrap (x11 + 1)))) (some (.inr x11))
def Z4b (p1 : Y93) (r2 : List Y93) (x11 : Int) : Option (Int ⊕ (Int)) := cond (decide (x11 < (r2.length : Int))) ((getI r2 x11).bind fun e13 => (Z47 e13 p1).bind fun r15 => Z4a x11 r15) (Z4a x11 false)
def Z4c (p0 : List Y93) (p1 : Y93) : Option (List Y93) := (Z44 p0 p1).bind fun r2 => (iter (Z4b p1 r2) big 0).bind fun y36 => Z49 p1 r2 y36
theorem Z4d (p0 : List Y93) (p1 : Y93) (r : List Y93) (h : Z4c p0 p1 = some r) : Ok Tryz.prog 230 [cM Y9l 3 p0, C.agg [cI p1.kind, cI p1.key, cI p1.id]] [] (fun c qs => ∃ (v35 : Value), c = cV v35 ∧ qs = [oA v35 106 Y9l 3 r]) := by
 refine Ok.of_body (rs := [.tmp 4]) Tryz.func230 rfl rfl rfl rfl rfl fun X => ?_
 unfold Z4c at h
 refine zw ?_
 refine ox fun b1 => ?_
 refine zw ?_
 refine oc h fun r2 g3 h => ?_
 refine Ops.v rfl (Yr rfl rfl) ?_
 refine Ops.nil ?_
 refine AW.seq ?_
 refine AW.region ?_
 refine Ops.v rfl (Yr rfl rfl) ?_
 refine Ops.nil ?_
 refine AW.seq ?_
 refine AW.cut (τ := Int) (fun x19 => ⟨[(3, pt b1), (5, cM Y9l 3 r2), (6, cI x19)], [oB b1 106 [cI p1.kind, cI p1.key, cI p1.id]]⟩) (fun x19 => Z49 p1 r2 x19 = some r) ?_ ?_
 ·
  refine zw ?_
  refine AW.lp (v := ()) h (fun x11 (_ : Unit) => ⟨[(3, pt b1), (5, cM Y9l 3 r2), (6, cI x11)], [oB b1 106 [cI p1.kind, cI p1.key, cI p1.id]]⟩) (gb [0]) ?_
  rintro x11 _ y42 h
  refine zw ?_
  refine rD [0] [8,9] [] [0,4,8,12,16,20,24,28,33,37,42,44] ?_
  refine zw ?_
  refine cnd h (fun hb12 h => ?_) fun hb12 h => ?_
  ·
   refine zw ?_
   refine ob' h fun e13 g14 h => ?_
   refine zw ?_
   refine ob' h fun r15 g16 h => ?_
   refine Y3n.gh (ns := []) rfl rfl rfl rfl rfl hb12 rfl (Y24 ((Z48 _ _).h _ g16) rfl rfl) ?_
   rintro _ _ ⟨rfl, rfl⟩
   exact go
  refine OpsD.gs rfl rfl rfl rfl (.b rfl hb12) rfl rfl ?_
  refine OpsD.gs rfl rfl rfl rfl (.b rfl hb12) rfl rfl ?_
  refine OpsD.gs rfl rfl rfl rfl (.b rfl hb12) rfl rfl ?_
  refine OpsD.gs rfl rfl rfl rfl (.b rfl hb12) rfl rfl ?_
  refine OpsD.gs rfl rfl rfl rfl (.b rfl hb12) rfl rfl ?_
  refine OpsD.one ?_
  refine Y3n.gs rfl rfl rfl rfl (.b rfl hb12) rfl rfl ?_
  exact go
 intro x19 h
 replace h : Z49 p1 r2 x19 = some r := h
 unfold Z49 at h
 refine zw ?_
 refine Ops.h (ns := []) rfl rfl (Y39 (k := Y9l) (ys := ([] : List Y93)) Ycv .nil rfl rfl rfl) ?_
 rintro _ _ ⟨b20, rfl, rfl⟩
 refine zw ?_
 refine ob' h fun s21 g22 h => ?_
 refine Ops.v rfl (Y2l Ycp.h rfl rfl g22 rfl) ?_
 refine ob' h fun u24 c23 h => ?_
 refine Ops.h (ns := [0]) rfl rfl (Y2r Ycv rfl rfl (Wo (Y3t c23)) (Y3w (by decide) c23) rfl) ?_
 rintro _ _ ⟨v25, rfl, rfl⟩
 refine zw ?_
 refine Ops.h (ns := []) rfl rfl (Y39 (k := Y9l) (ys := [p1]) Ycv (.agg rfl rfl .nil) rfl rfl rfl) ?_
 rintro _ _ ⟨b26, rfl, rfl⟩
 refine ob' h fun u28 c27 h => ?_
 refine Ops.h (ns := [1, 0]) rfl rfl (Y2s Ycv rfl rfl (Wo (Y3t c27)) (Y3w (by decide) c27) rfl) ?_
 rintro _ _ ⟨v29, rfl, rfl⟩
 refine zw ?_
 refine ob' h fun s30 g31 h => ?_
 refine Ops.v rfl (Y2k Ycp.h rfl rfl g31 rfl) ?_
 refine ob' h fun u33 c32 h => ?_
 refine Ops.h (ns := [0]) rfl rfl (Y2r Ycv rfl rfl (Wo (Y3t c32)) (Y3w (by decide) c32) rfl) ?_
 rintro _ _ ⟨v34, rfl, rfl⟩
 refine zw ?_
 refine AW.ret ?_
 rw [← Wj h]
 exact ⟨[cV v34], _, Y21.refl _, (.cons (.tmp rfl) .nil), [0], _, _, rfl, ⟨v34, rfl, rfl⟩⟩
instance Z4d' (p0 : List Y93) (p1 : Y93) : Sp Tryz.prog 230 [cM Y9l 3 p0, C.agg [cI p1.kind, cI p1.key, cI p1.id]] (Z4c p0 p1) (fun r => cM Y9l 3 r) := ⟨fun r h => Ok.freeze (Z4d p0 p1 r h) (by rintro c qs ⟨v35, rfl, rfl⟩; exact Frz.arr)⟩

def Z4e (p0 : List Int) (p1 : Int) (x12 : Int) (x16 : Bool) : Option (List Int) := cond x16 (some p0) ((Y28 p0 0 x12).bind fun s19 => (chk (decide ((([] : List Int).length + s19.length) * 8 ≤ 140737488355328))).bind fun u22 => (chk (decide (((([] : List Int) ++ s19).length + [p1].length) * 8 ≤ 140737488355328))).bind fun u26 => (Y28 p0 x12 (p0.length : Int)).bind fun s28 => (chk (decide ((((([] : List Int) ++ s19) ++ [p1]).length + s28.length) * 8 ≤ 140737488355328))).bind fun u31 => some (((([] : List Int) ++ s19) ++ [p1]) ++ s28))
def Z4f (p0 : List Int) (p1 : Int) (x12 : Int) : Option (List Int) := cond (decide (x12 < (p0.length : Int))) ((getI p0 x12).bind fun e14 => Z4e p0 p1 x12 (e14 == p1)) (Z4e p0 p1 x12 false)
def Z4g (x6 : Int) (x10 : Bool) : Option (Int ⊕ (Int)) := cond x10 (some (.inl (IntKind.i64.wrap (x6 + 1)))) (some (.inr x6))
def Z4h (p0 : List Int) (p1 : Int) (x6 : Int) : Option (Int ⊕ (Int)) := cond (decide (x6 < (p0.length : Int))) ((getI p0 x6).bind fun e8 => Z4g x6 (decide (e8 < p1))) (Z4g x6 false)
def Z4i (p0 : List Int) (p1 : Int) : Option (List Int) := (iter (Z4h p0 p1) big 0).bind fun y33 => Z4f p0 p1 y33
instance Z4j (p0 : List Int) (p1 : Int) : Sp Tryz.prog 232 [cM kI64 1 p0, cI p1] (Z4i p0 p1) (fun r => cM kI64 1 r) := sp Tryz.func232 rfl rfl fun r X h => by
 unfold Z4i at h
 refine AW.seq ?_
 refine AW.region ?_
 refine Ops.v rfl (Yr rfl rfl) ?_
 refine Ops.nil ?_
 refine AW.seq ?_
 refine AW.region ?_
 refine Ops.v rfl (Yr rfl rfl) ?_
 refine Ops.nil ?_
 refine AW.seq ?_
 refine AW.cut (τ := Int) (fun x12 => ⟨[(0, cM kI64 1 p0), (1, cI p1), (5, cI x12)], []⟩) (fun x12 => Z4f p0 p1 x12 = some r) ?_ ?_
 ·
  refine zw ?_
  refine AW.lp (v := ()) h (fun x6 (_ : Unit) => ⟨[(0, cM kI64 1 p0), (1, cI p1), (5, cI x6)], []⟩) (gb []) ?_
  rintro x6 _ y39 h
  exact go
 intro x12 h
 replace h : Z4f p0 p1 x12 = some r := h
 unfold Z4f at h
 refine AW.seq ?_
 refine AW.seq ?_
 refine AW.cut (τ := Bool) (fun x16 => ⟨[(0, cM kI64 1 p0), (1, cI p1), (5, cI x12), (32, C.bool x16)], []⟩) (fun x16 => Z4e p0 p1 x12 x16 = some r) go fun x16 h => ?_
 replace h : Z4e p0 p1 x12 x16 = some r := h
 unfold Z4e at h
 refine cnd h (fun hb17 h => go) fun hb17 h => ?_
 refine AW.cf hb17 rfl ?_
 refine zw ?_
 refine Ops.h (ns := []) rfl rfl (Y39 (k := kI64) (ys := ([] : List Int)) Yak .nil rfl rfl rfl) ?_
 rintro _ _ ⟨b18, rfl, rfl⟩
 refine zw ?_
 refine ob' h fun s19 g20 h => ?_
 refine Ops.v rfl (Y2l Y9v.h rfl rfl g20 rfl) ?_
 refine ob' h fun u22 c21 h => ?_
 refine Ops.h (ns := [0]) rfl rfl (Y2r Yak rfl rfl (Wo (Y3t c21)) (Y3w (by decide) c21) rfl) ?_
 rintro _ _ ⟨v23, rfl, rfl⟩
 refine zw ?_
 refine Ops.h (ns := []) rfl rfl (Y39 (k := kI64) (ys := [p1]) Yak (.one rfl (One.val rfl) rfl rfl .nil) rfl rfl rfl) ?_
 rintro _ _ ⟨b24, rfl, rfl⟩
 refine ob' h fun u26 c25 h => ?_
 refine Ops.h (ns := [1, 0]) rfl rfl (Y2s Yak rfl rfl (Wo (Y3t c25)) (Y3w (by decide) c25) rfl) ?_
 rintro _ _ ⟨v27, rfl, rfl⟩
 refine zw ?_
 refine ob' h fun s28 g29 h => ?_
 refine Ops.v rfl (Y2k Y9v.h rfl rfl g29 rfl) ?_
 refine ob' h fun u31 c30 h => ?_
 refine Ops.h (ns := [0]) rfl rfl (Y2r Yak rfl rfl (Wo (Y3t c30)) (Y3w (by decide) c30) rfl) ?_
 rintro _ _ ⟨v32, rfl, rfl⟩
 refine zw ?_
 refine AW.ret ?_
 rw [← Wj h]
 exact ⟨[cM kI64 1 (((([] : List Int) ++ s19) ++ [p1]) ++ s28)], _, Y21.freeze (p := 0) (t := 4) rfl rfl, (.cons (.tmp rfl) .nil), [], _, _, rfl, ⟨rfl, rfl⟩⟩

def Z4k (x6 : Bool) : Option Bool := some x6
def Z4l (p0 : Y8v) : Option Bool := cond (p0.kind == 1) (Z4k true) (cond (p0.kind == 3) (Z4k true) (cond (p0.kind == 5) (Z4k true) (cond (p0.kind == 2) (Z4k (p0.key != p0.author)) (Z4k false))))
instance Z4m (p0 : Y8v) : Sp Tryz.prog 281 [C.agg [cI p0.id, cI p0.room, cI p0.author, cI p0.kind, cI p0.key, cI p0.n, C.str p0.text, cM kI64 1 p0.prev, cI p0.time]] (Z4l p0) C.bool := sp Tryz.func281 rfl rfl fun r X h => go

def Z4n (p1 : List Int) (r2 : Int) (r4 : Int) (x13 : Int) (x14 : Int) (x15 : Int) (x16 : Int) (x17 : Int) (x18 : Int) (x19 : ByteArray) (l20 : List Int) (x21 : Int) (x23 : Int) (x24 : Int) (x25 : Int) (x26 : Int) (x27 : Int) (x28 : Int) (x29 : ByteArray) (l30 : List Int) (x31 : Int) : Option Bool := (Z4l (Y8v.mk x13 x14 x15 x16 x17 x18 x19 l20 x21)).bind fun r32 => (Z4l (Y8v.mk x23 x24 x25 x26 x27 x28 x29 l30 x31)).bind fun r34 => cond (r32 == r34) ((getI p1 r2).bind fun e37 => (getI p1 r4).bind fun e39 => cond (e37 != e39) (some (decide (e37 < e39))) (cond (x21 != x31) (some (decide (x21 < x31))) (some (decide (x13 < x23))))) ((Z4l (Y8v.mk x13 x14 x15 x16 x17 x18 x19 l20 x21)).bind fun r43 => some r43)
def Z4o (p0 : Y90) (p1 : List Int) (p2 : Int) (p3 : Int) : Option Bool := (Z2t p0.events p2).bind fun r2 => (Z2t p0.events p3).bind fun r4 => (getI p0.events r2).bind fun e6 => (getI p0.events r4).bind fun e8 => Z4n p1 r2 r4 e6.id e6.room e6.author e6.kind e6.key e6.n e6.text e6.prev e6.time e8.id e8.room e8.author e8.kind e8.key e8.n e8.text e8.prev e8.time
instance Z4p (p0 : Y90) (p1 : List Int) (p2 : Int) (p3 : Int) : Sp Tryz.prog 233 [C.agg [cI p0.room, cM Y99 9 p0.events, cM Y99 9 p0.parked], cM kI64 1 p1, cI p2, cI p3] (Z4o p0 p1 p2 p3) C.bool := sp Tryz.func233 rfl rfl fun r X h => by
 unfold Z4o at h
 refine zw ?_
 refine ox fun b1 => ?_
 refine zw ?_
 refine rD [0] [1,5] [] [0,5,8,16,21,24,14,30,32,36] ?_
 refine zw ?_
 refine dc h fun r2 g3 h => ?_
 refine zw ?_
 refine dc h fun r4 g5 h => ?_
 refine OpsD.v rfl rfl (Yr rfl rfl) ?_
 refine OpsD.v rfl rfl (Yr rfl rfl) ?_
 refine OpsD.done ?_
 refine AW.seq ?_
 refine AW.cut (τ := Int × Int × Int × Int × Int × Int × ByteArray × List Int × Int × Int × Int × Int × Int × Int × Int × ByteArray × List Int × Int × Nat × Nat) (fun (x13, x14, x15, x16, x17, x18, x19, l20, x21, x23, x24, x25, x26, x27, x28, x29, l30, x31, b12, b22) => ⟨[(1, cM kI64 1 p1), (9, cI r2), (10, cI r4), (11, pt b12), (12, pt b22)], [oB b12 136 [cI x13, cI x14, cI x15, cI x16, cI x17, cI x18, C.str x19, cM kI64 1 l20, cI x21], oB b22 136 [cI x23, cI x24, cI x25, cI x26, cI x27, cI x28, C.str x29, cM kI64 1 l30, cI x31]]⟩) (fun (x13, x14, x15, x16, x17, x18, x19, l20, x21, x23, x24, x25, x26, x27, x28, x29, l30, x31, b12, b22) => Z4n p1 r2 r4 x13 x14 x15 x16 x17 x18 x19 l20 x21 x23 x24 x25 x26 x27 x28 x29 l30 x31 = some r) ?_ ?_
 ·
  refine AW.regionD (L := [1, 4, 6, 9]) (Lt := [13]) (k := .light 0 false (.light 1 true (.light 2 false (.light 3 false (.light 4 true (.light 5 false (.light 6 true (.light 7 false (.light 8 false (.light 9 true (.two 10 11 (.one 11 (.one 12 (.late 13 (.done)))) (.one 10 (.one 12 (.late 13 (.done))))))))))))))) (ns := [0]) (by kernel_rfl) (by kernel_rfl) (by kernel_rfl) (by kernel_rfl) rfl ?_
  refine zw ?_
  refine di h fun e6 g7 h => ?_
  refine zw ?_
  refine di h fun e8 g9 h => ?_
  refine zw ?_
  refine OpsD.two ?_ ?_
  ·
   refine Y3n.h (ns := []) rfl rfl rfl (Y1p (cs := [cI 0, cI 0, cI 0, cI 0, cI 0, cI 0, C.str ByteArray.empty, cV s0, cI 0]) Yal (Y42 rfl rfl) rfl) ?_
   rintro _ _ ⟨b10, rfl, rfl⟩
   refine OpsD.one ?_
   refine Y3n.h (ns := []) rfl rfl rfl (Y1p (cs := [cI 0, cI 0, cI 0, cI 0, cI 0, cI 0, C.str ByteArray.empty, cV s0, cI 0]) Yal (Y42 rfl rfl) rfl) ?_
   rintro _ _ ⟨b11, rfl, rfl⟩
   refine OpsD.one ?_
   refine Y3n.h (ns := [1]) rfl rfl rfl (Y1u (gs := [cI e6.id, cI e6.room, cI e6.author, cI e6.kind, cI e6.key, cI e6.n, C.str e6.text, cM kI64 1 e6.prev, cI e6.time]) Yb2.h rfl rfl rfl rfl rfl) ?_
   rintro _ _ ⟨rfl, rfl⟩
   refine OpsD.late (ns := [2]) rfl rfl rfl (Y1u (gs := [cI e8.id, cI e8.room, cI e8.author, cI e8.kind, cI e8.key, cI e8.n, C.str e8.text, cM kI64 1 e8.prev, cI e8.time]) Yb2.h rfl rfl rfl rfl rfl) ?_
   rintro _ _ ⟨rfl, rfl⟩
   refine zw ?_
   exact ⟨(e6.id, e6.room, e6.author, e6.kind, e6.key, e6.n, e6.text, e6.prev, e6.time, e8.id, e8.room, e8.author, e8.kind, e8.key, e8.n, e8.text, e8.prev, e8.time, b10, b11), h, Y21.both (ns := [2, 0]) rfl rfl⟩
  refine Y3n.h (ns := []) rfl rfl rfl (Y1p (cs := [cI 0, cI 0, cI 0, cI 0, cI 0, cI 0, C.str ByteArray.empty, cV s0, cI 0]) Yal (Y42 rfl rfl) rfl) ?_
  rintro _ _ ⟨b11, rfl, rfl⟩
  refine OpsD.one ?_
  refine Y3n.h (ns := []) rfl rfl rfl (Y1p (cs := [cI 0, cI 0, cI 0, cI 0, cI 0, cI 0, C.str ByteArray.empty, cV s0, cI 0]) Yal (Y42 rfl rfl) rfl) ?_
  rintro _ _ ⟨b10, rfl, rfl⟩
  refine OpsD.one ?_
  refine Y3n.h (ns := [0]) rfl rfl rfl (Y1u (gs := [cI e6.id, cI e6.room, cI e6.author, cI e6.kind, cI e6.key, cI e6.n, C.str e6.text, cM kI64 1 e6.prev, cI e6.time]) Yb2.h rfl rfl rfl rfl rfl) ?_
  rintro _ _ ⟨rfl, rfl⟩
  refine OpsD.late (ns := [2]) rfl rfl rfl (Y1u (gs := [cI e8.id, cI e8.room, cI e8.author, cI e8.kind, cI e8.key, cI e8.n, C.str e8.text, cM kI64 1 e8.prev, cI e8.time]) Yb2.h rfl rfl rfl rfl rfl) ?_
  rintro _ _ ⟨rfl, rfl⟩
  refine zw ?_
  exact ⟨(e6.id, e6.room, e6.author, e6.kind, e6.key, e6.n, e6.text, e6.prev, e6.time, e8.id, e8.room, e8.author, e8.kind, e8.key, e8.n, e8.text, e8.prev, e8.time, b10, b11), h, Y21.both (ns := [2, 0]) rfl rfl⟩
 rintro ⟨x13, x14, x15, x16, x17, x18, x19, l20, x21, x23, x24, x25, x26, x27, x28, x29, l30, x31, b12, b22⟩ h
 replace h : Z4n p1 r2 r4 x13 x14 x15 x16 x17 x18 x19 l20 x21 x23 x24 x25 x26 x27 x28 x29 l30 x31 = some r := h
 unfold Z4n at h
 refine zw ?_
 refine rD [0,0] [0,2] [] [1,9,6,14,16,20] ?_
 refine zw ?_
 refine dc h fun r32 g33 h => ?_
 refine zw ?_
 refine dc h fun r34 g35 h => ?_
 refine OpsD.v rfl rfl (Y11 un_4 rfl rfl rfl) ?_
 refine zw ?_
 refine cnd h (fun hb36 h => ?_) fun hb36 h => ?_
 ·
  refine AW.cond rfl (fun hn => absurd ((Y3u hb36).symm.trans hn) (by decide)) (fun _ => ?_)
  refine zw ?_
  refine rD [0,0] [3,7] [] [0,4,8,13,16,20,24,29,32,36] ?_
  refine zw ?_
  refine di h fun e37 g38 h => ?_
  refine zw ?_
  refine di h fun e39 g40 h => ?_
  refine zw ?_
  refine cnd h (fun hb41 h => ?_) fun hb41 h => ?_
  ·
   refine AW.ct hb41 rfl ?_
   refine zw ?_
   refine rD [0,0] [3,7] [] [0,4,8,13,16,20,24,29,32,36] ?_
   exact go
  exact go
 exact go

def Z4q (p0 : Y90) (p1 : List Y93) (p2 : Int) (p3 : Int) : Option Y8v := (Z3u p1 p2 p3).bind fun r3 => cond (r3 == 0) (some (Y8v.mk 0 0 0 0 0 0 ByteArray.empty [] 0)) ((Z2t p0.events r3).bind fun r6 => (getI p0.events r6).bind fun e8 => some e8)
instance Z4r (p0 : Y90) (p1 : List Y93) (p2 : Int) (p3 : Int) : Sp Tryz.prog 221 [C.agg [cI p0.room, cM Y99 9 p0.events, cM Y99 9 p0.parked], cM Y9l 3 p1, cI p2, cI p3] (Z4q p0 p1 p2 p3) (fun r => C.agg [cI r.id, cI r.room, cI r.author, cI r.kind, cI r.key, cI r.n, C.str r.text, cM kI64 1 r.prev, cI r.time]) := sp Tryz.func221 rfl rfl fun r X h => by
 unfold Z4q at h
 refine zw ?_
 refine ox fun b1 => ?_
 refine Ops.h (ns := []) rfl rfl (Y1p (cs := [cI 0, cI 0, cI 0, cI 0, cI 0, cI 0, C.str ByteArray.empty, cV s0, cI 0]) Yal (Y42 rfl rfl) rfl) ?_
 rintro _ _ ⟨b2, rfl, rfl⟩
 refine zw ?_
 refine oc h fun r3 g4 h => ?_
 refine zw ?_
 refine cnd h (fun hb5 h => ?_) fun hb5 h => ?_
 ·
  refine AW.ct hb5 rfl ?_
  refine zw ?_
  refine Ops.v rfl (Y38 (ds := [cI 0, cI 0, cI 0, cI 0, cI 0, cI 0, C.str ByteArray.empty, cV s0, cI 0]) Ycx Yal (Y42 rfl rfl) .nil rfl) ?_
  refine Ops.hd (ns := [0]) rfl rfl (Y1u (gs := [cI 0, cI 0, cI 0, cI 0, cI 0, cI 0, C.str ByteArray.empty, cV s0, cI 0]) Yb2.h rfl rfl rfl rfl rfl) ?_
  refine zw ?_
  refine AW.ret ?_
  rw [← Wj h]
  exact ⟨[C.agg [cI 0, cI 0, cI 0, cI 0, cI 0, cI 0, C.str ByteArray.empty, cM kI64 1 [], cI 0]], _, Y21.boxFrz (ns := [0]) rfl (fS (fS (fS (fS (fS (fS (fS (FrzL.cons (os := []) (Frz.imp (Imp.nil kI64 1)) (fS FrzL.nil))))))))), (.cons (.cell (p := 0) rfl rfl Yb2.h rfl) .nil), [], _, _, rfl, ⟨rfl, rfl⟩⟩
 refine AW.cf hb5 rfl ?_
 refine zw ?_
 refine rD [0,0] [1,3,7] [8] [0,5,8,13,16,22,24,29,35] ?_
 refine zw ?_
 refine dc h fun r6 g7 h => ?_
 refine di h fun e8 g9 h => ?_
 refine zw ?_
 refine OpsD.late (ns := [0]) rfl rfl rfl (Y1u (gs := [cI e8.id, cI e8.room, cI e8.author, cI e8.kind, cI e8.key, cI e8.n, C.str e8.text, cM kI64 1 e8.prev, cI e8.time]) Yb2.h rfl rfl rfl rfl rfl) ?_
 rintro _ _ ⟨rfl, rfl⟩
 refine zw ?_
 refine AW.ret ?_
 rw [← Wj h]
 exact ⟨[C.agg [cI e8.id, cI e8.room, cI e8.author, cI e8.kind, cI e8.key, cI e8.n, C.str e8.text, cM kI64 1 e8.prev, cI e8.time]], _, Y21.refl _, (.cons (.cell (p := 0) rfl rfl Yb2.h rfl) .nil), [], _, _, rfl, ⟨rfl, rfl⟩⟩

def Z4s (p0 : Y90) (p1 : List Y93) (p2 : Int) : Option Int := (Z4q p0 p1 2 p2).bind fun r2 => some r2.n
instance Z4t (p0 : Y90) (p1 : List Y93) (p2 : Int) : Sp Tryz.prog 162 [C.agg [cI p0.room, cM Y99 9 p0.events, cM Y99 9 p0.parked], cM Y9l 3 p1, cI p2] (Z4s p0 p1 p2) cI := sp Tryz.func162 rfl rfl fun r X h => by
 unfold Z4s at h
 refine zw ?_
 refine ox fun b1 => ?_
 refine zw ?_
 refine oc h fun r2 g3 h => ?_
 refine Ops.v rfl (Y6v Ycy rfl rfl rfl) ?_
 exact go

def Z4u (p0 : Y90) (p1 : List Y93) (p2 : Int) : Option Int := (Z3u p1 3 p2).bind fun r2 => cond (decide (r2 > 0)) ((Z4q p0 p1 3 p2).bind fun r5 => some r5.n) ((Z4q p0 p1 1 0).bind fun r7 => cond (r7.author == p2) (some 100) (some 0))
instance Z4v (p0 : Y90) (p1 : List Y93) (p2 : Int) : Sp Tryz.prog 274 [C.agg [cI p0.room, cM Y99 9 p0.events, cM Y99 9 p0.parked], cM Y9l 3 p1, cI p2] (Z4u p0 p1 p2) cI := sp Tryz.func274 rfl rfl fun r X h => by
 unfold Z4u at h
 refine zw ?_
 refine ox fun b1 => ?_
 refine zw ?_
 refine oc h fun r2 g3 h => ?_
 refine zw ?_
 refine cnd h (fun hb4 h => ?_) fun hb4 h => ?_
 ·
  refine AW.ct hb4 rfl ?_
  refine zw ?_
  refine oc h fun r5 g6 h => ?_
  refine Ops.v rfl (Y6v Ycy rfl rfl rfl) ?_
  exact go
 refine AW.cf hb4 rfl ?_
 refine zw ?_
 refine oc h fun r7 g8 h => ?_
 refine Ops.v rfl (Y6v Ycz rfl rfl rfl) ?_
 exact go

def Z4w (p0 : Bool) : Option Int := cond p0 (some 11) (some 0)
instance Z4x (p0 : Bool) : Sp Tryz.prog 277 [C.bool p0] (Z4w p0) cI := sp Tryz.func277 rfl rfl fun r X h => go

def Z4y (x20 : Int) : Option Int := some x20
def Z4z (p3 : Int) (x4 : Bool) (x11 : Bool) : Option Int := cond (p3 == 3) ((Z4w true).bind fun r13 => Z4y r13) (cond x4 ((Z4w false).bind fun r16 => Z4y r16) ((Z4w (!x11)).bind fun r18 => Z4y r18))
def Z50 (p0 : Y90) (p1 : List Y93) (p2 : Y8v) (p3 : Int) (x4 : Bool) : Option Int := cond (p2.n == 1) ((Z4q p0 p1 5 0).bind fun r6 => cond (r6.n == 1) (Z4z p3 x4 true) ((Z4q p0 p1 1 0).bind fun r9 => Z4z p3 x4 (r9.author == p2.author))) (cond (p2.n == 2) ((Z4w (!x4)).bind fun r22 => some r22) (some 11))
def Z51 (p0 : Y90) (p1 : List Y93) (p2 : Y8v) (p3 : Int) : Option Int := cond (p3 == 1) (Z50 p0 p1 p2 p3 true) (Z50 p0 p1 p2 p3 (p3 == 4))
instance Z52 (p0 : Y90) (p1 : List Y93) (p2 : Y8v) (p3 : Int) : Sp Tryz.prog 275 [C.agg [cI p0.room, cM Y99 9 p0.events, cM Y99 9 p0.parked], cM Y9l 3 p1, C.agg [cI p2.id, cI p2.room, cI p2.author, cI p2.kind, cI p2.key, cI p2.n, C.str p2.text, cM kI64 1 p2.prev, cI p2.time], cI p3] (Z51 p0 p1 p2 p3) cI := sp Tryz.func275 rfl rfl fun r X h => by
 unfold Z51 at h
 refine zw ?_
 refine ox fun b1 => ?_
 refine ox fun b2 => ?_
 refine Ops.v rfl (Yr rfl rfl) ?_
 refine Ops.nil ?_
 refine AW.seq ?_
 refine AW.cut (τ := Bool) (fun x4 => ⟨[(1, cM Y9l 3 p1), (3, cI p3), (4, pt b1), (6, pt b2), (9, C.bool x4)], [oB b1 139 [cI p0.room, cM Y99 9 p0.events, cM Y99 9 p0.parked], oB b2 136 [cI p2.id, cI p2.room, cI p2.author, cI p2.kind, cI p2.key, cI p2.n, C.str p2.text, cM kI64 1 p2.prev, cI p2.time]]⟩) (fun x4 => Z50 p0 p1 p2 p3 x4 = some r) go fun x4 h => ?_
 replace h : Z50 p0 p1 p2 p3 x4 = some r := h
 unfold Z50 at h
 refine zw ?_
 refine cnd h (fun hb5 h => ?_) fun hb5 h => ?_
 ·
  refine AW.ct hb5 rfl ?_
  refine zw ?_
  refine rD [0,0] [0,6,11] [] [1,4,10,12,16,20,25,28,40,45,34,36,48,52,56] ?_
  refine zw ?_
  refine dc h fun r6 g7 h => ?_
  refine OpsD.v rfl rfl (Y6v Ycy rfl rfl rfl) ?_
  refine zw ?_
  refine cnd h (fun hb8 h => ?_) fun hb8 h => ?_
  ·
   refine OpsD.gs rfl rfl rfl rfl (.b rfl hb8) rfl rfl ?_
   refine OpsD.gs rfl rfl rfl rfl (.b rfl hb8) rfl rfl ?_
   refine OpsD.gs rfl rfl rfl rfl (.b rfl hb8) rfl rfl ?_
   refine OpsD.gs rfl rfl rfl rfl (.b rfl hb8) rfl rfl ?_
   refine OpsD.one ?_
   refine Y3n.gs rfl rfl rfl rfl (.b rfl hb8) rfl rfl ?_
   exact go
  refine zw ?_
  refine ob' h fun r9 g10 h => ?_
  refine Y3n.gh (ns := []) rfl rfl rfl rfl rfl hb8 rfl (Y24 ((Z4r _ _ _ _).h _ g10) rfl rfl) ?_
  rintro _ _ ⟨rfl, rfl⟩
  refine OpsD.gv rfl rfl rfl rfl rfl hb8 (Y6v Ycz rfl rfl rfl) ?_
  exact go
 exact go

def Z53 (x13 : Int) : Option Int := some x13
def Z54 (x26 : Int) : Option Int := some x26
def Z55 (x36 : Int) : Option Int := some x36
def Z56 (p0 : Y90) (p1 : List Y93) (p2 : Y8v) (p3 : Int) : Option Int := (Z4s p0 p1 p2.key).bind fun r3 => (Z4u p0 p1 p2.key).bind fun r5 => cond (p2.n == 4) (cond (r3 == 1) ((Z4w true).bind fun r9 => Z53 r9) ((Z4w (r3 == 3)).bind fun r11 => Z53 r11)) (cond (p2.n == 2) (cond (decide (p3 < 50)) ((Z4w true).bind fun r16 => Z54 r16) (cond (decide (p3 ≤ r5)) ((Z4w true).bind fun r19 => Z54 r19) (cond (r3 == 0) ((Z4w true).bind fun r22 => Z54 r22) ((Z4w (r3 == 2)).bind fun r24 => Z54 r24)))) (cond (p2.n == 3) (cond (decide (p3 < 50)) ((Z4w true).bind fun r29 => Z55 r29) (cond (decide (p3 ≤ r5)) ((Z4w true).bind fun r32 => Z55 r32) ((Z4w (r3 == 3)).bind fun r34 => Z55 r34))) (some 11)))
instance Z57 (p0 : Y90) (p1 : List Y93) (p2 : Y8v) (p3 : Int) : Sp Tryz.prog 276 [C.agg [cI p0.room, cM Y99 9 p0.events, cM Y99 9 p0.parked], cM Y9l 3 p1, C.agg [cI p2.id, cI p2.room, cI p2.author, cI p2.kind, cI p2.key, cI p2.n, C.str p2.text, cM kI64 1 p2.prev, cI p2.time], cI p3] (Z56 p0 p1 p2 p3) cI := sp Tryz.func276 rfl rfl fun r X h => by
 unfold Z56 at h
 refine zw ?_
 refine ox fun b1 => ?_
 refine ox fun b2 => ?_
 refine zw ?_
 refine rD [0,0] [0,3,5,8] [] [1,4,8,13,21,24,28,33,18,38,40,44] ?_
 exact go

def Z58 (x35 : Int) : Option Int := some x35
def Z59 (x53 : Int) : Option Int := some x53
def Z5a (p0 : Y90) (p2 : Y8v) (r10 : Int) (x38 : Bool) : Option Int := cond x38 ((Z4w (decide (r10 < 50))).bind fun r40 => some r40) (cond (p2.kind == 8) ((Z2t p0.events p2.key).bind fun r43 => cond (decide (r43 < 0)) (some 6) (cond (decide (r10 < 50)) ((getI p0.events r43).bind fun e47 => (Z4w (e47.author != p2.author)).bind fun r49 => Z59 r49) ((Z4w false).bind fun r51 => Z59 r51))) (some 0))
def Z5b (p0 : Y90) (p1 : List Y93) (p2 : Y8v) (r8 : Int) (r10 : Int) (x13 : Bool) : Option Int := cond x13 ((Z51 p0 p1 p2 r8).bind fun r15 => some r15) (cond (r8 != 1) (some 11) (cond (p2.kind == 2) ((Z56 p0 p1 p2 r10).bind fun r19 => some r19) (cond (p2.kind == 3) (cond (decide (r10 < 50)) ((Z4w true).bind fun r23 => Z58 r23) (cond (decide (p2.n > r10)) ((Z4w true).bind fun r26 => Z58 r26) (cond (p2.key != p2.author) ((Z4u p0 p1 p2.key).bind fun r29 => (Z4w (decide (r29 ≥ r10))).bind fun r31 => Z58 r31) ((Z4w false).bind fun r33 => Z58 r33)))) (cond (p2.kind == 4) (Z5a p0 p2 r10 (p2.kind == 4)) (cond (p2.kind == 5) (Z5a p0 p2 r10 (p2.kind == 5)) (Z5a p0 p2 r10 (p2.kind == 6)))))))
def Z5c (p0 : Y90) (p1 : List Y93) (p2 : Y8v) : Option Int := (Z3u p1 1 0).bind fun r3 => cond (p2.kind == 1) (cond (decide (r3 > 0)) (some 7) (some 0)) (cond (decide (r3 > 0)) ((Z4s p0 p1 p2.author).bind fun r8 => (Z4u p0 p1 p2.author).bind fun r10 => cond (p2.kind == 2) (Z5b p0 p1 p2 r8 r10 (p2.key == p2.author)) (Z5b p0 p1 p2 r8 r10 false)) (some 10))
instance Z5d (p0 : Y90) (p1 : List Y93) (p2 : Y8v) : Sp Tryz.prog 228 [C.agg [cI p0.room, cM Y99 9 p0.events, cM Y99 9 p0.parked], cM Y9l 3 p1, C.agg [cI p2.id, cI p2.room, cI p2.author, cI p2.kind, cI p2.key, cI p2.n, C.str p2.text, cM kI64 1 p2.prev, cI p2.time]] (Z5c p0 p1 p2) cI := sp Tryz.func228 rfl rfl fun r X h => by
 unfold Z5c at h
 refine zw ?_
 refine ox fun b1 => ?_
 refine ox fun b2 => ?_
 refine zw ?_
 refine oc h fun r3 g4 h => ?_
 refine zw ?_
 refine cnd h (fun hb5 h => go) fun hb5 h => ?_
 refine AW.cf hb5 rfl ?_
 refine zw ?_
 refine cnd h (fun hb7 h => ?_) fun hb7 h => ?_
 ·
  refine AW.cond rfl (fun hn => absurd ((Y3u hb7).symm.trans hn) (by decide)) (fun _ => ?_)
  refine zw ?_
  refine rD [0,0] [0,3,5,8] [] [1,4,8,13,21,24,28,33,18,38,40,44] ?_
  refine zw ?_
  refine dc h fun r8 g9 h => ?_
  refine zw ?_
  refine dc h fun r10 g11 h => ?_
  refine OpsD.v rfl rfl (Yr rfl rfl) ?_
  refine OpsD.v rfl rfl (Yr rfl rfl) ?_
  refine OpsD.done ?_
  refine AW.seq ?_
  refine AW.seq ?_
  refine AW.cut (τ := Bool) (fun x13 => ⟨[(1, cM Y9l 3 p1), (3, pt b1), (5, pt b2), (8, cI r8), (9, cI r10), (39, C.bool x13)], [oB b1 139 [cI p0.room, cM Y99 9 p0.events, cM Y99 9 p0.parked], oB b2 136 [cI p2.id, cI p2.room, cI p2.author, cI p2.kind, cI p2.key, cI p2.n, C.str p2.text, cM kI64 1 p2.prev, cI p2.time]]⟩) (fun x13 => Z5b p0 p1 p2 r8 r10 x13 = some r) go fun x13 h => ?_
  replace h : Z5b p0 p1 p2 r8 r10 x13 = some r := h
  unfold Z5b at h
  refine cnd h (fun hb14 h => go) fun hb14 h => ?_
  refine AW.cf hb14 rfl ?_
  refine zw ?_
  refine cnd h (fun hb17 h => go) fun hb17 h => ?_
  refine AW.cf hb17 rfl ?_
  refine zw ?_
  refine cnd h (fun hb18 h => go) fun hb18 h => ?_
  refine AW.cf hb18 rfl ?_
  refine zw ?_
  refine cnd h (fun hb21 h => ?_) fun hb21 h => ?_
  ·
   refine AW.ct hb21 rfl ?_
   refine zw ?_
   refine cnd h (fun hb22 h => go) fun hb22 h => ?_
   refine zw ?_
   refine cnd h (fun hb25 h => go) fun hb25 h => ?_
   refine zw ?_
   refine cnd h (fun hb28 h => ?_) fun hb28 h => ?_
   ·
    refine zw ?_
    refine ob' h fun r29 g30 h => ?_
    refine Ops.ghd (ns := []) rfl rfl rfl rfl hb28 rfl (Y24 ((Z4v _ _ _).h _ g30) rfl rfl) ?_
    exact go
   exact go
  refine AW.cf hb21 rfl ?_
  refine AW.seq ?_
  refine AW.cut (τ := Bool) (fun x38 => ⟨[(3, pt b1), (5, pt b2), (9, cI r10), (48, cI p2.kind), (83, C.bool x38)], [oB b1 139 [cI p0.room, cM Y99 9 p0.events, cM Y99 9 p0.parked], oB b2 136 [cI p2.id, cI p2.room, cI p2.author, cI p2.kind, cI p2.key, cI p2.n, C.str p2.text, cM kI64 1 p2.prev, cI p2.time]]⟩) (fun x38 => Z5a p0 p2 r10 x38 = some r) ?_ ?_
  ·
   exact go
  intro x38 h
  replace h : Z5a p0 p2 r10 x38 = some r := h
  unfold Z5a at h
  refine cnd h (fun hb39 h => go) fun hb39 h => ?_
  refine AW.cf hb39 rfl ?_
  refine zw ?_
  refine cnd h (fun hb42 h => ?_) fun hb42 h => ?_
  ·
   refine AW.ct hb42 rfl ?_
   refine zw ?_
   refine oc h fun r43 g44 h => ?_
   refine zw ?_
   refine cnd h (fun hb45 h => go) fun hb45 h => ?_
   refine AW.cf hb45 rfl ?_
   refine zw ?_
   refine rD [0,0] [4,8,10] [] [0,4,8,12,17,20,24,28,33,36,41,44,48,54,56] ?_
   exact go
  exact go
 exact go

def Z5e (l249 : List Y93) : Option (List Y93) := some l249
def Z5f (x218 : Int) (l247 : List Y93) : Option ((List Y93 × Int) ⊕ ((List Y93))) := some (.inl (l247, (IntKind.i64.wrap (x218 + 1))))
def Z5g (p0 : Y90) (l217 : List Y93) (x218 : Int) (x230 : Int) (x231 : Int) (x232 : Int) (x233 : Int) (x234 : Int) (x235 : Int) (x236 : ByteArray) (l237 : List Int) (x238 : Int) : Option ((List Y93 × Int) ⊕ ((List Y93))) := (Z5c p0 l217 (Y8v.mk x230 x231 x232 x233 x234 x235 x236 l237 x238)).bind fun r239 => cond (r239 == 0) ((Z4c l217 (Y93.mk x233 x234 x230)).bind fun r242 => Z5f x218 r242) (Z5f x218 l217)
def Z5h (p0 : Y90) (l186 : List Int) (l217 : List Y93) (x218 : Int) : Option ((List Y93 × Int) ⊕ ((List Y93))) := cond (decide (x218 < (l186.length : Int))) ((getI l186 x218).bind fun e220 => (Z2t p0.events e220).bind fun r222 => (getI p0.events r222).bind fun e225 => Z5g p0 l217 x218 e225.id e225.room e225.author e225.kind e225.key e225.n e225.text e225.prev e225.time) (some (.inr l217))
def Z5i (p0 : Y90) (l95 : List Y93) (l186 : List Int) : Option (List Y93) := (iter (fun z251 => Z5h p0 l186 z251.1 z251.2) big (l95, 0)).bind fun y252 => Z5e y252
def Z5j (l96 : List Int) (l141 : List Int) (x142 : Int) (x163 : Int) : Option ((List Int × Int) ⊕ ((List Int))) := (chk (decide ((0 : Int) ≤ x163 ∧ x163 ≤ (l141.length : Int)))).bind fun u166 => (chk (decide ((Int.toNat x163) ≤ l141.length))).bind fun u168 => (chk (decide ((([] : List Int).length + (List.take (Int.toNat x163) l141).length) * 8 ≤ 140737488355328))).bind fun u170 => (getI l96 x142).bind fun e172 => (chk (decide (((([] : List Int) ++ (List.take (Int.toNat x163) l141)).length + [e172].length) * 8 ≤ 140737488355328))).bind fun u176 => (chk (decide ((0 : Int) ≤ x163 ∧ x163 ≤ (l141.length : Int)))).bind fun u179 => (chk (decide ((Int.toNat x163) ≤ l141.length))).bind fun u181 => (chk (decide ((((([] : List Int) ++ (List.take (Int.toNat x163) l141)) ++ [e172]).length + (List.drop (Int.toNat x163) l141).length) * 8 ≤ 140737488355328))).bind fun u183 => some (.inl ((((([] : List Int) ++ (List.take (Int.toNat x163) l141)) ++ [e172]) ++ (List.drop (Int.toNat x163) l141)), (IntKind.i64.wrap (x142 + 1))))
def Z5k (x153 : Int) (x161 : Bool) : Option (Int ⊕ (Int)) := cond x161 (some (.inl (IntKind.i64.wrap (x153 - 1)))) (some (.inr x153))
def Z5l (p0 : Y90) (p1 : List Int) (l96 : List Int) (l141 : List Int) (x142 : Int) (x153 : Int) : Option (Int ⊕ (Int)) := cond (decide (x153 > 0)) ((getI l96 x142).bind fun e155 => (getI l141 (IntKind.i64.wrap (x153 - 1))).bind fun e157 => (Z4o p0 p1 e155 e157).bind fun r159 => Z5k x153 r159) (Z5k x153 false)
def Z5m (p0 : Y90) (p1 : List Int) (l96 : List Int) (l141 : List Int) (x142 : Int) : Option ((List Int × Int) ⊕ ((List Int))) := cond (decide (x142 < (l96.length : Int))) ((iter (Z5l p0 p1 l96 l141 x142) big (l141.length : Int)).bind fun y253 => Z5j l96 l141 x142 y253) (some (.inr l141))
def Z5n (p0 : Y90) (p1 : List Int) (l95 : List Y93) (l96 : List Int) : Option (List Y93) := (iter (fun z254 => Z5m p0 p1 l96 z254.1 z254.2) big (([] : List Int), 0)).bind fun y255 => Z5i p0 l95 y255
def Z5o (x51 : Int) (l92 : List Y93) (l93 : List Int) : Option ((List Y93 × List Int × Int) ⊕ ((List Y93 × List Int))) := some (.inl (l92, l93, (IntKind.i64.wrap (x51 + 1))))
def Z5p (x73 : Int) (l89 : List Y93) (l90 : List Int) : Option ((List Y93 × List Int × Int) ⊕ ((List Y93 × List Int))) := some (.inl (l89, l90, (IntKind.i64.wrap (x73 + 1))))
def Z5q (p2 : List (List Y93)) (x51 : Int) (l71 : List Y93) (l72 : List Int) (x73 : Int) : Option ((List Y93 × List Int × Int) ⊕ ((List Y93 × List Int))) := (getI p2 x51).bind fun e74 => cond (decide (x73 < (e74.length : Int))) ((getI e74 x73).bind fun e77 => (Z3y p2 e77).bind fun r79 => cond r79 ((Z4c l71 e77).bind fun r82 => Z5p x73 r82 l72) ((Z4i l72 e77.id).bind fun r86 => Z5p x73 l71 r86)) (some (.inr (l71, l72)))
def Z5r (p2 : List (List Y93)) (l49 : List Y93) (l50 : List Int) (x51 : Int) : Option ((List Y93 × List Int × Int) ⊕ ((List Y93 × List Int))) := cond (decide (x51 < (p2.length : Int))) ((iter (fun z256 => Z5q p2 x51 z256.1 z256.2.1 z256.2.2) big (l49, l50, 0)).bind fun (y257, y258) => Z5o x51 y257 y258) (some (.inr (l49, l50)))
def Z5s (p0 : Y90) (p1 : List Int) (p2 : List (List Y93)) : Option (List Y93) := (iter (fun z259 => Z5r p2 z259.1 z259.2.1 z259.2.2) big (([] : List Y93), ([] : List Int), 0)).bind fun (y260, y261) => Z5n p0 p1 y260 y261
theorem Z5t (p0 : Y90) (p1 : List Int) (p2 : List (List Y93)) (r : List Y93) (h : Z5s p0 p1 p2 = some r) : Ok Tryz.prog 182 [C.agg [cI p0.room, cM Y99 9 p0.events, cM Y99 9 p0.parked], cM kI64 1 p1, cM Y9m 1 p2] [] (fun c qs => ∃ (v250 : Value), c = cV v250 ∧ qs = [oA v250 106 Y9l 3 r]) := by
 refine Ok.of_body (rs := [.tmp 6]) Tryz.func182 rfl rfl rfl rfl rfl fun X => ?_
 unfold Z5s at h
 refine zw ?_
 refine ox fun b1 => ?_
 refine zw ?_
 refine Ops.h (ns := []) rfl rfl (Y39 (k := Y9l) (ys := ([] : List Y93)) Ycv .nil rfl rfl rfl) ?_
 rintro _ _ ⟨b2, rfl, rfl⟩
 refine zw ?_
 refine Ops.h (ns := []) rfl rfl (Y39 (k := kI64) (ys := ([] : List Int)) Yak .nil rfl rfl rfl) ?_
 rintro _ _ ⟨b3, rfl, rfl⟩
 refine Ops.v rfl (Yr rfl rfl) ?_
 refine Ops.nil ?_
 refine AW.seq ?_
 refine AW.cut (τ := List Y93 × List Int × Value) (fun (l95, l96, v94) => ⟨[(1, cM kI64 1 p1), (3, pt b1), (7, cV v94), (8, cM kI64 1 l96)], [oB b1 139 [cI p0.room, cM Y99 9 p0.events, cM Y99 9 p0.parked], oA v94 106 Y9l 3 l95]⟩) (fun (l95, l96, v94) => Z5n p0 p1 l95 l96 = some r) ?_ ?_
 ·
  refine zw ?_
  refine AW.lp h (fun (l49, l50, x51) (v48 : Value) => ⟨[(1, cM kI64 1 p1), (2, cM Y9m 1 p2), (3, pt b1), (7, cV v48), (8, cM kI64 1 l50), (9, cI x51)], [oB b1 139 [cI p0.room, cM Y99 9 p0.events, cM Y99 9 p0.parked], oA v48 106 Y9l 3 l49]⟩) ((Y21.freeze (p := 0) (t := 8) rfl rfl).trans (Y21.both (ns := [1, 0]) rfl rfl)) ?_
  rintro ⟨l49, l50, x51⟩ v48 y288 h
  refine zw ?_
  refine cnd h (fun hb52 h => ?_) fun hb52 h => ?_
  ·
   refine AW.ct hb52 rfl ?_
   refine zw ?_
   refine AW.lp h (fun (l71, l72, x73) (v70 : Value) => ⟨[(1, cM kI64 1 p1), (2, cM Y9m 1 p2), (3, pt b1), (7, cV v70), (8, cM kI64 1 l72), (9, cI x51), (10, cI x73)], [oB b1 139 [cI p0.room, cM Y99 9 p0.events, cM Y99 9 p0.parked], oA v70 106 Y9l 3 l71]⟩) (gb [0, 0]) ?_
   rintro ⟨l71, l72, x73⟩ v70 y295 h
   refine zw ?_
   refine oi h fun e74 g75 h => ?_
   refine zw ?_
   refine cnd h (fun hb76 h => ?_) fun hb76 h => ?_
   ·
    refine AW.ct hb76 rfl ?_
    refine zw ?_
    refine oi h fun e77 g78 h => ?_
    refine zw ?_
    refine oc h fun r79 g80 h => ?_
    refine zw ?_
    refine cnd h (fun hb81 h => ?_) fun hb81 h => ?_
    ·
     refine AW.ct hb81 rfl ?_
     refine zw ?_
     refine ob' h fun r82 g83 h => ?_
     refine Ops.h (ns := [1]) rfl rfl (Y23 (Ok.lend (Z4d l71 e77 _ g83) (FrzT.cons (os := [_]) Frz.arr (fT (FrzT.nil))) (by rintro _ _ ⟨_, rfl, rfl⟩; exact ⟨(Y44.val _), Y48 (Y46.arr Yd0) (Y47)⟩)) rfl rfl) ?_
     rintro _ _ ⟨_, ⟨_, ⟨v84, rfl, rfl⟩, rfl⟩, rfl⟩
     exact go
    exact go
   exact go
  exact go
 rintro ⟨l95, l96, v94⟩ h
 replace h : Z5n p0 p1 l95 l96 = some r := h
 unfold Z5n at h
 refine zw ?_
 refine Ops.h (ns := []) rfl rfl (Y39 (k := kI64) (ys := ([] : List Int)) Yak .nil rfl rfl rfl) ?_
 rintro _ _ ⟨b97, rfl, rfl⟩
 refine Ops.v rfl (Yr rfl rfl) ?_
 refine Ops.nil ?_
 refine AW.seq ?_
 refine AW.cut (τ := List Int × Value) (fun (l186, v185) => ⟨[(3, pt b1), (7, cV v94), (11, cV v185)], [oB b1 139 [cI p0.room, cM Y99 9 p0.events, cM Y99 9 p0.parked], oA v94 106 Y9l 3 l95, oA v185 2 kI64 1 l186]⟩) (fun (l186, v185) => Z5i p0 l95 l186 = some r) ?_ ?_
 ·
  refine zw ?_
  refine AW.lp h (fun (l141, x142) (v140 : Value) => ⟨[(1, cM kI64 1 p1), (3, pt b1), (7, cV v94), (8, cM kI64 1 l96), (11, cV v140), (12, cI x142)], [oB b1 139 [cI p0.room, cM Y99 9 p0.events, cM Y99 9 p0.parked], oA v94 106 Y9l 3 l95, oA v140 2 kI64 1 l141]⟩) (gb [1, 1, 0]) ?_
  rintro ⟨l141, x142⟩ v140 y274 h
  refine zw ?_
  refine cnd h (fun hb143 h => ?_) fun hb143 h => ?_
  ·
   refine AW.ct hb143 rfl ?_
   refine AW.skip ?_
   refine AW.seq ?_
   refine AW.block ?_
   refine AW.seq ?_
   refine AW.region ?_
   refine Ops.v rfl (Yq rfl rfl) ?_
   refine Ops.v rfl (Y2u (p := 2) Y9v.h rfl rfl rfl) ?_
   refine Ops.v rfl (Yr rfl rfl) ?_
   refine Ops.nil ?_
   refine AW.seq ?_
   refine AW.cut (τ := Int) (fun x163 => ⟨[(1, cM kI64 1 p1), (3, pt b1), (7, cV v94), (8, cM kI64 1 l96), (11, cV v140), (12, cI x142), (13, cI x163)], [oB b1 139 [cI p0.room, cM Y99 9 p0.events, cM Y99 9 p0.parked], oA v94 106 Y9l 3 l95, oA v140 2 kI64 1 l141]⟩) (fun x163 => Z5j l96 l141 x142 x163 = some y274) ?_ ?_
   ·
    refine zw ?_
    refine AW.lp (v := ()) h (fun x153 (_ : Unit) => ⟨[(1, cM kI64 1 p1), (3, pt b1), (7, cV v94), (8, cM kI64 1 l96), (11, cV v140), (12, cI x142), (13, cI x153)], [oB b1 139 [cI p0.room, cM Y99 9 p0.events, cM Y99 9 p0.parked], oA v94 106 Y9l 3 l95, oA v140 2 kI64 1 l141]⟩) (gb [0, 0, 0]) ?_
    rintro x153 _ y281 h
    refine zw ?_
    refine rD [0,0,0] [3,8,13] [] [0,4,8,13,16,20,24,28,33,36,40,44,48,53,58,60] ?_
    refine zw ?_
    refine cnd h (fun hb154 h => ?_) fun hb154 h => ?_
    ·
     refine zw ?_
     refine ob' h fun e155 g156 h => ?_
     refine zw ?_
     refine ob' h fun e157 g158 h => ?_
     refine OpsD.gv rfl rfl rfl rfl rfl hb154 (Y2x (p := 2) Y9v.h rfl rfl rfl g158 rfl) ?_
     refine OpsD.gv rfl rfl rfl rfl rfl hb154 (Y30 (p := 2) ld_2.h rfl rfl (Y29 g158).2.2 rfl rfl) ?_
     refine zw ?_
     refine ob' h fun r159 g160 h => ?_
     refine Y3n.gh (ns := []) rfl rfl rfl rfl rfl hb154 rfl (Y24 ((Z4p _ _ _ _).h _ g160) rfl rfl) ?_
     rintro _ _ ⟨rfl, rfl⟩
     exact go
    refine OpsD.gs rfl rfl rfl rfl (.b rfl hb154) rfl rfl ?_
    refine OpsD.gs rfl rfl rfl rfl (.b rfl hb154) rfl rfl ?_
    refine OpsD.gs rfl rfl rfl rfl (.b rfl hb154) rfl rfl ?_
    refine OpsD.gs rfl rfl rfl rfl (.b rfl hb154) rfl rfl ?_
    refine OpsD.gs rfl rfl rfl rfl (.b rfl hb154) rfl rfl ?_
    refine OpsD.gs rfl rfl rfl rfl (.b rfl hb154) rfl rfl ?_
    refine OpsD.gs rfl rfl rfl rfl (.b rfl hb154) rfl rfl ?_
    refine OpsD.gs rfl rfl rfl rfl (.b rfl hb154) rfl rfl ?_
    refine OpsD.gs rfl rfl rfl rfl (.b rfl hb154) rfl rfl ?_
    refine OpsD.gs rfl rfl rfl rfl (.b rfl hb154) rfl rfl ?_
    refine OpsD.gs rfl rfl rfl rfl (.b rfl hb154) rfl rfl ?_
    refine OpsD.one ?_
    refine Y3n.gs rfl rfl rfl rfl (.b rfl hb154) rfl rfl ?_
    exact go
   intro x163 h
   replace h : Z5j l96 l141 x142 x163 = some y274 := h
   unfold Z5j at h
   refine zw ?_
   refine Ops.h (ns := []) rfl rfl (Y39 (k := kI64) (ys := ([] : List Int)) Yak .nil rfl rfl rfl) ?_
   rintro _ _ ⟨b164, rfl, rfl⟩
   refine zw ?_
   refine ob' h fun u166 c165 h => ?_
   refine Ops.v rfl (Y76 (p := 3) (l := (Int.toNat x163)) Y9v.h rfl rfl rfl (Wo (Y3t c165)) rfl rfl) ?_
   refine ob' h fun u168 c167 h => ?_
   refine ob' h fun u170 c169 h => ?_
   refine Ops.h (ns := [0, 2]) rfl rfl (Y7c Yak rfl rfl (Part.take (Int.toNat x163) (Wo (Y3t c167))) (Wo (Y3t c169)) (Y3w (by decide) c169) rfl) ?_
   rintro _ _ ⟨v171, rfl, rfl⟩
   refine zw ?_
   refine oi h fun e172 g173 h => ?_
   refine zw ?_
   refine Ops.h (ns := []) rfl rfl (Y39 (k := kI64) (ys := [e172]) Yak (.one rfl (One.val rfl) rfl rfl .nil) rfl rfl rfl) ?_
   rintro _ _ ⟨b174, rfl, rfl⟩
   refine ob' h fun u176 c175 h => ?_
   refine Ops.h (ns := [1, 0]) rfl rfl (Y2s Yak rfl rfl (Wo (Y3t c175)) (Y3w (by decide) c175) rfl) ?_
   rintro _ _ ⟨v177, rfl, rfl⟩
   refine zw ?_
   refine ob' h fun u179 c178 h => ?_
   refine Ops.v rfl (Y75 (p := 1) (l := (Int.toNat x163)) Y9v.h rfl rfl rfl (Wo (Y3t c178)) rfl rfl) ?_
   refine ob' h fun u181 c180 h => ?_
   refine ob' h fun u183 c182 h => ?_
   refine Ops.h (ns := [0, 0]) rfl rfl (Y7c Yak rfl rfl (Part.drop (Int.toNat x163) (Wo (Y3t c180))) (Wo (Y3t c182)) (Y3w (by decide) c182) rfl) ?_
   rintro _ _ ⟨v184, rfl, rfl⟩
   exact go
  exact go
 rintro ⟨l186, v185⟩ h
 replace h : Z5i p0 l95 l186 = some r := h
 unfold Z5i at h
 refine AW.seq ?_
 refine AW.cut (τ := List Y93 × Value) (fun (l249, v248) => ⟨[(7, cV v248)], [oA v248 106 Y9l 3 l249]⟩) (fun (l249, v248) => Z5e l249 = some r) ?_ ?_
 ·
  refine zw ?_
  refine AW.lp h (fun (l217, x218) (v216 : Value) => ⟨[(3, pt b1), (7, cV v216), (11, cV v185), (15, cI x218)], [oB b1 139 [cI p0.room, cM Y99 9 p0.events, cM Y99 9 p0.parked], oA v216 106 Y9l 3 l217, oA v185 2 kI64 1 l186]⟩) (gb [0, 0, 0]) ?_
  rintro ⟨l217, x218⟩ v216 y267 h
  refine AW.seq ?_
  refine AW.seq ?_
  refine AW.region ?_
  refine Ops.v rfl (Yq rfl rfl) ?_
  refine Ops.v rfl (Yq rfl rfl) ?_
  refine Ops.v rfl (Y2u (p := 2) Y9v.h rfl rfl rfl) ?_
  refine zw ?_
  refine cnd h (fun hb219 h => ?_) fun hb219 h => ?_
  ·
   refine AW.ct hb219 rfl ?_
   refine AW.skip ?_
   refine AW.seq ?_
   refine AW.block ?_
   refine AW.seq ?_
   refine AW.cut (τ := Int × Int × Int × Int × Int × Int × ByteArray × List Int × Int × Nat) (fun (x230, x231, x232, x233, x234, x235, x236, l237, x238, b229) => ⟨[(3, pt b1), (7, cV v216), (11, cV v185), (15, cI x218), (16, pt b229)], [oB b1 139 [cI p0.room, cM Y99 9 p0.events, cM Y99 9 p0.parked], oA v216 106 Y9l 3 l217, oA v185 2 kI64 1 l186, oB b229 136 [cI x230, cI x231, cI x232, cI x233, cI x234, cI x235, C.str x236, cM kI64 1 l237, cI x238]]⟩) (fun (x230, x231, x232, x233, x234, x235, x236, l237, x238, b229) => Z5g p0 l217 x218 x230 x231 x232 x233 x234 x235 x236 l237 x238 = some y267) ?_ ?_
   ·
    refine AW.regionD (L := [1, 3, 7, 10]) (Lt := [12]) (k := .light 0 false (.light 1 true (.light 2 false (.light 3 true (.light 4 false (.light 5 false (.light 6 false (.light 7 true (.two 8 11 (.light 9 false (.light 10 true (.one 11 (.late 12 (.done))))) (.one 8 (.light 9 false (.light 10 true (.late 12 (.done)))))))))))))) (ns := [0, 0, 0]) (by kernel_rfl) (by kernel_rfl) (by kernel_rfl) (by kernel_rfl) rfl ?_
    refine zw ?_
    refine ob' h fun e220 g221 h => ?_
    refine OpsD.v rfl rfl (Y2x (p := 2) Y9v.h rfl rfl rfl g221 rfl) ?_
    refine OpsD.v rfl rfl (Y30 (p := 2) ld_2.h rfl rfl (Y29 g221).2.2 rfl rfl) ?_
    refine ob' h fun r222 g223 h => ?_
    refine OpsD.two ?_ ?_
    ·
     refine Y3n.h (ns := []) rfl rfl rfl (Y24 ((Z2u _ _).h _ g223) rfl rfl) ?_
     rintro _ _ ⟨rfl, rfl⟩
     refine di h fun e225 g226 h => ?_
     refine OpsD.v rfl rfl (Y1i Yb2.h rfl rfl rfl rfl) ?_
     refine OpsD.one ?_
     refine Y3n.h (ns := []) rfl rfl rfl (Y1p (cs := [cI 0, cI 0, cI 0, cI 0, cI 0, cI 0, C.str ByteArray.empty, cV s0, cI 0]) Yal (Y42 rfl rfl) rfl) ?_
     rintro _ _ ⟨b224, rfl, rfl⟩
     refine OpsD.late (ns := [3]) rfl rfl rfl (Y1u (gs := [cI e225.id, cI e225.room, cI e225.author, cI e225.kind, cI e225.key, cI e225.n, C.str e225.text, cM kI64 1 e225.prev, cI e225.time]) Yb2.h rfl rfl rfl rfl rfl) ?_
     rintro _ _ ⟨rfl, rfl⟩
     refine zw ?_
     exact ⟨(e225.id, e225.room, e225.author, e225.kind, e225.key, e225.n, e225.text, e225.prev, e225.time, b224), h, Y21.both (ns := [1, 1, 1, 0]) rfl rfl⟩
    refine Y3n.h (ns := []) rfl rfl rfl (Y1p (cs := [cI 0, cI 0, cI 0, cI 0, cI 0, cI 0, C.str ByteArray.empty, cV s0, cI 0]) Yal (Y42 rfl rfl) rfl) ?_
    rintro _ _ ⟨b224, rfl, rfl⟩
    refine OpsD.one ?_
    refine Y3n.h (ns := []) rfl rfl rfl (Y24 ((Z2u _ _).h _ g223) rfl rfl) ?_
    rintro _ _ ⟨rfl, rfl⟩
    refine di h fun e227 g228 h => ?_
    refine zw ?_
    refine OpsD.late (ns := [3]) rfl rfl rfl (Y1u (gs := [cI e227.id, cI e227.room, cI e227.author, cI e227.kind, cI e227.key, cI e227.n, C.str e227.text, cM kI64 1 e227.prev, cI e227.time]) Yb2.h rfl rfl rfl rfl rfl) ?_
    rintro _ _ ⟨rfl, rfl⟩
    refine zw ?_
    exact ⟨(e227.id, e227.room, e227.author, e227.kind, e227.key, e227.n, e227.text, e227.prev, e227.time, b224), h, Y21.both (ns := [1, 1, 1, 0]) rfl rfl⟩
   rintro ⟨x230, x231, x232, x233, x234, x235, x236, l237, x238, b229⟩ h
   replace h : Z5g p0 l217 x218 x230 x231 x232 x233 x234 x235 x236 l237 x238 = some y267 := h
   unfold Z5g at h
   refine AW.seq ?_
   refine AW.region ?_
   refine Ops.v rfl (Y1l (p := 0) (ds := [cI p0.room, cM Y99 9 p0.events, cM Y99 9 p0.parked]) Ybf.h rfl rfl rfl rfl rfl) ?_
   refine Ops.v rfl (Yq rfl rfl) ?_
   refine Ops.v rfl (Y1l (p := 3) (ds := [cI x230, cI x231, cI x232, cI x233, cI x234, cI x235, C.str x236, cM kI64 1 l237, cI x238]) Yb2.h rfl rfl rfl rfl rfl) ?_
   refine ob' h fun r239 g240 h => ?_
   refine Ops.hd (ns := [1]) rfl rfl (Y24 (Ok.lendE ((Z5d p0 l217 (Y8v.mk x230 x231 x232 x233 x234 x235 x236 l237 x238)).h _ g240) (fT (FrzT.cons (os := [_]) Frz.arr (fT (FrzT.nil)))) (Y44.val _)) rfl rfl) ?_
   refine zw ?_
   refine cnd h (fun hb241 h => ?_) fun hb241 h => ?_
   ·
    refine AW.ct hb241 rfl ?_
    refine zw ?_
    refine Ops.v rfl (Y38 (ds := [cI x233, cI x234, cI x230]) Yd1 Yd2 (Y42 rfl rfl) (.one rfl (One.val rfl) rfl rfl (.one rfl (One.val rfl) rfl rfl (.one rfl (One.val rfl) rfl rfl .nil))) rfl) ?_
    refine ob' h fun r242 g243 h => ?_
    refine Ops.h (ns := [0]) rfl rfl (Y23 (Ok.lend (Z4d l217 (Y93.mk x233 x234 x230) _ g243) (FrzT.cons (os := [_]) Frz.arr (fT (FrzT.nil))) (by rintro _ _ ⟨_, rfl, rfl⟩; exact ⟨(Y44.val _), Y48 (Y46.arr Yd0) (Y47)⟩)) rfl rfl) ?_
    rintro _ _ ⟨_, ⟨_, ⟨v244, rfl, rfl⟩, rfl⟩, rfl⟩
    exact go
   exact go
  exact go
 rintro ⟨l249, v248⟩ h
 replace h : Z5e l249 = some r := h
 unfold Z5e at h
 refine zw ?_
 refine AW.ret ?_
 rw [← Wj h]
 exact ⟨[cV v248], _, Y21.refl _, (.cons (.tmp rfl) .nil), [0], _, _, rfl, ⟨v248, rfl, rfl⟩⟩
instance Z5t' (p0 : Y90) (p1 : List Int) (p2 : List (List Y93)) : Sp Tryz.prog 182 [C.agg [cI p0.room, cM Y99 9 p0.events, cM Y99 9 p0.parked], cM kI64 1 p1, cM Y9m 1 p2] (Z5s p0 p1 p2) (fun r => cM Y9l 3 r) := ⟨fun r h => Ok.freeze (Z5t p0 p1 p2 r h) (by rintro c qs ⟨v250, rfl, rfl⟩; exact Frz.arr)⟩

def Z5u (p0 : Y8v) : Option Y8v := (chk (decide ((([] : List Int).length + p0.prev.length) * 8 ≤ 140737488355328))).bind fun u5 => some (Y8v.mk p0.id p0.room p0.author p0.kind p0.key p0.n p0.text (([] : List Int) ++ p0.prev) p0.time)
theorem Z5v (p0 : Y8v) (r : Y8v) (h : Z5u p0 = some r) : Ok Tryz.prog 167 [C.agg [cI p0.id, cI p0.room, cI p0.author, cI p0.kind, cI p0.key, cI p0.n, C.str p0.text, cM kI64 1 p0.prev, cI p0.time]] [] (fun c qs => ∃ (v8 : Value), c = C.agg [cI r.id, cI r.room, cI r.author, cI r.kind, cI r.key, cI r.n, C.str r.text, cV v8, cI r.time] ∧ qs = [oA v8 2 kI64 1 r.prev]) := by
 refine Ok.of_body (rs := [.cell 2 136]) Tryz.func167 rfl rfl rfl rfl rfl fun X => ?_
 unfold Z5u at h
 refine zw ?_
 refine ox fun b1 => ?_
 refine Ops.h (ns := []) rfl rfl (Y1p (cs := [cI 0, cI 0, cI 0, cI 0, cI 0, cI 0, C.str ByteArray.empty, cV s0, cI 0]) Yal (Y42 rfl rfl) rfl) ?_
 rintro _ _ ⟨b2, rfl, rfl⟩
 refine zw ?_
 refine Ops.h (ns := []) rfl rfl (Y39 (k := kI64) (ys := ([] : List Int)) Yak .nil rfl rfl rfl) ?_
 rintro _ _ ⟨b3, rfl, rfl⟩
 refine zw ?_
 refine ob' h fun u5 c4 h => ?_
 refine Ops.h (ns := [0]) rfl rfl (Y2r Yak rfl rfl (Wo (Y3t c4)) (Y3w (by decide) c4) rfl) ?_
 rintro _ _ ⟨v6, rfl, rfl⟩
 refine Ops.v rfl (Y1b Yaz.h rfl rfl) ?_
 refine Ops.learn (Sim.arr_one (p := 0) rfl) fun n7 => ?_
 refine Ops.hd (ns := [2]) rfl rfl (Y1t (gs := [cI p0.id, cI p0.room, cI p0.author, cI p0.kind, cI p0.key, cI p0.n, C.str p0.text, cV v6, cI p0.time]) Y9y.h rfl rfl (One.val n7) rfl rfl) ?_
 refine zw ?_
 refine Ops.hd (ns := [2]) rfl rfl (Y1u (gs := [cI p0.id, cI p0.room, cI p0.author, cI p0.kind, cI p0.key, cI p0.n, C.str p0.text, cV v6, cI p0.time]) Yb2.h rfl rfl rfl rfl rfl) ?_
 refine zw ?_
 refine AW.ret ?_
 rw [← Wj h]
 exact ⟨[C.agg [cI p0.id, cI p0.room, cI p0.author, cI p0.kind, cI p0.key, cI p0.n, C.str p0.text, cV v6, cI p0.time]], _, Y21.refl _, (.cons (.cell (p := 0) rfl rfl Yb2.h rfl) .nil), [2], _, _, rfl, ⟨v6, rfl, rfl⟩⟩
instance Z5v' (p0 : Y8v) : Sp Tryz.prog 167 [C.agg [cI p0.id, cI p0.room, cI p0.author, cI p0.kind, cI p0.key, cI p0.n, C.str p0.text, cM kI64 1 p0.prev, cI p0.time]] (Z5u p0) (fun r => C.agg [cI r.id, cI r.room, cI r.author, cI r.kind, cI r.key, cI r.n, C.str r.text, cM kI64 1 r.prev, cI r.time]) := ⟨fun r h => Ok.freeze (Z5v p0 r h) (by rintro c qs ⟨v8, rfl, rfl⟩; exact Frz.agg (fS (fS (fS (fS (fS (fS (fS (FrzL.cons (os := [_]) (Frz.arr) (fS (FrzL.nil)))))))))))⟩

def Z5w (p0 : Y90) (p1 : Int) : Option Y8v := (Z2t p0.events p1).bind fun r3 => cond (decide (r3 < 0)) (some (Y8v.mk 0 0 0 0 0 0 ByteArray.empty [] 0)) ((getI p0.events r3).bind fun e6 => (Z5u e6).bind fun r8 => some r8)
instance Z5x (p0 : Y90) (p1 : Int) : Sp Tryz.prog 278 [C.agg [cI p0.room, cM Y99 9 p0.events, cM Y99 9 p0.parked], cI p1] (Z5w p0 p1) (fun r => C.agg [cI r.id, cI r.room, cI r.author, cI r.kind, cI r.key, cI r.n, C.str r.text, cM kI64 1 r.prev, cI r.time]) := sp Tryz.func278 rfl rfl fun r X h => by
 unfold Z5w at h
 refine zw ?_
 refine ox fun b1 => ?_
 refine Ops.h (ns := []) rfl rfl (Y1p (cs := [cI 0, cI 0, cI 0, cI 0, cI 0, cI 0, C.str ByteArray.empty, cV s0, cI 0]) Yal (Y42 rfl rfl) rfl) ?_
 rintro _ _ ⟨b2, rfl, rfl⟩
 refine zw ?_
 refine oc h fun r3 g4 h => ?_
 refine zw ?_
 refine cnd h (fun hb5 h => ?_) fun hb5 h => ?_
 ·
  refine AW.ct hb5 rfl ?_
  refine zw ?_
  refine Ops.v rfl (Y38 (ds := [cI 0, cI 0, cI 0, cI 0, cI 0, cI 0, C.str ByteArray.empty, cV s0, cI 0]) Ycx Yal (Y42 rfl rfl) .nil rfl) ?_
  refine Ops.hd (ns := [0]) rfl rfl (Y1u (gs := [cI 0, cI 0, cI 0, cI 0, cI 0, cI 0, C.str ByteArray.empty, cV s0, cI 0]) Yb2.h rfl rfl rfl rfl rfl) ?_
  refine zw ?_
  refine AW.ret ?_
  rw [← Wj h]
  exact ⟨[C.agg [cI 0, cI 0, cI 0, cI 0, cI 0, cI 0, C.str ByteArray.empty, cM kI64 1 [], cI 0]], _, Y21.boxFrz (ns := [0]) rfl (fS (fS (fS (fS (fS (fS (fS (FrzL.cons (os := []) (Frz.imp (Imp.nil kI64 1)) (fS FrzL.nil))))))))), (.cons (.cell (p := 0) rfl rfl Yb2.h rfl) .nil), [], _, _, rfl, ⟨rfl, rfl⟩⟩
 refine AW.cf hb5 rfl ?_
 refine zw ?_
 refine oi h fun e6 g7 h => ?_
 refine zw ?_
 refine oc h fun r8 g9 h => ?_
 refine Ops.hd (ns := [0]) rfl rfl (Y1u (gs := [cI r8.id, cI r8.room, cI r8.author, cI r8.kind, cI r8.key, cI r8.n, C.str r8.text, cM kI64 1 r8.prev, cI r8.time]) Yb2.h rfl rfl rfl rfl rfl) ?_
 refine zw ?_
 refine AW.ret ?_
 rw [← Wj h]
 exact ⟨[C.agg [cI r8.id, cI r8.room, cI r8.author, cI r8.kind, cI r8.key, cI r8.n, C.str r8.text, cM kI64 1 r8.prev, cI r8.time]], _, Y21.refl _, (.cons (.cell (p := 0) rfl rfl Yb2.h rfl) .nil), [], _, _, rfl, ⟨rfl, rfl⟩⟩

def Z5y : Option Bool := some false
def Z5z (p0 : Y90) (p1 : Int) (l35 : List Bool) (l37 : List Int) : Option ((List Bool × List Int) ⊕ (Bool ⊕ Unit)) := cond (decide ((l37.length : Int) > 0)) ((getI l37 0).bind fun e39 => (chk (decide ((0 : Int) ≤ 1 ∧ 1 ≤ (l37.length : Int)))).bind fun u42 => (Z2t p0.events e39).bind fun r44 => cond (e39 == p1) (some (.inr (.inl true))) ((getI l35 r44).bind fun e47 => cond e47 (some (.inl (l35, (List.drop (Int.toNat 1) l37)))) ((getI p0.events r44).bind fun e50 => (chk (decide (((List.drop (Int.toNat 1) l37).length + e50.prev.length) * 8 ≤ 140737488355328))).bind fun u53 => some (.inl ((List.set l35 (Int.toNat r44) true), ((List.drop (Int.toNat 1) l37) ++ e50.prev)))))) (some (.inr (.inr ())))
def Z60 (p0 : Y90) (p1 : Int) (p2 : Int) (x7 : Bool) : Option Bool := cond x7 (some false) ((chk (decide (0 ≤ (p0.events.length : Int) ∧ (p0.events.length : Int) * 1 ≤ 140737488355328))).bind fun u10 => (Z5w p0 p2).bind fun r13 => (chk (decide ((([] : List Int).length + r13.prev.length) * 8 ≤ 140737488355328))).bind fun u16 => (iter (fun z55 => Z5z p0 p1 z55.1 z55.2) big ((List.replicate (Int.toNat (p0.events.length : Int)) false), (([] : List Int) ++ r13.prev))).bind (fun z57 => match z57 with | .inl y56 => some y56 | .inr () => Z5y))
def Z61 (p0 : Y90) (p1 : Int) (p2 : Int) : Option Bool := (Z2t p0.events p1).bind fun r2 => cond (decide (r2 < 0)) (Z60 p0 p1 p2 true) ((Z2t p0.events p2).bind fun r5 => Z60 p0 p1 p2 (decide (r5 < 0)))
instance Z62 (p0 : Y90) (p1 : Int) (p2 : Int) : Sp Tryz.prog 229 [C.agg [cI p0.room, cM Y99 9 p0.events, cM Y99 9 p0.parked], cI p1, cI p2] (Z61 p0 p1 p2) C.bool := sp Tryz.func229 rfl rfl fun r X h => by
 unfold Z61 at h
 refine zw ?_
 refine ox fun b1 => ?_
 refine Ops.v rfl (Yr rfl rfl) ?_
 refine Ops.nil ?_
 refine AW.seq ?_
 refine AW.seq ?_
 refine AW.cut (τ := Bool) (fun x7 => ⟨[(1, cI p1), (2, cI p2), (3, pt b1), (22, C.bool x7)], [oB b1 139 [cI p0.room, cM Y99 9 p0.events, cM Y99 9 p0.parked]]⟩) (fun x7 => Z60 p0 p1 p2 x7 = some r) ?_ ?_
 ·
  refine zw ?_
  refine oc h fun r2 g3 h => ?_
  refine zw ?_
  refine cnd h (fun hb4 h => go) fun hb4 h => ?_
  refine zw ?_
  refine ob' h fun r5 g6 h => ?_
  refine Ops.ghd (ns := []) rfl rfl rfl rfl hb4 rfl (Y24 ((Z2u _ _).h _ g6) rfl rfl) ?_
  exact go
 intro x7 h
 replace h : Z60 p0 p1 p2 x7 = some r := h
 unfold Z60 at h
 refine cnd h (fun hb8 h => go) fun hb8 h => ?_
 refine AW.cf hb8 rfl ?_
 refine zw ?_
 refine ob' h fun u10 c9 h => ?_
 refine Ops.h (ns := []) rfl rfl (Y3b (k := Y9n) (z := false) Yd3 ze_4 (Y42 rfl rfl) rfl rfl (Y3x c9).1 (Y3x c9).2 (Y3y (by decide) c9) rfl) ?_
 rintro _ _ ⟨b11, rfl, rfl⟩
 refine zw ?_
 refine Ops.h (ns := []) rfl rfl (Y39 (k := kI64) (ys := ([] : List Int)) Yak .nil rfl rfl rfl) ?_
 rintro _ _ ⟨b12, rfl, rfl⟩
 refine zw ?_
 refine oc h fun r13 g14 h => ?_
 refine Ops.v rfl (Y6v Yd4 rfl rfl rfl) ?_
 refine ob' h fun u16 c15 h => ?_
 refine Ops.h (ns := [0]) rfl rfl (Y2r Yak rfl rfl (Wo (Y3t c15)) (Y3w (by decide) c15) rfl) ?_
 rintro _ _ ⟨v17, rfl, rfl⟩
 refine zw ?_
 refine AW.lp h (fun (l35, l37) (v36 : Value) => ⟨[(1, cI p1), (3, pt b1), (7, cV (sn b11 (p0.events.length : Int))), (8, cV v36)], [oB b1 139 [cI p0.room, cM Y99 9 p0.events, cM Y99 9 p0.parked], oA (sn b11 (p0.events.length : Int)) 4 Y9n 1 l35, Obj.que v36 2 kI64 1 l37]⟩) ((Y21.que (p := 0) rfl).trans (Y21.both (ns := [2, 1, 0]) rfl rfl)) ?_
 rintro ⟨l35, l37⟩ v36 y63 h
 refine zw ?_
 refine Ops.v rfl (Y7l (p := 2) Y9v.h rfl rfl rfl) ?_
 refine zw ?_
 refine cnd h (fun hb38 h => ?_) fun hb38 h => ?_
 ·
  refine AW.ct hb38 rfl ?_
  refine zw ?_
  refine ob' h fun e39 g40 h => ?_
  refine Ops.v rfl (Y7m (p := 2) Y9v.h rfl rfl rfl g40 rfl) ?_
  refine Ops.v rfl (Y7n (p := 2) ld_2.h rfl rfl (Y29 g40).2.2 rfl rfl) ?_
  refine zw ?_
  refine ob' h fun u42 c41 h => ?_
  refine Ops.h (ns := [2]) rfl rfl (Y7o (l := (Int.toNat 1)) Y9v.h rfl rfl (Wo (Y3t c41)) rfl rfl) ?_
  rintro _ _ ⟨v43, rfl, rfl⟩
  refine zw ?_
  refine oc h fun r44 g45 h => ?_
  refine zw ?_
  refine cnd h (fun hb46 h => go) fun hb46 h => ?_
  refine AW.cf hb46 rfl ?_
  refine zw ?_
  refine ob' h fun e47 g48 h => ?_
  refine Ops.v rfl (Y2x (p := 2) Yd5.h rfl rfl rfl g48 rfl) ?_
  refine Ops.v rfl (Y30 (p := 2) ld_4.h rfl rfl (Y29 g48).2.2 rfl rfl) ?_
  refine zw ?_
  refine cnd h (fun hb49 h => go) fun hb49 h => ?_
  refine AW.cond rfl (fun _ => ?_) (fun hn => absurd ((Y3v hb49).symm.trans hn) (by decide))
  refine AW.seq ?_
  refine AW.region ?_
  refine Ops.v rfl (Yq rfl rfl) ?_
  refine Ops.v rfl (Yq rfl rfl) ?_
  refine Ops.v rfl (Y2x (p := 2) Yd5.h rfl rfl rfl g48 rfl) ?_
  refine Ops.hd (ns := [2]) rfl rfl (Y33 (e' := true) ld_4.h rfl rfl (One.val rfl) (Y29 g48).2.2 rfl rfl) ?_
  refine zw ?_
  refine oi h fun e50 g51 h => ?_
  refine zw ?_
  refine ob' h fun u53 c52 h => ?_
  refine Ops.h (ns := [1]) rfl rfl (Y7r Yak rfl rfl (Wo (Y3t c52)) (Y3w (by decide) c52) rfl) ?_
  rintro _ _ ⟨v54, rfl, rfl⟩
  exact go
 exact go

end Go.Proofs.YtbgichfjcnibpaaGreat
