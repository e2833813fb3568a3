/- Printed by gen.py: plain functions for Go functions, and that the walks keep to them. -/
import Derived.Test.YtbgichfjcnibpaaGreatFQ4
set_option autoImplicit false
set_option linter.unusedVariables false
set_option linter.unusedSimpArgs false
set_option maxHeartbeats 1000000
set_option maxRecDepth 100000
namespace Go.Proofs.YtbgichfjcnibpaaGreat
open Go Go.Abs
attribute [local irreducible] AW Ops OpsD Y3k
def Zbp (x31 : Int) (l47 : List Int) : Option ((List Int × Int) ⊕ ((List Int))) := some (.inl (l47, (IntKind.i64.wrap (x31 * 2))))
def Zbq (p1 : Int) (p2_0 : List Int) (x31 : Int) (l42 : List Int) (x43 : Int) : Option ((List Int × Int) ⊕ ((List Int))) := cond (decide ((IntKind.i64.wrap (x43 + x31)) < p1)) ((Zbn l42 x43 (IntKind.i64.wrap (x43 + x31)) p1 p2_0).bind fun r45 => Zbp x31 r45) (Zbp x31 l42)
def Zbr (p1 : Int) (p2_0 : List Int) (x31 : Int) (l36 : List Int) (x37 : Int) (x38 : Int) : Option ((List Int × Int × Int) ⊕ ((List Int × Int))) := cond (decide (x38 ≤ p1)) ((Zbn l36 x37 (IntKind.i64.wrap (x37 + x31)) x38 p2_0).bind fun r40 => some (.inl (r40, x38, (IntKind.i64.wrap (x38 + (IntKind.i64.wrap (2 * x31))))))) (some (.inr (l36, x37)))
def Zbs (p1 : Int) (p2_0 : List Int) (l30 : List Int) (x31 : Int) : Option ((List Int × Int) ⊕ ((List Int))) := cond (decide (x31 < p1)) ((iter (fun z48 => Zbr p1 p2_0 x31 z48.1 z48.2.1 z48.2.2) big (l30, 0, (IntKind.i64.wrap (2 * x31)))).bind fun (y49, y50) => Zbq p1 p2_0 x31 y49 y50) (some (.inr l30))
def Zbt (p1 : Int) (p2_0 : List Int) (l10 : List Int) (x11 : Int) : Option (List Int) := (Zau l10 x11 p1 p2_0).bind fun r12 => (iter (fun z51 => Zbs p1 p2_0 z51.1 z51.2) big (r12, 20)).bind fun y52 => some y52
def Zbu (p1 : Int) (p2_0 : List Int) (l4 : List Int) (x5 : Int) (x6 : Int) : Option ((List Int × Int × Int) ⊕ ((List Int × Int))) := cond (decide (x6 ≤ p1)) ((Zau l4 x5 x6 p2_0).bind fun r8 => some (.inl (r8, x6, (IntKind.i64.wrap (x6 + 20))))) (some (.inr (l4, x5)))
def Zbv (p0 : List Int) (p1 : Int) (p2_0 : List Int) : Option (List Int) := (iter (fun z53 => Zbu p1 p2_0 z53.1 z53.2.1 z53.2.2) big (p0, 0, 20)).bind fun (y54, y55) => Zbt p1 p2_0 y54 y55
theorem Zbw {w00 : Value} {b01 : Nat} (p0 : List Int) (p1 : Int) (p2_0 : List Int) (r : List Int) (h : Zbv p0 p1 p2_0 = some r) : Ok Tryz.prog 283 [cV w00, cI p1, C.clo 239 [pt b01]] [oA w00 3 kI64 1 p0, oB b01 57 [cM kI64 1 p2_0]] (fun c qs => c = C.tup [] ∧ qs = [oA w00 3 kI64 1 r, oB b01 57 [cM kI64 1 p2_0]]) := by
 refine Ok.of_body (rs := []) Tryz.func283 rfl rfl rfl rfl rfl fun X => ?_
 unfold Zbv at h
 refine AW.seq ?_
 refine AW.region ?_
 refine Ops.v rfl (Yr rfl rfl) ?_
 refine Ops.nil ?_
 refine AW.seq ?_
 refine AW.region ?_
 refine Ops.v rfl (Yq rfl rfl) ?_
 refine Ops.v rfl (Yr rfl rfl) ?_
 refine Ops.v rfl (Yr rfl rfl) ?_
 refine Ops.nil ?_
 refine AW.seq ?_
 refine AW.cut (τ := List Int × Int) (fun (l10, x11) => ⟨[(0, cV w00), (1, cI p1), (2, C.clo 239 [pt b01]), (6, cI 20), (7, cI x11)], [oA w00 3 kI64 1 l10, oB b01 57 [cM kI64 1 p2_0]]⟩) (fun (l10, x11) => Zbt p1 p2_0 l10 x11 = some r) ?_ ?_
 ·
  refine zw ?_
  refine ob' h fun o70 g71 q72 => ?_
  refine AW.loop (τ := List Int × Int × Int) (x := (p0, 0, 20)) (fun (l4, x5, x6) => ⟨[(0, cV w00), (1, cI p1), (2, C.clo 239 [pt b01]), (6, cI 20), (7, cI x5), (8, cI x6)], [oA w00 3 kI64 1 l4, oB b01 57 [cM kI64 1 p2_0]]⟩) (fun k (l4, x5, x6) => iter (fun z53 => Zbu p1 p2_0 z53.1 z53.2.1 z53.2.2) k (l4, x5, x6) = some o70) g71 (Y1z.both (ns := [0, 0]) rfl rfl) ?_
  rintro k ⟨l4, x5, x6⟩ i74
  refine Y3y (show iter (fun z53 => Zbu p1 p2_0 z53.1 z53.2.1 z53.2.2) k (l4, x5, x6) = some o70 from i74) fun k73 y75 hlt_k73 h h76 => ?_
  replace h : Zbu p1 p2_0 l4 x5 x6 = some y75 := h
  unfold Zbu at h
  refine zw ?_
  refine cnd h (fun hb7 h => ?_) fun hb7 h => ?_
  ·
   refine AW.ct hb7 rfl ?_
   refine zw ?_
   refine ob' h fun r8 g9 h => ?_
   refine Ops.hd (ns := [0, 0]) rfl rfl (Y22 (Zav l4 x5 x6 p2_0 _ g9) rfl rfl) ?_
   refine zw ?_
   obtain rfl := Wj h
   exact ⟨k73, (r8, x6, (IntKind.i64.wrap (x6 + 20))), hlt_k73, h76, Y1z.both (ns := [0, 0]) rfl rfl⟩
  refine AW.cf hb7 rfl ?_
  refine AW.exit ?_
  obtain rfl := Wj h
  obtain rfl := Wj h76
  replace h := q72
  exact ⟨(l4, x5), h, Y1z.both (ns := [0, 0]) rfl rfl⟩
 rintro ⟨l10, x11⟩ h
 replace h : Zbt p1 p2_0 l10 x11 = some r := h
 unfold Zbt at h
 refine zw ?_
 refine ob' h fun r12 g13 h => ?_
 refine Ops.hd (ns := [0, 0]) rfl rfl (Y22 (Zav l10 x11 p1 p2_0 _ g13) rfl rfl) ?_
 refine zw ?_
 refine ob' h fun o56 g57 q58 => ?_
 refine AW.loop (τ := List Int × Int) (x := (r12, 20)) (fun (l30, x31) => ⟨[(0, cV w00), (1, cI p1), (2, C.clo 239 [pt b01]), (6, cI x31)], [oA w00 3 kI64 1 l30, oB b01 57 [cM kI64 1 p2_0]]⟩) (fun k (l30, x31) => iter (fun z51 => Zbs p1 p2_0 z51.1 z51.2) k (l30, x31) = some o56) g57 (Y1z.both (ns := [0, 0]) rfl rfl) ?_
 rintro k ⟨l30, x31⟩ i60
 refine Y3y (show iter (fun z51 => Zbs p1 p2_0 z51.1 z51.2) k (l30, x31) = some o56 from i60) fun k59 y61 hlt_k59 h h62 => ?_
 replace h : Zbs p1 p2_0 l30 x31 = some y61 := h
 unfold Zbs at h
 refine zw ?_
 refine cnd h (fun hb32 h => ?_) fun hb32 h => ?_
 ·
  refine AW.ct hb32 rfl ?_
  refine AW.skip ?_
  refine AW.block ?_
  refine AW.seq ?_
  refine AW.region ?_
  refine Ops.v rfl (Yq rfl rfl) ?_
  refine Ops.v rfl (Yv rfl rfl rfl rfl) ?_
  refine Ops.v rfl (Yr rfl rfl) ?_
  refine Ops.v rfl (Yr rfl rfl) ?_
  refine Ops.nil ?_
  refine AW.seq ?_
  refine AW.cut (τ := List Int × Int) (fun (l42, x43) => ⟨[(0, cV w00), (1, cI p1), (2, C.clo 239 [pt b01]), (6, cI x31), (7, cI x43)], [oA w00 3 kI64 1 l42, oB b01 57 [cM kI64 1 p2_0]]⟩) (fun (l42, x43) => Zbq p1 p2_0 x31 l42 x43 = some y61) ?_ ?_
  ·
   refine zw ?_
   refine ob' h fun o63 g64 q65 => ?_
   refine AW.loop (τ := List Int × Int × Int) (x := (l30, 0, (IntKind.i64.wrap (2 * x31)))) (fun (l36, x37, x38) => ⟨[(0, cV w00), (1, cI p1), (2, C.clo 239 [pt b01]), (6, cI x31), (7, cI x37), (8, cI x38)], [oA w00 3 kI64 1 l36, oB b01 57 [cM kI64 1 p2_0]]⟩) (fun k (l36, x37, x38) => iter (fun z48 => Zbr p1 p2_0 x31 z48.1 z48.2.1 z48.2.2) k (l36, x37, x38) = some o63) g64 (Y1z.both (ns := [0, 0]) rfl rfl) ?_
   rintro k ⟨l36, x37, x38⟩ i67
   refine Y3y (show iter (fun z48 => Zbr p1 p2_0 x31 z48.1 z48.2.1 z48.2.2) k (l36, x37, x38) = some o63 from i67) fun k66 y68 hlt_k66 h h69 => ?_
   replace h : Zbr p1 p2_0 x31 l36 x37 x38 = some y68 := h
   unfold Zbr at h
   refine zw ?_
   refine cnd h (fun hb39 h => ?_) fun hb39 h => ?_
   ·
    refine AW.ct hb39 rfl ?_
    refine zw ?_
    refine ob' h fun r40 g41 h => ?_
    refine Ops.hd (ns := [0, 0]) rfl rfl (Y22 (Zbo l36 x37 (IntKind.i64.wrap (x37 + x31)) x38 p2_0 _ g41) rfl rfl) ?_
    refine zw ?_
    obtain rfl := Wj h
    exact ⟨k66, (r40, x38, (IntKind.i64.wrap (x38 + (IntKind.i64.wrap (2 * x31))))), hlt_k66, h69, Y1z.both (ns := [0, 0]) rfl rfl⟩
   refine AW.cf hb39 rfl ?_
   refine AW.exit ?_
   obtain rfl := Wj h
   obtain rfl := Wj h69
   replace h := q65
   exact ⟨(l36, x37), h, Y1z.both (ns := [0, 0]) rfl rfl⟩
  rintro ⟨l42, x43⟩ h
  replace h : Zbq p1 p2_0 x31 l42 x43 = some y61 := h
  unfold Zbq at h
  refine AW.seq ?_
  refine AW.cut (τ := List Int) (fun l47 => ⟨[(0, cV w00), (1, cI p1), (2, C.clo 239 [pt b01]), (6, cI x31)], [oA w00 3 kI64 1 l47, oB b01 57 [cM kI64 1 p2_0]]⟩) (fun l47 => Zbp x31 l47 = some y61) ?_ ?_
  ·
   refine zw ?_
   refine cnd h (fun hb44 h => ?_) fun hb44 h => ?_
   ·
    refine AW.ct hb44 rfl ?_
    refine zw ?_
    refine ob' h fun r45 g46 h => ?_
    refine Ops.hd (ns := [0, 0]) rfl rfl (Y22 (Zbo l42 x43 (IntKind.i64.wrap (x43 + x31)) p1 p2_0 _ g46) rfl rfl) ?_
    refine zw ?_
    exact ⟨r45, h, Y1z.both (ns := [0, 0]) rfl rfl⟩
   refine AW.cf hb44 rfl ?_
   refine zw ?_
   exact ⟨l42, h, Y1z.both (ns := [0, 0]) rfl rfl⟩
  intro l47 h
  replace h : Zbp x31 l47 = some y61 := h
  unfold Zbp at h
  refine zw ?_
  obtain rfl := Wj h
  exact ⟨k59, (l47, (IntKind.i64.wrap (x31 * 2))), hlt_k59, h62, Y1z.both (ns := [0, 0]) rfl rfl⟩
 refine AW.cf hb32 rfl ?_
 refine AW.exit ?_
 obtain rfl := Wj h
 obtain rfl := Wj h62
 replace h := q58
 rw [← Wj h]
 exact ⟨[], _, Y1z.refl _, .nil, [0, 0], _, _, rfl, ⟨rfl, rfl⟩⟩

def Zbx (p0 : List Int) (p1_0 : List Int) : Option (List Int) := (Zbv p0 (p0.length : Int) p1_0).bind fun r1 => some r1
theorem Zby {w00 : Value} {b01 : Nat} (p0 : List Int) (p1_0 : List Int) (r : List Int) (h : Zbx p0 p1_0 = some r) : Ok Tryz.prog 238 [cV w00, C.clo 239 [pt b01]] [oA w00 3 kI64 1 p0, oB b01 57 [cM kI64 1 p1_0]] (fun c qs => c = C.tup [] ∧ qs = [oA w00 3 kI64 1 r, oB b01 57 [cM kI64 1 p1_0]]) := by
 refine Ok.of_body (rs := []) Tryz.func238 rfl rfl rfl rfl rfl fun X => ?_
 unfold Zbx at h
 refine zw ?_
 refine ob' h fun r1 g2 h => ?_
 refine Ops.hd (ns := [0, 0]) rfl rfl (Y22 (Zbw p0 (p0.length : Int) p1_0 _ g2) rfl rfl) ?_
 refine zw ?_
 rw [← Wj h]
 exact ⟨[], _, Y1z.refl _, .nil, [0, 0], _, _, rfl, ⟨rfl, rfl⟩⟩

def Zbz (l46 : List Int) : Option (List Int) := some l46
def Zc0 (p0 : Y8l) (r21 : List Int) (l34 : List Int) (x35 : Int) : Option ((List Int × Int) ⊕ ((List Int))) := cond (decide (x35 < (r21.length : Int))) ((getI r21 x35).bind fun e37 => (getI p0.events e37).bind fun e39 => (chk (decide ((l34.length + [e39.id].length) * 8 ≤ 140737488355328))).bind fun u43 => some (.inl ((l34 ++ [e39.id]), (IntKind.i64.wrap (x35 + 1))))) (some (.inr l34))
def Zc1 (p0 : Y8l) (r2 : List Int × Bool) (l20 : List Int) : Option (List Int) := (Zbx l20 r2.1).bind fun r21 => (iter (fun z48 => Zc0 p0 r21 z48.1 z48.2) big (([] : List Int), 0)).bind fun y49 => Zbz y49
def Zc2 (p0 : Y8l) (l12 : List Int) (x13 : Int) : Option ((List Int × Int) ⊕ ((List Int))) := cond (decide (x13 < (p0.events.length : Int))) ((chk (decide ((l12.length + [x13].length) * 8 ≤ 140737488355328))).bind fun u17 => some (.inl ((l12 ++ [x13]), (IntKind.i64.wrap (x13 + 1))))) (some (.inr l12))
def Zc3 (p0 : Y8l) : Option (List Int) := (Za2 p0).bind fun r2 => (iter (fun z50 => Zc2 p0 z50.1 z50.2) big (([] : List Int), 0)).bind fun y51 => Zc1 p0 r2 y51
theorem Zc4 (p0 : Y8l) (r : List Int) (h : Zc3 p0 = some r) : Ok Tryz.prog 191 [C.agg [cI p0.room, cM Y8t 9 p0.events, cM Y8t 9 p0.parked]] [] (fun c qs => ∃ (v47 : Value), c = cV v47 ∧ qs = [oA v47 2 kI64 1 r]) := by
 refine Ok.of_body (rs := [.tmp 2]) Tryz.func191 rfl rfl rfl rfl rfl fun X => ?_
 unfold Zc3 at h
 refine zw ?_
 refine ox fun b1 => ?_
 refine zw ?_
 refine oc h fun r2 g3 h => ?_
 refine zw ?_
 refine Ops.h (ns := []) rfl rfl (Y1n (cs := [cV s0]) Ycf (Y3z rfl rfl) rfl) ?_
 rintro _ _ ⟨b4, rfl, rfl⟩
 refine Ops.hd (ns := [0]) rfl rfl (Y1r (gs := [cM kI64 1 r2.1]) Y9e.h rfl rfl One.im rfl rfl) ?_
 refine zw ?_
 refine Ops.h (ns := []) rfl rfl (Y36 (k := kI64) (ys := ([] : List Int)) Ycc .nil rfl rfl rfl) ?_
 rintro _ _ ⟨b5, rfl, rfl⟩
 refine Ops.v rfl (Yr rfl rfl) ?_
 refine Ops.nil ?_
 refine AW.seq ?_
 refine AW.cut (τ := List Int × Value) (fun (l20, v19) => ⟨[(1, pt b1), (3, pt b4), (5, cV v19)], [oB b1 139 [cI p0.room, cM Y8t 9 p0.events, cM Y8t 9 p0.parked], oB b4 57 [cM kI64 1 r2.1], oA v19 3 kI64 1 l20]⟩) (fun (l20, v19) => Zc1 p0 r2 l20 = some r) ?_ ?_
 ·
  refine zw ?_
  refine AW.lp h (fun (l12, x13) (v11 : Value) => ⟨[(1, pt b1), (3, pt b4), (5, cV v11), (18, cI (p0.events.length : Int)), (19, cI x13)], [oB b1 139 [cI p0.room, cM Y8t 9 p0.events, cM Y8t 9 p0.parked], oB b4 57 [cM kI64 1 r2.1], oA v11 3 kI64 1 l12]⟩) (gb [2, 1, 0]) ?_
  rintro ⟨l12, x13⟩ v11 y64 h
  refine zw ?_
  refine cnd h (fun hb14 h => ?_) fun hb14 h => ?_
  ·
   refine AW.ct hb14 rfl ?_
   refine zw ?_
   refine Ops.h (ns := []) rfl rfl (Y36 (k := kI64) (ys := [x13]) Ycc (.one rfl (One.val rfl) rfl rfl .nil) rfl rfl rfl) ?_
   rintro _ _ ⟨b15, rfl, rfl⟩
   refine ob' h fun u17 c16 h => ?_
   refine Ops.h (ns := [3, 0]) rfl rfl (Y2q Ycc rfl rfl (Wo (Y3q c16)) (Y3t (by decide) c16) rfl) ?_
   rintro _ _ ⟨v18, rfl, rfl⟩
   exact go
  exact go
 rintro ⟨l20, v19⟩ h
 replace h : Zc1 p0 r2 l20 = some r := h
 unfold Zc1 at h
 refine zw ?_
 refine Ops.v rfl (Y6h rfl rfl) ?_
 refine ob' h fun r21 g22 h => ?_
 refine Ops.hd (ns := [2, 1]) rfl rfl (Y22 (Zby l20 r2.1 _ g22) rfl rfl) ?_
 refine zw ?_
 refine Ops.h (ns := []) rfl rfl (Y36 (k := kI64) (ys := ([] : List Int)) Y9s .nil rfl rfl rfl) ?_
 rintro _ _ ⟨b23, rfl, rfl⟩
 refine Ops.v rfl (Yr rfl rfl) ?_
 refine Ops.nil ?_
 refine AW.seq ?_
 refine AW.cut (τ := List Int × Value) (fun (l46, v45) => ⟨[(7, cV v45)], [oA v45 2 kI64 1 l46]⟩) (fun (l46, v45) => Zbz l46 = some r) ?_ ?_
 ·
  refine zw ?_
  refine AW.lp h (fun (l34, x35) (v33 : Value) => ⟨[(1, pt b1), (7, cV v33), (31, cV v19), (32, cI (r21.length : Int)), (33, cI x35)], [oB b1 139 [cI p0.room, cM Y8t 9 p0.events, cM Y8t 9 p0.parked], oA v33 2 kI64 1 l34, oA v19 3 kI64 1 r21]⟩) (gb [3, 0, 0]) ?_
  rintro ⟨l34, x35⟩ v33 y57 h
  refine zw ?_
  refine cnd h (fun hb36 h => ?_) fun hb36 h => ?_
  ·
   refine AW.ct hb36 rfl ?_
   refine zw ?_
   refine ob' h fun e37 g38 h => ?_
   refine Ops.v rfl (Y2v (p := 2) Ycd.h rfl rfl rfl g38 rfl) ?_
   refine Ops.v rfl (Y2x (p := 2) ld_3.h rfl rfl (Y27 g38).2.2 rfl rfl) ?_
   refine zw ?_
   refine oi h fun e39 g40 h => ?_
   refine zw ?_
   refine Ops.h (ns := []) rfl rfl (Y36 (k := kI64) (ys := [e39.id]) Y9s (.one rfl (One.val rfl) rfl rfl .nil) rfl rfl rfl) ?_
   rintro _ _ ⟨b41, rfl, rfl⟩
   refine ob' h fun u43 c42 h => ?_
   refine Ops.h (ns := [2, 0]) rfl rfl (Y2q Y9s rfl rfl (Wo (Y3q c42)) (Y3t (by decide) c42) rfl) ?_
   rintro _ _ ⟨v44, rfl, rfl⟩
   exact go
  exact go
 rintro ⟨l46, v45⟩ h
 replace h : Zbz l46 = some r := h
 unfold Zbz at h
 refine zw ?_
 refine AW.ret ?_
 rw [← Wj h]
 exact ⟨[cV v45], _, Y1z.refl _, (.cons (.tmp rfl) .nil), [0], _, _, rfl, ⟨v45, rfl, rfl⟩⟩
instance Zc4' (p0 : Y8l) : Sp Tryz.prog 191 [C.agg [cI p0.room, cM Y8t 9 p0.events, cM Y8t 9 p0.parked]] (Zc3 p0) (fun r => cM kI64 1 r) := ⟨fun r h => Ok.freeze (Zc4 p0 r h) (by rintro c qs ⟨v47, rfl, rfl⟩; exact Frz.arr)⟩

def Zc5 (p0 : Y8l) (p1 : Int) : Option (Y8h × Bool) := (Z9h p0.events p1).bind fun r3 => cond r3.2 ((getI p0.events r3.1).bind fun e6 => some (e6, true)) (some ((Y8h.mk 0 0 0 0 0 0 ByteArray.empty [] 0), false))
instance Zc6 (p0 : Y8l) (p1 : Int) : Sp Tryz.prog 139 [C.agg [cI p0.room, cM Y8t 9 p0.events, cM Y8t 9 p0.parked], cI p1] (Zc5 p0 p1) (fun r => C.tup [C.agg [cI r.1.id, cI r.1.room, cI r.1.author, cI r.1.kind, cI r.1.key, cI r.1.n, C.str r.1.text, cM kI64 1 r.1.prev, cI r.1.time], C.bool r.2]) := sp Tryz.func139 rfl rfl fun r X h => by
 unfold Zc5 at h
 refine zw ?_
 refine ox fun b1 => ?_
 refine Ops.h (ns := []) rfl rfl (Y1n (cs := [cI 0, cI 0, cI 0, cI 0, cI 0, cI 0, C.str ByteArray.empty, cV s0, cI 0]) Y9t (Y3z rfl rfl) rfl) ?_
 rintro _ _ ⟨b2, rfl, rfl⟩
 refine zw ?_
 refine oc h fun r3 g4 h => ?_
 refine zw ?_
 refine cnd h (fun hb5 h => ?_) fun hb5 h => ?_
 ·
  refine AW.cond rfl (fun hn => absurd ((Y3r hb5).symm.trans hn) (by decide)) (fun _ => ?_)
  refine zw ?_
  refine oi h fun e6 g7 h => ?_
  refine zw ?_
  refine Ops.hd (ns := [0]) rfl rfl (Y1s (gs := [cI e6.id, cI e6.room, cI e6.author, cI e6.kind, cI e6.key, cI e6.n, C.str e6.text, cM kI64 1 e6.prev, cI e6.time]) Yaa.h rfl rfl rfl rfl rfl) ?_
  refine zw ?_
  refine AW.ret ?_
  rw [← Wj h]
  exact ⟨[C.agg [cI e6.id, cI e6.room, cI e6.author, cI e6.kind, cI e6.key, cI e6.n, C.str e6.text, cM kI64 1 e6.prev, cI e6.time], C.bool true], _, Y1z.refl _, (.cons (.cell (p := 0) rfl rfl Yaa.h rfl) (.cons (.tmp rfl) .nil)), [], _, _, rfl, ⟨rfl, rfl⟩⟩
 refine AW.cond rfl (fun _ => ?_) (fun hn => absurd ((Y3s hb5).symm.trans hn) (by decide))
 refine zw ?_
 refine Ops.v rfl (Y35 (ds := [cI 0, cI 0, cI 0, cI 0, cI 0, cI 0, C.str ByteArray.empty, cV s0, cI 0]) Ybg Y9t (Y3z rfl rfl) .nil rfl) ?_
 refine Ops.hd (ns := [0]) rfl rfl (Y1s (gs := [cI 0, cI 0, cI 0, cI 0, cI 0, cI 0, C.str ByteArray.empty, cV s0, cI 0]) Yaa.h rfl rfl rfl rfl rfl) ?_
 refine zw ?_
 refine AW.ret ?_
 rw [← Wj h]
 exact ⟨[C.agg [cI 0, cI 0, cI 0, cI 0, cI 0, cI 0, C.str ByteArray.empty, cM kI64 1 [], cI 0], C.bool false], _, Y1z.boxFrz (ns := [0]) rfl (fS (fS (fS (fS (fS (fS (fS (FrzL.cons (os := []) (Frz.imp (Imp.nil kI64 1)) (fS FrzL.nil))))))))), (.cons (.cell (p := 0) rfl rfl Yaa.h rfl) (.cons (.tmp rfl) .nil)), [], _, _, rfl, ⟨rfl, rfl⟩⟩

def Zc7 (l20 : List (List Y8n)) : Option (List (List Y8n)) := some l20
def Zc8 (p0 : Y8q) (p1 : List Int) (l10 : List (List Y8n)) (x11 : Int) : Option ((List (List Y8n) × Int) ⊕ ((List (List Y8n)))) := cond (decide (x11 < (p1.length : Int))) ((getI p1 x11).bind fun e13 => (chk (decide ((l10.length + [(Option.getD (mget p0.after e13) ([] : List Y8n))].length) * 24 ≤ 140737488355328))).bind fun u17 => some (.inl ((l10 ++ [(Option.getD (mget p0.after e13) ([] : List Y8n))]), (IntKind.i64.wrap (x11 + 1))))) (some (.inr l10))
def Zc9 (p0 : Y8q) (p1 : List Int) : Option (List (List Y8n)) := (iter (fun z22 => Zc8 p0 p1 z22.1 z22.2) big (([] : List (List Y8n)), 0)).bind fun y23 => Zc7 y23
theorem Zca {b00 : Nat} {b01 : Nat} {b02 : Nat} {b03 : Nat} {b04 : Nat} (p0 : Y8q) (p1 : List Int) (r : List (List Y8n)) (h : Zc9 p0 p1 = some r) : Ok Tryz.prog 143 [pt b00, cM kI64 1 p1] [oB b00 196 [cI p0.graph.room, cM Y8t 9 p0.graph.events, cM Y8t 9 p0.graph.parked, mt b01, mt b02, mt b03, mt b04], Abs.Obj.map b01 .i64 Y96 p0.depth, Abs.Obj.map b02 .i64 Y97 p0.before, Abs.Obj.map b03 .i64 Y97 p0.after, Abs.Obj.map b04 .i64 Y96 p0.refused] (fun c qs => ∃ (v21 : Value), c = cV v21 ∧ qs = [oA v21 27 Y92 1 r, oB b00 196 [cI p0.graph.room, cM Y8t 9 p0.graph.events, cM Y8t 9 p0.graph.parked, mt b01, mt b02, mt b03, mt b04], Abs.Obj.map b01 .i64 Y96 p0.depth, Abs.Obj.map b02 .i64 Y97 p0.before, Abs.Obj.map b03 .i64 Y97 p0.after, Abs.Obj.map b04 .i64 Y96 p0.refused]) := by
 refine Ok.of_body (rs := [.tmp 4]) Tryz.func143 rfl rfl rfl rfl rfl fun X => ?_
 unfold Zc9 at h
 refine zw ?_
 refine Ops.h (ns := []) rfl rfl (Y36 (k := Y92) (ys := ([] : List (List Y8n))) Ybp .nil rfl rfl rfl) ?_
 rintro _ _ ⟨b1, rfl, rfl⟩
 refine Ops.v rfl (Yr rfl rfl) ?_
 refine Ops.nil ?_
 refine AW.seq ?_
 refine AW.cut (τ := List (List Y8n) × Value) (fun (l20, v19) => ⟨[(5, cV v19)], [oA v19 27 Y92 1 l20, oB b00 196 [cI p0.graph.room, cM Y8t 9 p0.graph.events, cM Y8t 9 p0.graph.parked, mt b01, mt b02, mt b03, mt b04], Abs.Obj.map b01 .i64 Y96 p0.depth, Abs.Obj.map b02 .i64 Y97 p0.before, Abs.Obj.map b03 .i64 Y97 p0.after, Abs.Obj.map b04 .i64 Y96 p0.refused]⟩) (fun (l20, v19) => Zc7 l20 = some r) ?_ ?_
 ·
  refine zw ?_
  refine AW.lp h (fun (l10, x11) (v9 : Value) => ⟨[(0, pt b00), (5, cV v9), (9, cM kI64 1 p1), (10, cI (p1.length : Int)), (11, cI x11)], [oB b00 196 [cI p0.graph.room, cM Y8t 9 p0.graph.events, cM Y8t 9 p0.graph.parked, mt b01, mt b02, mt b03, mt b04], Abs.Obj.map b01 .i64 Y96 p0.depth, Abs.Obj.map b02 .i64 Y97 p0.before, Abs.Obj.map b03 .i64 Y97 p0.after, Abs.Obj.map b04 .i64 Y96 p0.refused, oA v9 27 Y92 1 l10]⟩) (gb [1, 1, 1, 1, 1, 0]) ?_
  rintro ⟨l10, x11⟩ v9 y29 h
  refine zw ?_
  refine cnd h (fun hb12 h => ?_) fun hb12 h => ?_
  ·
   refine AW.ct hb12 rfl ?_
   refine zw ?_
   refine oi h fun e13 g14 h => ?_
   refine zw ?_
   refine Ops.v rfl (Y6c (p := 3) (kc := Y97) (z0 := ([] : List Y8n)) Yci Ycj (fun w F => Imp.nil Y91 3 w F _ rfl) rfl rfl rfl rfl) ?_
   refine Ops.h (ns := []) rfl rfl (Y36 (k := Y92) (ys := [(Option.getD (mget p0.after e13) ([] : List Y8n))]) Ybp (.one rfl One.im rfl rfl .nil) rfl rfl rfl) ?_
   rintro _ _ ⟨b15, rfl, rfl⟩
   refine ob' h fun u17 c16 h => ?_
   refine Ops.h (ns := [6, 0]) rfl rfl (Y2q Ybp rfl rfl (Wo (Y3q c16)) (Y3t (by decide) c16) rfl) ?_
   rintro _ _ ⟨v18, rfl, rfl⟩
   refine zw ?_
   exact le h (gb [1, 1, 1, 1, 1, 0])
  refine AW.cf hb12 rfl ?_
  refine AW.exit ?_
  refine lx h fun h => ?_
  exact ⟨(l10, v9), h, Y1z.both (ns := [5, 0, 0, 0, 0, 0]) rfl rfl⟩
 rintro ⟨l20, v19⟩ h
 replace h : Zc7 l20 = some r := h
 unfold Zc7 at h
 refine zw ?_
 refine AW.ret ?_
 rw [← Wj h]
 exact ⟨[cV v19], _, Y1z.refl _, (.cons (.tmp rfl) .nil), [0, 0, 0, 0, 0, 0], _, _, rfl, ⟨v19, rfl, rfl⟩⟩

def Zcb : Option Int := some (-1)
def Zcc (p0 : List Y8n) (p1 : Y8n) (x6 : Int) : Option (Int ⊕ (Int ⊕ Unit)) := cond (decide (x6 < (p0.length : Int))) ((getI p0 x6).bind fun e8 => cond ((p1.kind == e8.kind) && ((p1.key == e8.key) && ((p1.id == e8.id) && true))) (some (.inr (.inl x6))) (some (.inl (IntKind.i64.wrap (x6 + 1))))) (some (.inr (.inr ())))
def Zcd (p0 : List Y8n) (p1 : Y8n) : Option Int := (iter (Zcc p0 p1) big 0).bind (fun z12 => match z12 with | .inl y11 => some y11 | .inr () => Zcb)
instance Zce (p0 : List Y8n) (p1 : Y8n) : Sp Tryz.prog 244 [cM Y91 3 p0, C.agg [cI p1.kind, cI p1.key, cI p1.id]] (Zcd p0 p1) cI := sp Tryz.func244 rfl rfl fun r X h => by
 unfold Zcd at h
 refine zw ?_
 refine ox fun b1 => ?_
 refine zw ?_
 refine AW.lp (v := ()) h (fun x6 (_ : Unit) => ⟨[(0, cM Y91 3 p0), (3, pt b1), (7, cI (p0.length : Int)), (8, cI x6)], [oB b1 106 [cI p1.kind, cI p1.key, cI p1.id]]⟩) (gb [0]) ?_
 rintro x6 _ y18 h
 refine zw ?_
 refine cnd h (fun hb7 h => ?_) fun hb7 h => ?_
 ·
  refine AW.ct hb7 rfl ?_
  refine zw ?_
  refine rD [0] [0,4] [] [1,4,8,12,17,20] ?_
  refine zw ?_
  refine di h fun e8 g9 h => ?_
  refine zw ?_
  refine OpsD.v rfl rfl (Y5i [.int .i64 p1.kind, .int .i64 p1.key, .int .i64 p1.id] [.int .i64 e8.kind, .int .i64 e8.key, .int .i64 e8.id] Yck rfl rfl rfl rfl rfl rfl) ?_
  exact go
 exact go

def Zcf (p0 : List Y8n) (p1 : Y8n) : Option Bool := (Zcd p0 p1).bind fun r2 => some (decide (r2 ≥ 0))
instance Zcg (p0 : List Y8n) (p1 : Y8n) : Sp Tryz.prog 197 [cM Y91 3 p0, C.agg [cI p1.kind, cI p1.key, cI p1.id]] (Zcf p0 p1) C.bool := sp Tryz.func197 rfl rfl fun r X h => go

def Zch (x6 : Bool) : Option Bool := some x6
def Zci (p0 : Y8h) : Option Bool := cond (p0.kind == 1) (Zch true) (cond (p0.kind == 3) (Zch true) (cond (p0.kind == 5) (Zch true) (cond (p0.kind == 2) (Zch (p0.key != p0.author)) (Zch false))))
instance Zcj (p0 : Y8h) : Sp Tryz.prog 200 [C.agg [cI p0.id, cI p0.room, cI p0.author, cI p0.kind, cI p0.key, cI p0.n, C.str p0.text, cM kI64 1 p0.prev, cI p0.time]] (Zci p0) C.bool := sp Tryz.func200 rfl rfl fun r X h => go

def Zck : Option Int := some 0
def Zcl (p0 : List Int) (x5 : Int) : Option (Int ⊕ (Int ⊕ Unit)) := cond (decide (x5 < (p0.length : Int))) ((getI p0 x5).bind fun e7 => cond (e7 != 0) (some (.inr (.inl e7))) (some (.inl (IntKind.i64.wrap (x5 + 1))))) (some (.inr (.inr ())))
def Zcm (p0 : List Int) : Option Int := (iter (Zcl p0) big 0).bind (fun z11 => match z11 with | .inl y10 => some y10 | .inr () => Zck)
instance Zcn (p0 : List Int) : Sp Tryz.prog 201 [cM kI64 1 p0] (Zcm p0) cI := sp Tryz.func201 rfl rfl fun r X h => by
 unfold Zcm at h
 refine zw ?_
 refine AW.lp (v := ()) h (fun x5 (_ : Unit) => ⟨[(3, cI 0), (6, cM kI64 1 p0), (7, cI (p0.length : Int)), (8, cI x5)], []⟩) (gb []) ?_
 rintro x5 _ y17 h
 exact go

def Zco (p0 : Y8n) (p1 : Y8n) : Option Int := (Z98 p0.kind p1.kind).bind fun r3 => (Z98 p0.key p1.key).bind fun r5 => (Zcm [r3, r5]).bind fun r8 => some r8
instance Zcp (p0 : Y8n) (p1 : Y8n) : Sp Tryz.prog 295 [C.agg [cI p0.kind, cI p0.key, cI p0.id], C.agg [cI p1.kind, cI p1.key, cI p1.id]] (Zco p0 p1) cI := sp Tryz.func295 rfl rfl fun r X h => by
 unfold Zco at h
 refine zw ?_
 refine ox fun b1 => ?_
 refine ox fun b2 => ?_
 refine zw ?_
 refine rD [0,0] [1,3,6,8] [] [0,5,8,13,20,25,28,33,18,38,42,46,48] ?_
 refine zw ?_
 refine dc h fun r3 g4 h => ?_
 refine zw ?_
 refine dc h fun r5 g6 h => ?_
 refine OpsD.one ?_
 refine Y3k.h (ns := []) rfl rfl rfl (Y36 (k := kI64) (ys := [r3, r5]) Ycc (.one rfl (One.val rfl) rfl rfl (.one rfl (One.val rfl) rfl rfl .nil)) rfl rfl rfl) ?_
 rintro _ _ ⟨b7, rfl, rfl⟩
 refine zw ?_
 refine ob' h fun r8 g9 h => ?_
 refine Y3k.h (ns := [0]) rfl rfl rfl (Y22 (Ok.lendE ((Zcn [r3, r5]).h _ g9) (FrzT.cons (os := [_]) Frz.arr (FrzT.nil)) (Y41.val _)) rfl rfl) ?_
 rintro _ _ ⟨rfl, rfl⟩
 exact go

def Zcq (x16 : Int) (x22 : Bool) : Option (Int × Bool) := some (x16, x22)
def Zcr (p0 : List Y8n) (p1 : Y8n) (x16 : Int) : Option (Int × Bool) := cond (decide (x16 < (p0.length : Int))) ((getI p0 x16).bind fun e18 => (Zco e18 p1).bind fun r20 => Zcq x16 (r20 == 0)) (Zcq x16 false)
def Zcs (p0 : List Y8n) (p1 : Y8n) (x8 : Int) (x9 : Int) : Option ((Int × Int) ⊕ (Int)) := cond (decide (x8 < x9)) ((getI p0 (IntKind.i64.wrap (shrI .u64 (IntKind.u64.wrap (IntKind.i64.wrap (x8 + x9))) 1))).bind fun e11 => (Zco e11 p1).bind fun r13 => cond (decide (r13 < 0)) (some (.inl ((IntKind.i64.wrap ((IntKind.i64.wrap (shrI .u64 (IntKind.u64.wrap (IntKind.i64.wrap (x8 + x9))) 1)) + 1)), x9))) (some (.inl (x8, (IntKind.i64.wrap (shrI .u64 (IntKind.u64.wrap (IntKind.i64.wrap (x8 + x9))) 1)))))) (some (.inr x8))
def Zct (p0 : List Y8n) (p1 : Y8n) : Option (Int × Bool) := (iter (fun z23 => Zcs p0 p1 z23.1 z23.2) big (0, (p0.length : Int))).bind fun y24 => Zcr p0 p1 y24
instance Zcu (p0 : List Y8n) (p1 : Y8n) : Sp Tryz.prog 294 [cM Y91 3 p0, C.agg [cI p1.kind, cI p1.key, cI p1.id], cV (.func (.func 295) #[] #[])] (Zct p0 p1) (fun r => C.tup [cI r.1, C.bool r.2]) := sp Tryz.func294 rfl rfl fun r X h => by
 unfold Zct at h
 refine zw ?_
 refine ox fun b1 => ?_
 refine Ops.v rfl (Yr rfl rfl) ?_
 refine Ops.v rfl (Yr rfl rfl) ?_
 refine Ops.nil ?_
 refine AW.seq ?_
 refine AW.region ?_
 refine Ops.v rfl (Yq rfl rfl) ?_
 refine Ops.v rfl (Y2a Yb8.h rfl rfl) ?_
 refine Ops.v rfl (Yr rfl rfl) ?_
 refine Ops.nil ?_
 refine AW.seq ?_
 refine AW.region ?_
 refine Ops.v rfl (Yq rfl rfl) ?_
 refine Ops.v rfl (Yr rfl rfl) ?_
 refine Ops.v rfl (Yr rfl rfl) ?_
 refine Ops.nil ?_
 refine AW.seq ?_
 refine AW.cut (τ := Int) (fun x16 => ⟨[(0, cM Y91 3 p0), (2, cV (.func (.func 295) #[] #[])), (4, pt b1), (8, cI (p0.length : Int)), (9, cI x16)], [oB b1 106 [cI p1.kind, cI p1.key, cI p1.id]]⟩) (fun x16 => Zcr p0 p1 x16 = some r) ?_ ?_
 ·
  refine zw ?_
  refine AW.lp (v := ()) h (fun (x8, x9) (_ : Unit) => ⟨[(0, cM Y91 3 p0), (2, cV (.func (.func 295) #[] #[])), (4, pt b1), (8, cI (p0.length : Int)), (9, cI x8), (10, cI x9)], [oB b1 106 [cI p1.kind, cI p1.key, cI p1.id]]⟩) (gb [0]) ?_
  rintro ⟨x8, x9⟩ _ y30 h
  refine zw ?_
  refine cnd h (fun hb10 h => ?_) fun hb10 h => ?_
  ·
   refine AW.ct hb10 rfl ?_
   refine zw ?_
   refine Ops.v rfl (Y10 un_3 Yce rfl rfl) ?_
   refine Ops.v rfl (Yx rfl rfl rfl rfl) ?_
   refine Ops.v rfl (Y10 Yce un_3 rfl rfl) ?_
   refine zw ?_
   refine rD [0] [4,5] [] [0,4,8,12,17,21,26,28] ?_
   refine zw ?_
   refine di h fun e11 g12 h => ?_
   refine zw ?_
   refine ob' h fun r13 g14 h => ?_
   refine Y3k.h (ns := []) rfl rfl rfl (Y24 (cs := [_, _]) rfl rfl ((Zcp _ _).h _ g14) rfl rfl) ?_
   rintro _ _ ⟨_, ⟨rfl, rfl⟩, rfl⟩
   exact go
  exact go
 intro x16 h
 replace h : Zcr p0 p1 x16 = some r := h
 unfold Zcr at h
 refine AW.seq ?_
 refine AW.cut (τ := Bool) (fun x22 => ⟨[(6, cI x16), (7, C.bool x22)], []⟩) (fun x22 => Zcq x16 x22 = some r) ?_ ?_
 ·
  refine rD [0] [9,10] [] [0,4,8,12,16,20,24,28,32,37,41,46,48,52,56,60] ?_
  refine zw ?_
  refine cnd h (fun hb17 h => ?_) fun hb17 h => ?_
  ·
   refine zw ?_
   refine ob' h fun e18 g19 h => ?_
   refine zw ?_
   refine ob' h fun r20 g21 h => ?_
   refine Y3k.gh (ns := []) rfl rfl rfl rfl rfl hb17 rfl (Y24 (cs := [_, _]) rfl rfl ((Zcp _ _).h _ g21) rfl rfl) ?_
   rintro _ _ ⟨_, ⟨rfl, rfl⟩, rfl⟩
   exact go
  refine OpsD.gs rfl rfl rfl rfl (.b rfl hb17) rfl rfl ?_
  refine OpsD.gs rfl rfl rfl rfl (.b rfl hb17) rfl rfl ?_
  refine OpsD.gs rfl rfl rfl rfl (.b rfl hb17) rfl rfl ?_
  refine OpsD.gs rfl rfl rfl rfl (.b rfl hb17) rfl rfl ?_
  refine OpsD.gs rfl rfl rfl rfl (.b rfl hb17) rfl rfl ?_
  refine OpsD.gs rfl rfl rfl rfl (.b rfl hb17) rfl rfl ?_
  refine OpsD.one ?_
  refine Y3k.gs rfl rfl rfl rfl (.b rfl hb17) rfl rfl ?_
  exact go
 intro x22 h
 replace h : Zcq x16 x22 = some r := h
 unfold Zcq at h
 refine AW.ret ?_
 rw [← Wj h]
 exact ⟨[cI x16, C.bool x22], _, Y1z.refl _, (.cons (.tmp rfl) (.cons (.tmp rfl) .nil)), [], _, _, rfl, ⟨rfl, rfl⟩⟩

def Zcv (p0 : List Y8n) (p1 : Y8n) : Option (Int × Bool) := (Zct p0 p1).bind fun r2 => some (r2.1, r2.2)
instance Zcw (p0 : List Y8n) (p1 : Y8n) : Sp Tryz.prog 253 [cM Y91 3 p0, C.agg [cI p1.kind, cI p1.key, cI p1.id]] (Zcv p0 p1) (fun r => C.tup [cI r.1, C.bool r.2]) := sp Tryz.func253 rfl rfl fun r X h => by
 unfold Zcv at h
 refine zw ?_
 refine ox fun b1 => ?_
 refine zw ?_
 refine oc h fun r2 g3 h => ?_
 refine zw ?_
 refine AW.ret ?_
 rw [← Wj h]
 exact ⟨[cI r2.1, C.bool r2.2], _, Y1z.refl _, (.cons (.tmp rfl) (.cons (.tmp rfl) .nil)), [], _, _, rfl, ⟨rfl, rfl⟩⟩

def Zcx (p0 : List Y8n) (p1 : Int) (p2 : Int) : Option Int := (Zcv p0 (Y8n.mk p1 p2 0)).bind fun r1 => cond r1.2 ((getI p0 r1.1).bind fun e4 => some e4.id) (some 0)
instance Zcy (p0 : List Y8n) (p1 : Int) (p2 : Int) : Sp Tryz.prog 264 [cM Y91 3 p0, cI p1, cI p2] (Zcx p0 p1 p2) cI := sp Tryz.func264 rfl rfl fun r X h => by
 unfold Zcx at h
 refine zw ?_
 refine Ops.v rfl (Y35 (ds := [cI p1, cI p2, cI 0]) Ybk Ybl (Y3z rfl rfl) (.one rfl (One.val rfl) rfl rfl (.one rfl (One.val rfl) rfl rfl .nil)) rfl) ?_
 exact go

def Zcz (p0 : Y8l) (p1 : List Y8n) (p2 : Int) (p3 : Int) : Option (Y8h × Bool) := (Zcx p1 p2 p3).bind fun r3 => (Zc5 p0 r3).bind fun r5 => some (r5.1, r5.2)
instance Zd0 (p0 : Y8l) (p1 : List Y8n) (p2 : Int) (p3 : Int) : Sp Tryz.prog 222 [C.agg [cI p0.room, cM Y8t 9 p0.events, cM Y8t 9 p0.parked], cM Y91 3 p1, cI p2, cI p3] (Zcz p0 p1 p2 p3) (fun r => C.tup [C.agg [cI r.1.id, cI r.1.room, cI r.1.author, cI r.1.kind, cI r.1.key, cI r.1.n, C.str r.1.text, cM kI64 1 r.1.prev, cI r.1.time], C.bool r.2]) := sp Tryz.func222 rfl rfl fun r X h => by
 unfold Zcz at h
 refine zw ?_
 refine ox fun b1 => ?_
 refine Ops.h (ns := []) rfl rfl (Y1n (cs := [cI 0, cI 0, cI 0, cI 0, cI 0, cI 0, C.str ByteArray.empty, cV s0, cI 0]) Y9t (Y3z rfl rfl) rfl) ?_
 rintro _ _ ⟨b2, rfl, rfl⟩
 refine zw ?_
 refine rD [0,0] [0] [8] [1,4,8,12,18,22,24,28,35,36] ?_
 refine zw ?_
 refine dc h fun r3 g4 h => ?_
 refine zw ?_
 refine dc h fun r5 g6 h => ?_
 refine zw ?_
 refine OpsD.late (ns := [0]) rfl rfl rfl (Y1s (gs := [cI r5.1.id, cI r5.1.room, cI r5.1.author, cI r5.1.kind, cI r5.1.key, cI r5.1.n, C.str r5.1.text, cM kI64 1 r5.1.prev, cI r5.1.time]) Yaa.h rfl rfl rfl rfl rfl) ?_
 rintro _ _ ⟨rfl, rfl⟩
 refine zw ?_
 refine AW.ret ?_
 rw [← Wj h]
 exact ⟨[C.agg [cI r5.1.id, cI r5.1.room, cI r5.1.author, cI r5.1.kind, cI r5.1.key, cI r5.1.n, C.str r5.1.text, cM kI64 1 r5.1.prev, cI r5.1.time], C.bool r5.2], _, Y1z.refl _, (.cons (.cell (p := 0) rfl rfl Yaa.h rfl) (.cons (.tmp rfl) .nil)), [], _, _, rfl, ⟨rfl, rfl⟩⟩

def Zd1 (p0 : Y8l) (p1 : List Y8n) (p2 : Int) : Option Int := (Zcz p0 p1 2 p2).bind fun r2 => some r2.1.n
instance Zd2 (p0 : Y8l) (p1 : List Y8n) (p2 : Int) : Sp Tryz.prog 163 [C.agg [cI p0.room, cM Y8t 9 p0.events, cM Y8t 9 p0.parked], cM Y91 3 p1, cI p2] (Zd1 p0 p1 p2) cI := sp Tryz.func163 rfl rfl fun r X h => by
 unfold Zd1 at h
 refine zw ?_
 refine ox fun b1 => ?_
 refine zw ?_
 refine oc h fun r2 g3 h => ?_
 refine zw ?_
 refine Ops.h (ns := []) rfl rfl (Y1n (cs := [cI 0, cI 0, cI 0, cI 0, cI 0, cI 0, C.str ByteArray.empty, cV s0, cI 0]) Y9t (Y3z rfl rfl) rfl) ?_
 rintro _ _ ⟨b4, rfl, rfl⟩
 refine Ops.hd (ns := [0]) rfl rfl (Y1s (gs := [cI r2.1.id, cI r2.1.room, cI r2.1.author, cI r2.1.kind, cI r2.1.key, cI r2.1.n, C.str r2.1.text, cM kI64 1 r2.1.prev, cI r2.1.time]) Yaa.h rfl rfl rfl rfl rfl) ?_
 exact go

def Zd3 (x10 : Bool) : Option Int := cond x10 (some 100) (some 0)
def Zd4 (p0 : Y8l) (p1 : List Y8n) (p2 : Int) : Option Int := (Zcz p0 p1 3 p2).bind fun r2 => cond r2.2 (some r2.1.n) ((Zcz p0 p1 1 0).bind fun r6 => cond r6.2 (Zd3 (r6.1.author == p2)) (Zd3 false))
instance Zd5 (p0 : Y8l) (p1 : List Y8n) (p2 : Int) : Sp Tryz.prog 248 [C.agg [cI p0.room, cM Y8t 9 p0.events, cM Y8t 9 p0.parked], cM Y91 3 p1, cI p2] (Zd4 p0 p1 p2) cI := sp Tryz.func248 rfl rfl fun r X h => by
 unfold Zd4 at h
 refine zw ?_
 refine ox fun b1 => ?_
 refine zw ?_
 refine oc h fun r2 g3 h => ?_
 refine zw ?_
 refine Ops.h (ns := []) rfl rfl (Y1n (cs := [cI 0, cI 0, cI 0, cI 0, cI 0, cI 0, C.str ByteArray.empty, cV s0, cI 0]) Y9t (Y3z rfl rfl) rfl) ?_
 rintro _ _ ⟨b4, rfl, rfl⟩
 refine Ops.hd (ns := [0]) rfl rfl (Y1s (gs := [cI r2.1.id, cI r2.1.room, cI r2.1.author, cI r2.1.kind, cI r2.1.key, cI r2.1.n, C.str r2.1.text, cM kI64 1 r2.1.prev, cI r2.1.time]) Yaa.h rfl rfl rfl rfl rfl) ?_
 refine zw ?_
 refine cnd h (fun hb5 h => go) fun hb5 h => ?_
 refine AW.cf hb5 rfl ?_
 refine zw ?_
 refine oc h fun r6 g7 h => ?_
 refine zw ?_
 refine Ops.h (ns := []) rfl rfl (Y1n (cs := [cI 0, cI 0, cI 0, cI 0, cI 0, cI 0, C.str ByteArray.empty, cV s0, cI 0]) Y9t (Y3z rfl rfl) rfl) ?_
 rintro _ _ ⟨b8, rfl, rfl⟩
 refine Ops.hd (ns := [0]) rfl rfl (Y1s (gs := [cI r6.1.id, cI r6.1.room, cI r6.1.author, cI r6.1.kind, cI r6.1.key, cI r6.1.n, C.str r6.1.text, cM kI64 1 r6.1.prev, cI r6.1.time]) Yaa.h rfl rfl rfl rfl rfl) ?_
 exact go

def Zd6 (p0 : Bool) : Option Int := cond p0 (some 11) (some 0)
instance Zd7 (p0 : Bool) : Sp Tryz.prog 251 [C.bool p0] (Zd6 p0) cI := sp Tryz.func251 rfl rfl fun r X h => go

def Zd8 (x23 : Int) : Option Int := some x23
def Zd9 (p0 : Y8l) (p1 : List Y8n) (p2 : Y8h) (p3 : Int) (x4 : Bool) : Option Int := cond (p2.n == 1) ((Zcz p0 p1 5 0).bind fun r6 => (Zcz p0 p1 1 0).bind fun r9 => cond (p3 == 3) ((Zd6 true).bind fun r13 => Zd8 r13) (cond x4 ((Zd6 false).bind fun r16 => Zd8 r16) (cond (r6.1.n != 1) ((Zd6 (r9.1.author != p2.author)).bind fun r19 => Zd8 r19) ((Zd6 false).bind fun r21 => Zd8 r21)))) (cond (p2.n == 2) ((Zd6 (!x4)).bind fun r25 => some r25) (some 11))
def Zda (p0 : Y8l) (p1 : List Y8n) (p2 : Y8h) (p3 : Int) : Option Int := cond (p3 == 1) (Zd9 p0 p1 p2 p3 true) (Zd9 p0 p1 p2 p3 (p3 == 4))
instance Zdb (p0 : Y8l) (p1 : List Y8n) (p2 : Y8h) (p3 : Int) : Sp Tryz.prog 249 [C.agg [cI p0.room, cM Y8t 9 p0.events, cM Y8t 9 p0.parked], cM Y91 3 p1, C.agg [cI p2.id, cI p2.room, cI p2.author, cI p2.kind, cI p2.key, cI p2.n, C.str p2.text, cM kI64 1 p2.prev, cI p2.time], cI p3] (Zda p0 p1 p2 p3) cI := sp Tryz.func249 rfl rfl fun r X h => by
 unfold Zda at h
 refine zw ?_
 refine ox fun b1 => ?_
 refine ox fun b2 => ?_
 refine Ops.v rfl (Yr rfl rfl) ?_
 refine Ops.nil ?_
 refine AW.seq ?_
 refine AW.cut (τ := Bool) (fun x4 => ⟨[(1, cM Y91 3 p1), (3, cI p3), (4, pt b1), (6, pt b2), (9, C.bool x4)], [oB b1 139 [cI p0.room, cM Y8t 9 p0.events, cM Y8t 9 p0.parked], oB b2 136 [cI p2.id, cI p2.room, cI p2.author, cI p2.kind, cI p2.key, cI p2.n, C.str p2.text, cM kI64 1 p2.prev, cI p2.time]]⟩) (fun x4 => Zd9 p0 p1 p2 p3 x4 = some r) go fun x4 h => ?_
 replace h : Zd9 p0 p1 p2 p3 x4 = some r := h
 unfold Zd9 at h
 refine zw ?_
 refine cnd h (fun hb5 h => ?_) fun hb5 h => ?_
 ·
  refine AW.ct hb5 rfl ?_
  refine zw ?_
  refine oc h fun r6 g7 h => ?_
  refine zw ?_
  refine Ops.h (ns := []) rfl rfl (Y1n (cs := [cI 0, cI 0, cI 0, cI 0, cI 0, cI 0, C.str ByteArray.empty, cV s0, cI 0]) Y9t (Y3z rfl rfl) rfl) ?_
  rintro _ _ ⟨b8, rfl, rfl⟩
  refine Ops.hd (ns := [0]) rfl rfl (Y1s (gs := [cI r6.1.id, cI r6.1.room, cI r6.1.author, cI r6.1.kind, cI r6.1.key, cI r6.1.n, C.str r6.1.text, cM kI64 1 r6.1.prev, cI r6.1.time]) Yaa.h rfl rfl rfl rfl rfl) ?_
  refine zw ?_
  refine oc h fun r9 g10 h => ?_
  refine zw ?_
  refine Ops.h (ns := []) rfl rfl (Y1n (cs := [cI 0, cI 0, cI 0, cI 0, cI 0, cI 0, C.str ByteArray.empty, cV s0, cI 0]) Y9t (Y3z rfl rfl) rfl) ?_
  rintro _ _ ⟨b11, rfl, rfl⟩
  refine Ops.hd (ns := [0]) rfl rfl (Y1s (gs := [cI r9.1.id, cI r9.1.room, cI r9.1.author, cI r9.1.kind, cI r9.1.key, cI r9.1.n, C.str r9.1.text, cM kI64 1 r9.1.prev, cI r9.1.time]) Yaa.h rfl rfl rfl rfl rfl) ?_
  exact go
 exact go

def Zdc (x15 : Int) : Option Int := some x15
def Zdd (x25 : Int) : Option Int := some x25
def Zde (x32 : Int) : Option Int := some x32
def Zdf (p2 : Y8h) (r3 : Int) (x8 : Bool) : Option Int := cond (p2.n == 4) (cond (r3 == 1) ((Zd6 true).bind fun r11 => Zdc r11) ((Zd6 (r3 == 3)).bind fun r13 => Zdc r13)) (cond (p2.n == 2) (cond x8 ((Zd6 true).bind fun r18 => Zdd r18) (cond (r3 == 0) ((Zd6 true).bind fun r21 => Zdd r21) ((Zd6 (r3 == 2)).bind fun r23 => Zdd r23))) (cond (p2.n == 3) (cond x8 ((Zd6 true).bind fun r28 => Zde r28) ((Zd6 (r3 == 3)).bind fun r30 => Zde r30)) (some 11)))
def Zdg (p0 : Y8l) (p1 : List Y8n) (p2 : Y8h) (p3 : Int) : Option Int := (Zd1 p0 p1 p2.key).bind fun r3 => (Zd4 p0 p1 p2.key).bind fun r5 => cond (decide (p3 < 50)) (Zdf p2 r3 true) (Zdf p2 r3 (decide (p3 ≤ r5)))
instance Zdh (p0 : Y8l) (p1 : List Y8n) (p2 : Y8h) (p3 : Int) : Sp Tryz.prog 250 [C.agg [cI p0.room, cM Y8t 9 p0.events, cM Y8t 9 p0.parked], cM Y91 3 p1, C.agg [cI p2.id, cI p2.room, cI p2.author, cI p2.kind, cI p2.key, cI p2.n, C.str p2.text, cM kI64 1 p2.prev, cI p2.time], cI p3] (Zdg p0 p1 p2 p3) cI := sp Tryz.func250 rfl rfl fun r X h => by
 unfold Zdg at h
 refine zw ?_
 refine ox fun b1 => ?_
 refine ox fun b2 => ?_
 refine zw ?_
 refine rD [0,0] [0,3,5,8] [] [1,4,8,13,21,24,28,33,18,38,40,44] ?_
 refine zw ?_
 refine dc h fun r3 g4 h => ?_
 refine zw ?_
 refine dc h fun r5 g6 h => ?_
 refine OpsD.v rfl rfl (Yr rfl rfl) ?_
 refine OpsD.v rfl rfl (Yr rfl rfl) ?_
 refine OpsD.done ?_
 refine AW.seq ?_
 refine AW.cut (τ := Bool) (fun x8 => ⟨[(6, pt b2), (9, cI r3), (11, C.bool x8)], [oB b2 136 [cI p2.id, cI p2.room, cI p2.author, cI p2.kind, cI p2.key, cI p2.n, C.str p2.text, cM kI64 1 p2.prev, cI p2.time]]⟩) (fun x8 => Zdf p2 r3 x8 = some r) go fun x8 h => go

def Zdi (x38 : Int) : Option Int := some x38
def Zdj (x55 : Int) : Option Int := some x55
def Zdk (p0 : Y8l) (p2 : Y8h) (r8 : Int) (x41 : Bool) : Option Int := cond x41 ((Zd6 (decide (r8 < 50))).bind fun r43 => some r43) (cond (p2.kind == 8) ((Zc5 p0 p2.key).bind fun r46 => cond r46.2 (cond (decide (r8 < 50)) ((Zd6 (r46.1.author != p2.author)).bind fun r51 => Zdj r51) ((Zd6 false).bind fun r53 => Zdj r53)) (some 6)) (some 0))
def Zdl (p0 : Y8l) (p1 : List Y8n) (p2 : Y8h) (r6 : Int) (r8 : Int) (x16 : Bool) : Option Int := cond x16 ((Zda p0 p1 p2 r6).bind fun r18 => some r18) (cond (r6 != 1) (some 11) (cond (p2.kind == 2) ((Zdg p0 p1 p2 r8).bind fun r22 => some r22) (cond (p2.kind == 3) (cond (decide (r8 < 50)) ((Zd6 true).bind fun r26 => Zdi r26) (cond (decide (p2.n > r8)) ((Zd6 true).bind fun r29 => Zdi r29) (cond (p2.key != p2.author) ((Zd4 p0 p1 p2.key).bind fun r32 => (Zd6 (decide (r32 ≥ r8))).bind fun r34 => Zdi r34) ((Zd6 false).bind fun r36 => Zdi r36)))) (cond (p2.kind == 4) (Zdk p0 p2 r8 (p2.kind == 4)) (cond (p2.kind == 5) (Zdk p0 p2 r8 (p2.kind == 5)) (Zdk p0 p2 r8 (p2.kind == 6)))))))
def Zdm (p0 : Y8l) (p1 : List Y8n) (p2 : Y8h) (r3 : Y8h × Bool) (r6 : Int) (r8 : Int) (x11 : Bool) : Option Int := cond x11 (some 7) (cond (p2.kind == 1) (some 0) (cond r3.2 (cond (p2.kind == 2) (Zdl p0 p1 p2 r6 r8 (p2.key == p2.author)) (Zdl p0 p1 p2 r6 r8 false)) (some 10)))
def Zdn (p0 : Y8l) (p1 : List Y8n) (p2 : Y8h) : Option Int := (Zcz p0 p1 1 0).bind fun r3 => (Zd1 p0 p1 p2.author).bind fun r6 => (Zd4 p0 p1 p2.author).bind fun r8 => cond (p2.kind == 1) (Zdm p0 p1 p2 r3 r6 r8 r3.2) (Zdm p0 p1 p2 r3 r6 r8 false)
instance Zdo (p0 : Y8l) (p1 : List Y8n) (p2 : Y8h) : Sp Tryz.prog 203 [C.agg [cI p0.room, cM Y8t 9 p0.events, cM Y8t 9 p0.parked], cM Y91 3 p1, C.agg [cI p2.id, cI p2.room, cI p2.author, cI p2.kind, cI p2.key, cI p2.n, C.str p2.text, cM kI64 1 p2.prev, cI p2.time]] (Zdn p0 p1 p2) cI := sp Tryz.func203 rfl rfl fun r X h => by
 unfold Zdn at h
 refine zw ?_
 refine ox fun b1 => ?_
 refine ox fun b2 => ?_
 refine zw ?_
 refine oc h fun r3 g4 h => ?_
 refine zw ?_
 refine Ops.h (ns := []) rfl rfl (Y1n (cs := [cI 0, cI 0, cI 0, cI 0, cI 0, cI 0, C.str ByteArray.empty, cV s0, cI 0]) Y9t (Y3z rfl rfl) rfl) ?_
 rintro _ _ ⟨b5, rfl, rfl⟩
 refine Ops.hd (ns := [0]) rfl rfl (Y1s (gs := [cI r3.1.id, cI r3.1.room, cI r3.1.author, cI r3.1.kind, cI r3.1.key, cI r3.1.n, C.str r3.1.text, cM kI64 1 r3.1.prev, cI r3.1.time]) Yaa.h rfl rfl rfl rfl rfl) ?_
 refine zw ?_
 refine rD [0,0,0] [0,3,5,8] [] [1,4,8,13,21,24,28,33,18,38,40,44] ?_
 refine zw ?_
 refine dc h fun r6 g7 h => ?_
 refine zw ?_
 refine dc h fun r8 g9 h => ?_
 refine OpsD.v rfl rfl (Yr rfl rfl) ?_
 refine OpsD.v rfl rfl (Yr rfl rfl) ?_
 refine OpsD.done ?_
 refine AW.seq ?_
 refine AW.block ?_
 refine AW.seq ?_
 refine AW.cut (τ := Bool) (fun x11 => ⟨[(1, cM Y91 3 p1), (3, pt b1), (5, pt b2), (8, C.bool r3.2), (9, cI r6), (10, cI r8), (29, C.bool x11)], [oB b1 139 [cI p0.room, cM Y8t 9 p0.events, cM Y8t 9 p0.parked], oB b2 136 [cI p2.id, cI p2.room, cI p2.author, cI p2.kind, cI p2.key, cI p2.n, C.str p2.text, cM kI64 1 p2.prev, cI p2.time]]⟩) (fun x11 => Zdm p0 p1 p2 r3 r6 r8 x11 = some r) go fun x11 h => ?_
 replace h : Zdm p0 p1 p2 r3 r6 r8 x11 = some r := h
 unfold Zdm at h
 refine cnd h (fun hb12 h => go) fun hb12 h => ?_
 refine AW.cf hb12 rfl ?_
 refine zw ?_
 refine cnd h (fun hb13 h => go) fun hb13 h => ?_
 refine AW.cf hb13 rfl ?_
 refine zw ?_
 refine cnd h (fun hb14 h => ?_) fun hb14 h => ?_
 ·
  refine AW.cond rfl (fun hn => absurd ((Y3r hb14).symm.trans hn) (by decide)) (fun _ => ?_)
  refine AW.seq ?_
  refine AW.cut (τ := Bool) (fun x16 => ⟨[(1, cM Y91 3 p1), (3, pt b1), (5, pt b2), (9, cI r6), (10, cI r8), (43, C.bool x16)], [oB b1 139 [cI p0.room, cM Y8t 9 p0.events, cM Y8t 9 p0.parked], oB b2 136 [cI p2.id, cI p2.room, cI p2.author, cI p2.kind, cI p2.key, cI p2.n, C.str p2.text, cM kI64 1 p2.prev, cI p2.time]]⟩) (fun x16 => Zdl p0 p1 p2 r6 r8 x16 = some r) go fun x16 h => ?_
  replace h : Zdl p0 p1 p2 r6 r8 x16 = some r := h
  unfold Zdl at h
  refine cnd h (fun hb17 h => go) fun hb17 h => ?_
  refine AW.cf hb17 rfl ?_
  refine zw ?_
  refine cnd h (fun hb20 h => go) fun hb20 h => ?_
  refine AW.cf hb20 rfl ?_
  refine zw ?_
  refine cnd h (fun hb21 h => go) fun hb21 h => ?_
  refine AW.cf hb21 rfl ?_
  refine zw ?_
  refine cnd h (fun hb24 h => ?_) fun hb24 h => ?_
  ·
   refine AW.ct hb24 rfl ?_
   refine zw ?_
   refine cnd h (fun hb25 h => go) fun hb25 h => ?_
   refine zw ?_
   refine cnd h (fun hb28 h => go) fun hb28 h => ?_
   refine zw ?_
   refine cnd h (fun hb31 h => ?_) fun hb31 h => ?_
   ·
    refine zw ?_
    refine ob' h fun r32 g33 h => ?_
    refine Ops.ghd (ns := []) rfl rfl rfl rfl hb31 rfl (Y22 ((Zd5 _ _ _).h _ g33) rfl rfl) ?_
    exact go
   exact go
  refine AW.cf hb24 rfl ?_
  refine AW.seq ?_
  refine AW.cut (τ := Bool) (fun x41 => ⟨[(3, pt b1), (5, pt b2), (10, cI r8), (63, cI p2.kind), (98, C.bool x41)], [oB b1 139 [cI p0.room, cM Y8t 9 p0.events, cM Y8t 9 p0.parked], oB b2 136 [cI p2.id, cI p2.room, cI p2.author, cI p2.kind, cI p2.key, cI p2.n, C.str p2.text, cM kI64 1 p2.prev, cI p2.time]]⟩) (fun x41 => Zdk p0 p2 r8 x41 = some r) ?_ ?_
  ·
   exact go
  intro x41 h
  replace h : Zdk p0 p2 r8 x41 = some r := h
  unfold Zdk at h
  refine cnd h (fun hb42 h => go) fun hb42 h => ?_
  refine AW.cf hb42 rfl ?_
  refine zw ?_
  refine cnd h (fun hb45 h => ?_) fun hb45 h => ?_
  ·
   refine AW.ct hb45 rfl ?_
   refine zw ?_
   refine oc h fun r46 g47 h => ?_
   refine zw ?_
   refine Ops.h (ns := []) rfl rfl (Y1n (cs := [cI 0, cI 0, cI 0, cI 0, cI 0, cI 0, C.str ByteArray.empty, cV s0, cI 0]) Y9t (Y3z rfl rfl) rfl) ?_
   rintro _ _ ⟨b48, rfl, rfl⟩
   refine Ops.hd (ns := [0]) rfl rfl (Y1s (gs := [cI r46.1.id, cI r46.1.room, cI r46.1.author, cI r46.1.kind, cI r46.1.key, cI r46.1.n, C.str r46.1.text, cM kI64 1 r46.1.prev, cI r46.1.time]) Yaa.h rfl rfl rfl rfl rfl) ?_
   exact go
  exact go
 exact go

def Zdp (p0 : List Y8n) : Option (List Y8n) := (chk (decide (p0.length * 24 ≤ 140737488355328))).bind fun _ => some p0
theorem Zdq (p0 : List Y8n) (r : List Y8n) (h : Zdp p0 = some r) : Ok Tryz.prog 252 [cM Y91 3 p0] [] (fun c qs => ∃ (v : Value), c = cV v ∧ qs = [oA v 106 Y91 3 r]) := by
 refine ob' h fun u hc h => ?_
 obtain rfl := Wj h
 have hc := Wo (Y3q hc)
 refine Ok.of_body (rs := [.tmp 2]) Tryz.func252 rfl rfl rfl rfl rfl fun X => ?_
 refine zw ?_
 refine Ops.h (ns := []) rfl rfl (Y5j Yb8.h rfl rfl) ?_
 rintro _ _ ⟨b, hb, rfl, rfl⟩
 refine zw ?_
 refine tf' b (fun hq => ?_) (fun hq => ?_)
 ·
  refine AW.cond rfl (fun _ => ?_) (fun hn => absurd (hq.symm.trans hn) (by decide))
  refine zw ?_
  refine AW.ret ?_
  obtain rfl := hb hq
  exact ⟨[cV s0], _, Y1z.nil 106 Y91 3, .cons (.tmp rfl) .nil, [0], _, _, rfl, ⟨_, rfl, rfl⟩⟩
 refine AW.cond rfl (fun hn => absurd (hq.symm.trans hn) (by decide)) (fun _ => ?_)
 refine zw ?_
 refine Ops.h (ns := []) rfl rfl (Y36 (k := Y91) (ys := ([] : List Y8n)) Ybe .nil rfl rfl rfl) ?_
 rintro _ _ ⟨b1, rfl, rfl⟩
 refine zw ?_
 refine Ops.h (ns := [0]) rfl rfl (Y2p Ybe rfl rfl (by simpa using hc) (by simp; omega) rfl) ?_
 rintro _ _ ⟨v, rfl, rfl⟩
 refine zw ?_
 refine AW.ret ?_
 exact ⟨[cV v], _, Y1z.refl _, .cons (.tmp rfl) .nil, [0], _, _, rfl, ⟨v, rfl, rfl⟩⟩
instance Zdq' (p0 : List Y8n) : Sp Tryz.prog 252 [cM Y91 3 p0] (Zdp p0) (fun r => cM Y91 3 r) := ⟨fun r h => Ok.freeze (Zdq p0 r h) (by rintro c qs ⟨v, rfl, rfl⟩; exact Frz.arr)⟩

def Zdr (p0 : List Y8n) (p1 : Int) (p2 : Int) : Option (List Y8n) := delI p0 p1 p2
theorem Zds {w1 : Value} (p0 : List Y8n) (p1 : Int) (p2 : Int) (r : List Y8n) (h : Zdr p0 p1 p2 = some r) : Ok Tryz.prog 254 [cV w1, cI p1, cI p2] [oA w1 106 Y91 3 p0] (fun c qs => ∃ (v : Value), c = cV v ∧ qs = [oA v 106 Y91 3 r]) := by
 obtain ⟨a, b, rfl, rfl, hij, hj, rfl⟩ := Y71 h
 refine Ok.of_body (rs := [.tmp 6]) Tryz.func254 rfl rfl rfl rfl rfl fun X => ?_
 refine AW.learn (Sim.arr_cap (p := 0) rfl) fun hw => ?_
 obtain ⟨A, cap, rfl, hc, _, _⟩ := hw
 refine zw ?_
 refine Ops.v rfl (Y72 (p := 0) Yb8.h rfl rfl rfl rfl rfl hij hj rfl) ?_
 refine zw ?_
 refine tf' (((a : Nat) : Int) == ((b : Nat) : Int)) (fun hq => ?_) (fun hq => ?_)
 ·
  refine AW.cond rfl (fun _ => ?_) (fun hn => absurd (hq.symm.trans hn) (by decide))
  refine zw ?_
  refine AW.ret ?_
  obtain rfl : a = b := by have := eq_of_beq hq; omega
  rw [List.take_append_drop]
  exact ⟨[cV (.slice A p0.length cap)], _, Y1z.refl _, .cons (.tmp rfl) .nil, [0], _, _, rfl, ⟨_, rfl, rfl⟩⟩
 refine AW.cond rfl (fun hn => absurd (hq.symm.trans hn) (by decide)) (fun _ => ?_)
 refine zw ?_
 refine rD [] [] [] [0,4,8,12,16,20,26,28] ?_
 refine zw ?_
 refine OpsD.v rfl rfl (Y76 Yb8.h rfl rfl (by omega) hc rfl) ?_
 refine zw ?_
 refine OpsD.v rfl rfl (Y75 Yb8.h rfl rfl hj hc rfl) ?_
 refine OpsD.one ?_
 refine Y3k.h (ns := [0]) rfl rfl rfl (Y73 (v := .slice A p0.length cap) Ybe rfl rfl hij hj rfl) ?_
 rintro _ _ ⟨rfl, rfl⟩
 refine zw ?_
 refine Ops.v rfl (Y2b Yb8.h rfl rfl) ?_
 refine zw ?_
 refine Ops.v rfl (Y74 (p := 0) (h := p0.length) (v := .slice A p0.length cap) (l := a + (p0.length - b)) Yb8.h rfl rfl rfl rfl (by omega) (by simp; omega) rfl) ?_
 refine Ops.h (ns := [0]) rfl rfl (Y6y (v := .slice A p0.length cap) (l := a + (p0.length - b)) (z := (Y8n.mk 0 0 0)) Ybe Ybl (Y3z rfl rfl) rfl (by simp <;> omega)) ?_
 rintro _ _ ⟨rfl, rfl⟩
 refine zw ?_
 refine AW.ret ?_
 exact ⟨[cV (Y6o (.slice A p0.length cap) (a + (p0.length - b)))], _, Y1z.prefix (p := 0) (h := a + (p0.length - b)) rfl (by simp; omega), .cons (.tmp rfl) .nil, [0], _, _, rfl, ⟨_, rfl, by rw [Y77 hij hj]⟩⟩
def Zdt (p0 : List Y8n) (p1 : Int) (p2 : List Y8n) : Option (List Y8n) := insI 24 p0 p1 p2
theorem Zdu {w1 w2 : Value} (p0 : List Y8n) (p1 : Int) (p2 : List Y8n) (r : List Y8n) (h : Zdt p0 p1 p2 = some r) : Ok Tryz.prog 255 [cV w1, cI p1, cV w2] [oA w1 106 Y91 3 p0, oA w2 106 Y91 3 p2] (fun c qs => ∃ (v : Value), c = cV v ∧ qs = [oA v 106 Y91 3 r]) := by
 obtain ⟨i, rfl, hi, hm, hb, rfl⟩ := Y51 h
 refine Ok.of_body (rs := [.tmp 6]) Tryz.func255 rfl rfl rfl rfl rfl fun X => ?_
 refine AW.learn (Sim.arr_cap (p := 0) rfl) fun hw => ?_
 obtain ⟨A, cap, rfl, hc, hmax, hA⟩ := hw
 have hmax0 := hmax
 simp only [maxLen] at hmax
 refine zw ?_
 refine Ops.v rfl (Y4z Yb8.h rfl rfl hi hc rfl) ?_
 refine zw ?_
 refine AW.cond rfl (fun hn => absurd ((beq_false_of_ne (by omega)).symm.trans hn) (by decide)) (fun _ => ?_)
 refine zw ?_
 refine tf' (((i : Nat) : Int) == (p0.length : Int)) (fun hq => ?_) (fun hq => ?_)
 ·
  refine AW.cond rfl (fun _ => ?_) (fun hn => absurd (hq.symm.trans hn) (by decide))
  refine zw ?_
  refine Ops.h (ns := [0, 0]) rfl rfl (Y2q Ybe rfl rfl hb (by omega) rfl) ?_
  rintro _ _ ⟨v, rfl, rfl⟩
  refine zw ?_
  refine AW.ret ?_
  obtain rfl : i = p0.length := by have := eq_of_beq hq; omega
  rw [List.take_of_length_le (Nat.le_refl _), List.drop_of_length_le (Nat.le_refl _), List.append_nil]
  exact ⟨[cV v], _, Y1z.refl _, .cons (.tmp rfl) .nil, [0], _, _, rfl, ⟨v, rfl, rfl⟩⟩
 have hlt : i < p0.length := by have := ne_of_beq_false hq; omega
 obtain ⟨b, rfl⟩ := hA.resolve_left (fun e => by rw [e.1] at hlt; exact absurd hlt (Nat.not_lt_zero _))
 refine AW.ghost (Y1z.raw (p := 0) rfl) ?_
 rw [← Y4y b 3 p0.length cap]
 refine AW.cond rfl (fun hn => absurd (hq.symm.trans hn) (by decide)) (fun _ => ?_)
 refine AW.skip ?_
 refine AW.seq ?_
 refine AW.seq ?_
 refine AW.region ?_
 refine Ops.v rfl (Yq rfl rfl) ?_
 refine Ops.v rfl (Yq rfl rfl) ?_
 refine Ops.v rfl (Yv (r := .int .i64 ((p0.length + p2.length : Nat) : Int)) rfl rfl (Y56 (by omega) (by omega)) rfl) ?_
 refine zw ?_
 refine Ops.v rfl (Y4p Yb8.h rfl rfl) ?_
 refine zw ?_
 refine tf' (decide (((p0.length + p2.length : Nat) : Int) > (cap : Int))) (fun hg => ?_) (fun hg => ?_)
 ·
  have hg1 := Wo hg
  refine AW.cond rfl (fun _ => ?_) (fun hn => absurd (hg.symm.trans hn) (by decide))
  refine zw ?_
  refine Ops.v rfl (Y4o Yb8.h rfl rfl (by omega) (by omega) rfl) ?_
  refine Ops.v rfl (Yq rfl rfl) ?_
  refine Ops.v rfl (Yq rfl rfl) ?_
  refine Ops.v rfl (Yv (r := .int .i64 ((p0.length + p2.length : Nat) : Int)) rfl rfl (Y56 (by omega) (by omega)) rfl) ?_
  refine Ops.v rfl (Yq rfl rfl) ?_
  refine Ops.v rfl (Yv (r := .int .i64 ((p0.length + p2.length - i : Nat) : Int)) rfl rfl (Y57 (by omega) (by omega)) rfl) ?_
  refine Ops.h (ns := [0]) rfl rfl (Y55 (N := p0.length + p2.length) (k := Y91) (z0 := (Y8n.mk 0 0 0)) Ybe un_3 Ybl (Y3z rfl rfl) rfl rfl (xs := p0.take i) (by rw [List.drop_zero, List.take_append_of_le_length (by simp; omega), List.map_take]) (by simp; omega) (by omega) (by omega) (by omega) hb (by decide) rfl) ?_
  rintro _ _ ⟨b2, c2, hc2, hm2, rfl, rfl⟩
  refine zw ?_
  refine Ops.v rfl (Y54 (o' := i) (l' := p0.length + p2.length - i) (c' := c2 - i) Yb8.h rfl rfl (by omega) (by omega) (by omega) (by omega) (by omega) (by omega) rfl) ?_
  refine zw ?_
  refine Ops.h (ns := [0, 1]) rfl rfl (Y4t (xs := p2) Yb8.h rfl rfl (by rw [List.take_of_length_le (by omega)]) (by simp; omega) rfl) ?_
  rintro _ _ ⟨rfl, rfl⟩
  refine zw ?_
  refine rD [] [] [] [0,4,8,12,16,20,24,28,34] ?_
  refine OpsD.v rfl rfl (Yq rfl rfl) ?_
  refine OpsD.v rfl rfl (Yq rfl rfl) ?_
  refine OpsD.v rfl rfl (Yq rfl rfl) ?_
  refine OpsD.v rfl rfl (Yv (r := .int .i64 ((i + p2.length : Nat) : Int)) rfl rfl (Y56 (by omega) (by omega)) rfl) ?_
  refine OpsD.v rfl rfl (Y54 (o' := i + p2.length) (l' := p0.length - i) (c' := c2 - (i + p2.length)) Yb8.h rfl rfl (by omega) (by omega) (by omega) (by omega) (by omega) (by omega) rfl) ?_
  refine zw ?_
  refine OpsD.v rfl rfl (Y54 (o' := i) (l' := p0.length - i) (c' := cap - i) Yb8.h rfl rfl (by omega) (by omega) (by omega) (by omega) (by omega) (by omega) rfl) ?_
  refine OpsD.one ?_
  refine Y3k.h (ns := [0, 1]) rfl rfl rfl (Y50 (xs := p0.drop i) Yb8.h rfl rfl (by rw [Y58, List.drop_append_of_le_length (by simp; omega), List.take_append_of_le_length (by simp), List.take_of_length_le (by simp), List.map_drop]) (by rw [Y58]; simp) (by simp; omega) rfl) ?_
  rintro _ _ ⟨rfl, rfl⟩
  refine zw ?_
  refine AW.ret ?_
  obtain ⟨q1, q2, q3, q4⟩ := Y53 (xs := p0) (ys := p2) (z := (Y8n.mk 0 0 0)) (m := p2.length) hlt hc2 rfl _ _ rfl rfl
  exact ⟨[cV _], _, Y1z.arr2 (p := 0) (m := p0.length + p2.length) rfl q1 (by omega) q2 (by omega) (Y4y _ _ _ _), .cons (.tmp rfl) .nil, [0], _, _, rfl, ⟨_, rfl, rfl⟩⟩
 have hg1 := of_decide_eq_false hg
 refine AW.cond rfl (fun hn => absurd (hg.symm.trans hn) (by decide)) (fun _ => ?_)
 refine AW.skip ?_
 refine AW.seq ?_
 refine AW.region ?_
 refine Ops.v rfl (Yq rfl rfl) ?_
 refine Ops.v rfl (Yq rfl rfl) ?_
 refine Ops.v rfl (Yq rfl rfl) ?_
 refine Ops.v rfl (Yv (r := .int .i64 ((p0.length + p2.length : Nat) : Int)) rfl rfl (Y56 (by omega) (by omega)) rfl) ?_
 refine Ops.v rfl (Y4o Yb8.h rfl rfl (by omega) (by omega) rfl) ?_
 refine Ops.v rfl (Yr rfl rfl) ?_
 refine Ops.nil ?_
 refine AW.seq ?_
 refine AW.seq ?_
 refine AW.region ?_
 refine Ops.v rfl (Yq rfl rfl) ?_
 refine Ops.v rfl (Yq rfl rfl) ?_
 refine Ops.v rfl (Yq rfl rfl) ?_
 refine Ops.v rfl (Yq rfl rfl) ?_
 refine Ops.v rfl (Yv (r := .int .i64 ((i + p2.length : Nat) : Int)) rfl rfl (Y56 (by omega) (by omega)) rfl) ?_
 refine Ops.v rfl (Y54 (o' := i + p2.length) (l' := p0.length - i) (c' := cap - (i + p2.length)) Yb8.h rfl rfl (by omega) (by omega) (by omega) (by omega) (by omega) (by omega) rfl) ?_
 refine Ops.h (ns := [0, 0]) rfl rfl (Y4u (tR := 4) (k := Y91) (zs := p2) (ys := p0.map some ++ List.replicate (cap - p0.length) none) Ybe Tryz.func296 rfl rfl (by kernel_rfl) (by kernel_rfl) rfl rfl (by intro e; rw [e] at hm; exact absurd hm (by decide)) (by intro e; have := congrArg List.length e; simp at this; omega) rfl) ?_
 rintro _ _ ⟨rfl, rfl⟩
 refine zw ?_
 refine AW.cond rfl (fun _ => ?_) (fun hn => absurd hn (by decide))
 refine zw ?_
 refine rD [] [] [] [0,4,8,12,16,20,24,28,34] ?_
 refine OpsD.v rfl rfl (Yq rfl rfl) ?_
 refine OpsD.v rfl rfl (Yq rfl rfl) ?_
 refine OpsD.v rfl rfl (Yq rfl rfl) ?_
 refine OpsD.v rfl rfl (Yv (r := .int .i64 ((i + p2.length : Nat) : Int)) rfl rfl (Y56 (by omega) (by omega)) rfl) ?_
 refine OpsD.v rfl rfl (Y54 (o' := i + p2.length) (l' := p0.length - i) (c' := cap - (i + p2.length)) Yb8.h rfl rfl (by omega) (by omega) (by omega) (by omega) (by omega) (by omega) rfl) ?_
 refine zw ?_
 refine OpsD.v rfl rfl (Y54 (o' := i) (l' := p0.length + p2.length - i) (c' := cap - i) Yb8.h rfl rfl (by omega) (by omega) (by omega) (by omega) (by omega) (by omega) rfl) ?_
 refine OpsD.one ?_
 refine Y3k.h (ns := [0]) rfl rfl rfl (Y4s (xs := p0.drop i) Yb8.h rfl rfl (by rw [Y59 (by omega), List.drop_append_of_le_length (by simp; omega), List.take_append_of_le_length (by simp), List.take_of_length_le (by simp), List.map_drop]) (by rw [Y59 (by omega)]; simp) (by simp; omega) rfl) ?_
 rintro _ _ ⟨rfl, rfl⟩
 refine zw ?_
 refine Ops.v rfl (Y54 (o' := i) (l' := p0.length + p2.length - i) (c' := cap - i) Yb8.h rfl rfl (by omega) (by omega) (by omega) (by omega) (by omega) (by omega) rfl) ?_
 refine zw ?_
 refine Ops.h (ns := [0, 0]) rfl rfl (Y4t (xs := p2) Yb8.h rfl rfl (by rw [List.take_of_length_le (by omega)]) (by simp; omega) rfl) ?_
 rintro _ _ ⟨rfl, rfl⟩
 refine zw ?_
 refine AW.ret ?_
 obtain ⟨q1, q2, q3, q4⟩ := Y52 (xs := p0) (ys := p2) (m := p2.length) (c := cap) hlt (by omega) rfl _ _ rfl rfl
 exact ⟨[cV _], _, Y1z.arr2 (p := 0) (m := p0.length + p2.length) (c := cap) rfl q1 (by omega) q2 hmax0 (Y4y _ _ _ _), .cons (.tmp rfl) .nil, [0], _, _, rfl, ⟨_, rfl, rfl⟩⟩
def Zdv (p1 : Y8n) (r2 : List Y8n) (r5 : Int × Bool) (x8 : Bool) : Option (List Y8n) := cond x8 ((Zdr r2 r5.1 (IntKind.i64.wrap (r5.1 + 1))).bind fun r10 => some r10) (cond (p1.id == 0) (some r2) (cond r5.2 ((getI r2 r5.1).bind fun e15 => some (List.set r2 (Int.toNat r5.1) p1)) ((Zdt r2 r5.1 [p1]).bind fun r18 => some r18)))
def Zdw (p0 : List Y8n) (p1 : Y8n) : Option (List Y8n) := (Zdp p0).bind fun r2 => (Zcv r2 p1).bind fun r5 => cond (p1.id == 0) (Zdv p1 r2 r5 r5.2) (Zdv p1 r2 r5 false)
theorem Zdx (p0 : List Y8n) (p1 : Y8n) (r : List Y8n) (h : Zdw p0 p1 = some r) : Ok Tryz.prog 204 [cM Y91 3 p0, C.agg [cI p1.kind, cI p1.key, cI p1.id]] [] (fun c qs => ∃ (v21 : Value), c = cV v21 ∧ qs = [oA v21 106 Y91 3 r]) := by
 refine Ok.of_body (rs := [.tmp 4]) Tryz.func204 rfl rfl rfl rfl rfl fun X => ?_
 unfold Zdw at h
 refine zw ?_
 refine ox fun b1 => ?_
 refine zw ?_
 refine ob' h fun r2 g3 h => ?_
 refine Ops.h (ns := []) rfl rfl (Y21 (Zdq _ _ g3) rfl rfl) ?_
 rintro _ _ ⟨_, ⟨v4, rfl, rfl⟩, rfl⟩
 refine zw ?_
 refine ob' h fun r5 g6 h => ?_
 refine Ops.hd (ns := [0]) rfl rfl (Y22 (Ok.lendE ((Zcw r2 p1).h _ g6) (FrzT.cons (os := [_]) Frz.arr (fT (FrzT.nil))) (Y41.tup (Y42.cons (Y41.val _) (Y42.cons (Y41.val _) (Y42.nil))))) rfl rfl) ?_
 refine Ops.v rfl (Yq rfl rfl) ?_
 refine Ops.v rfl (Y11 rfl rfl rfl) ?_
 refine Ops.v rfl (Y11 rfl rfl rfl) ?_
 refine Ops.v rfl (Yr rfl rfl) ?_
 refine Ops.v rfl (Yr rfl rfl) ?_
 refine Ops.nil ?_
 refine AW.seq ?_
 refine AW.block ?_
 refine AW.seq ?_
 refine AW.cut (τ := Bool) (fun x8 => ⟨[(3, pt b1), (5, cV v4), (6, cI r5.1), (7, C.bool r5.2), (16, C.bool x8)], [oB b1 106 [cI p1.kind, cI p1.key, cI p1.id], oA v4 106 Y91 3 r2]⟩) (fun x8 => Zdv p1 r2 r5 x8 = some r) go fun x8 h => ?_
 replace h : Zdv p1 r2 r5 x8 = some r := h
 unfold Zdv at h
 refine cnd h (fun hb9 h => ?_) fun hb9 h => ?_
 ·
  refine AW.ct hb9 rfl ?_
  refine zw ?_
  refine ob' h fun r10 g11 h => ?_
  refine Ops.h (ns := [1]) rfl rfl (Y21 (Zds r2 r5.1 (IntKind.i64.wrap (r5.1 + 1)) _ g11) rfl rfl) ?_
  rintro _ _ ⟨_, ⟨v12, rfl, rfl⟩, rfl⟩
  refine zw ?_
  refine AW.ret ?_
  rw [← Wj h]
  exact ⟨[cV v12], _, Y1z.refl _, (.cons (.tmp rfl) .nil), [0], _, _, rfl, ⟨v12, rfl, rfl⟩⟩
 refine AW.cf hb9 rfl ?_
 refine zw ?_
 refine cnd h (fun hb13 h => ?_) fun hb13 h => ?_
 ·
  refine AW.ct hb13 rfl ?_
  refine zw ?_
  refine AW.ret ?_
  rw [← Wj h]
  exact ⟨[cV v4], _, Y1z.refl _, (.cons (.tmp rfl) .nil), [1], _, _, rfl, ⟨v4, rfl, rfl⟩⟩
 refine AW.cf hb13 rfl ?_
 refine zw ?_
 refine cnd h (fun hb14 h => ?_) fun hb14 h => ?_
 ·
  refine AW.ct hb14 rfl ?_
  refine zw ?_
  refine ob' h fun e15 g16 h => ?_
  refine Ops.v rfl (Y2v (p := 1) Yb8.h rfl rfl rfl g16 rfl) ?_
  refine Ops.hd (ns := [1]) rfl rfl (Y31 (e' := p1) Ybf.h rfl rfl rfl (Y27 g16).2.2 rfl rfl) ?_
  refine zw ?_
  refine AW.ret ?_
  rw [← Wj h]
  exact ⟨[cV v4], _, Y1z.refl _, (.cons (.tmp rfl) .nil), [0], _, _, rfl, ⟨v4, rfl, rfl⟩⟩
 refine AW.cf hb14 rfl ?_
 refine zw ?_
 refine Ops.h (ns := []) rfl rfl (Y36 (k := Y91) (ys := [p1]) Ybe (.agg rfl rfl .nil) rfl rfl rfl) ?_
 rintro _ _ ⟨b17, rfl, rfl⟩
 refine ob' h fun r18 g19 h => ?_
 refine Ops.h (ns := [2, 0]) rfl rfl (Y21 (Zdu r2 r5.1 [p1] _ g19) rfl rfl) ?_
 rintro _ _ ⟨_, ⟨v20, rfl, rfl⟩, rfl⟩
 refine zw ?_
 refine AW.ret ?_
 rw [← Wj h]
 exact ⟨[cV v20], _, Y1z.refl _, (.cons (.tmp rfl) .nil), [0], _, _, rfl, ⟨v20, rfl, rfl⟩⟩
instance Zdx' (p0 : List Y8n) (p1 : Y8n) : Sp Tryz.prog 204 [cM Y91 3 p0, C.agg [cI p1.kind, cI p1.key, cI p1.id]] (Zdw p0 p1) (fun r => cM Y91 3 r) := ⟨fun r h => Ok.freeze (Zdx p0 p1 r h) (by rintro c qs ⟨v21, rfl, rfl⟩; exact Frz.arr)⟩

def Zdy (p0 : List Y8n) (q0 : Y8n) : Option Bool := (Zcf p0 q0).bind fun r1 => some (!r1)
theorem Zdz {b00 : Nat} (p0 : List Y8n) (q0 : Y8n) (r : Bool) (h : Zdy p0 q0 = some r) : Ok Tryz.prog 196 [cM Y91 3 p0, pt b00] [oB b00 106 [cI q0.kind, cI q0.key, cI q0.id]] (fun c qs => c = C.bool r ∧ qs = [oB b00 106 [cI q0.kind, cI q0.key, cI q0.id]]) := by
 refine Ok.of_body (rs := [.tmp 3]) Tryz.func196 rfl rfl rfl rfl rfl fun X => ?_
 unfold Zdy at h
 refine zw ?_
 refine oc h fun r1 g2 h => ?_
 refine zw ?_
 refine AW.ret ?_
 rw [← Wj h]
 exact ⟨[C.bool (!r1)], _, Y1z.refl _, (.cons (.tmp rfl) .nil), [0], _, _, rfl, ⟨rfl, rfl⟩⟩

def Ze0 : Option Int := some (-1)
def Ze1 (p0 : List (List Y8n)) (p1_0 : Y8n) (x7 : Int) : Option (Int ⊕ (Int ⊕ Unit)) := cond (decide (x7 < (p0.length : Int))) ((getI p0 x7).bind fun e9 => (Zdy e9 p1_0).bind fun r11 => cond r11 (some (.inr (.inl x7))) (some (.inl (IntKind.i64.wrap (x7 + 1))))) (some (.inr (.inr ())))
def Ze2 (p0 : List (List Y8n)) (p1_0 : Y8n) : Option Int := (iter (Ze1 p0 p1_0) big 0).bind (fun z15 => match z15 with | .inl y14 => some y14 | .inr () => Ze0)
theorem Ze3 {b00 : Nat} (p0 : List (List Y8n)) (p1_0 : Y8n) (r : Int) (h : Ze2 p0 p1_0 = some r) : Ok Tryz.prog 243 [cM Y92 1 p0, C.clo 196 [pt b00]] [oB b00 106 [cI p1_0.kind, cI p1_0.key, cI p1_0.id]] (fun c qs => c = cI r ∧ qs = [oB b00 106 [cI p1_0.kind, cI p1_0.key, cI p1_0.id]]) := by
 refine Ok.of_body (rs := [.tmp 4]) Tryz.func243 rfl rfl rfl rfl rfl fun X => ?_
 unfold Ze2 at h
 refine AW.seq ?_
 refine AW.region ?_
 refine Ops.v rfl (Yr rfl rfl) ?_
 refine Ops.nil ?_
 refine AW.seq ?_
 refine AW.cut (τ := Unit) (fun (_ : Unit) => ⟨[], [oB b00 106 [cI p1_0.kind, cI p1_0.key, cI p1_0.id]]⟩) (fun (_ : Unit) => Ze0 = some r) ?_ ?_
 ·
  refine zw ?_
  refine AW.lp (v := ()) h (fun x7 (_ : Unit) => ⟨[(0, cM Y92 1 p0), (1, C.clo 196 [pt b00]), (7, cI (p0.length : Int)), (8, cI x7)], [oB b00 106 [cI p1_0.kind, cI p1_0.key, cI p1_0.id]]⟩) (gb [0]) ?_
  rintro x7 _ y21 h
  refine zw ?_
  refine cnd h (fun hb8 h => ?_) fun hb8 h => ?_
  ·
   refine AW.ct hb8 rfl ?_
   refine zw ?_
   refine oi h fun e9 g10 h => ?_
   refine zw ?_
   refine ob' h fun r11 g12 h => ?_
   refine Ops.hd (ns := [0]) rfl rfl (Y6j (cs := [_]) (ds := [_]) rfl (Zdz e9 p1_0 _ g12) rfl rfl) ?_
   refine zw ?_
   refine cnd h (fun hb13 h => ?_) fun hb13 h => ?_
   ·
    refine AW.ct hb13 rfl ?_
    refine zw ?_
    refine AW.ret ?_
    refine lx h fun h => ?_
    rw [← Wj h]
    exact ⟨[cI x7], _, Y1z.refl _, (.cons (.tmp rfl) .nil), [0], _, _, rfl, ⟨rfl, rfl⟩⟩
   exact go
  exact go
 rintro ⟨⟩ h
 replace h : Ze0 = some r := h
 unfold Ze0 at h
 refine zw ?_
 refine AW.ret ?_
 rw [← Wj h]
 exact ⟨[cI (-1)], _, Y1z.refl _, (.cons (.tmp rfl) .nil), [0], _, _, rfl, ⟨rfl, rfl⟩⟩

def Ze4 (p0 : List (List Y8n)) (p1_0 : Y8n) : Option Bool := (Ze2 p0 p1_0).bind fun r1 => some (decide (r1 ≥ 0))
theorem Ze5 {b00 : Nat} (p0 : List (List Y8n)) (p1_0 : Y8n) (r : Bool) (h : Ze4 p0 p1_0 = some r) : Ok Tryz.prog 195 [cM Y92 1 p0, C.clo 196 [pt b00]] [oB b00 106 [cI p1_0.kind, cI p1_0.key, cI p1_0.id]] (fun c qs => c = C.bool r ∧ qs = [oB b00 106 [cI p1_0.kind, cI p1_0.key, cI p1_0.id]]) := by
 refine Ok.of_body (rs := [.tmp 4]) Tryz.func195 rfl rfl rfl rfl rfl fun X => ?_
 unfold Ze4 at h
 refine zw ?_
 refine ob' h fun r1 g2 h => ?_
 refine Ops.hd (ns := [0]) rfl rfl (Y22 (Ze3 p0 p1_0 _ g2) rfl rfl) ?_
 refine zw ?_
 refine AW.ret ?_
 rw [← Wj h]
 exact ⟨[C.bool (decide (r1 ≥ 0))], _, Y1z.refl _, (.cons (.tmp rfl) .nil), [0], _, _, rfl, ⟨rfl, rfl⟩⟩

def Ze6 (p0 : Y8h) (p1 : Y8h) (q0 : Y8q) : Option Int := (Zci p0).bind fun r3 => (Zci p1).bind fun r5 => cond (r3 == r5) ((Z98 (Option.getD (mget q0.depth p0.id) 0) (Option.getD (mget q0.depth p1.id) 0)).bind fun r11 => (Z98 p0.time p1.time).bind fun r13 => (Z98 p0.id p1.id).bind fun r15 => (Zcm [r11, r13, r15]).bind fun r18 => some r18) ((Zci p0).bind fun r8 => cond r8 (some (-1)) (some 1))
instance Ze7 (p0 : Y8h) (p1 : Y8h) (q0 : Y8q) : Sp Tryz.prog 199 [C.agg [cI p0.id, cI p0.room, cI p0.author, cI p0.kind, cI p0.key, cI p0.n, C.str p0.text, cM kI64 1 p0.prev, cI p0.time], C.agg [cI p1.id, cI p1.room, cI p1.author, cI p1.kind, cI p1.key, cI p1.n, C.str p1.text, cM kI64 1 p1.prev, cI p1.time], C.ip [C.ip [cI q0.graph.room, cM Y8t 9 q0.graph.events, cM Y8t 9 q0.graph.parked, C.imap .i64 Y96 q0.depth, C.imap .i64 Y97 q0.before, C.imap .i64 Y97 q0.after, C.imap .i64 Y96 q0.refused]]] (Ze6 p0 p1 q0) cI := sp Tryz.func199 rfl rfl fun r X h => by
 unfold Ze6 at h
 refine zw ?_
 refine ox fun b1 => ?_
 refine ox fun b2 => ?_
 refine zw ?_
 refine rD [0,0] [0,2] [] [1,9,6,14,16] ?_
 refine zw ?_
 refine dc h fun r3 g4 h => ?_
 refine zw ?_
 refine dc h fun r5 g6 h => ?_
 refine OpsD.v rfl rfl (Yz un_4 rfl rfl rfl) ?_
 refine zw ?_
 refine cnd h (fun hb7 h => ?_) fun hb7 h => ?_
 ·
  refine AW.cond rfl (fun hn => absurd ((Y3r hb7).symm.trans hn) (by decide)) (fun _ => ?_)
  refine zw ?_
  refine rD [0,0] [0,3,5,6,7,10,12,13,16,18,21,23] [] [1,4,8,13,16,21,25,29,32,36,41,44,49,53,60,65,68,73,80,85,88,93,58,78,98,102,106,108] ?_
  refine zw ?_
  refine OpsD.v rfl rfl (Y7v (kc := Y96) (z0 := 0) Ycq zv_2 (fun _ _ => rfl) rfl rfl rfl) ?_
  refine zw ?_
  refine OpsD.v rfl rfl (Y7v (kc := Y96) (z0 := 0) Ycq zv_2 (fun _ _ => rfl) rfl rfl rfl) ?_
  refine zw ?_
  refine dc h fun r11 g12 h => ?_
  refine zw ?_
  refine dc h fun r13 g14 h => ?_
  refine zw ?_
  refine dc h fun r15 g16 h => ?_
  refine OpsD.one ?_
  refine Y3k.h (ns := []) rfl rfl rfl (Y36 (k := kI64) (ys := [r11, r13, r15]) Ycc (.one rfl (One.val rfl) rfl rfl (.one rfl (One.val rfl) rfl rfl (.one rfl (One.val rfl) rfl rfl .nil))) rfl rfl rfl) ?_
  rintro _ _ ⟨b17, rfl, rfl⟩
  refine zw ?_
  refine ob' h fun r18 g19 h => ?_
  refine Y3k.h (ns := [0]) rfl rfl rfl (Y22 (Ok.lendE ((Zcn [r11, r13, r15]).h _ g19) (FrzT.cons (os := [_]) Frz.arr (FrzT.nil)) (Y41.val _)) rfl rfl) ?_
  rintro _ _ ⟨rfl, rfl⟩
  exact go
 exact go

def Ze8 (l205 : List Y8n) : Option (List Y8n) := some l205
def Ze9 (x194 : Int) (l204 : List Y8n) : Option ((List Y8n × Int) ⊕ ((List Y8n))) := some (.inl (l204, (IntKind.i64.wrap (x194 + 1))))
def Zea (p0 : Y8q) (r176 : List Y8h) (l193 : List Y8n) (x194 : Int) : Option ((List Y8n × Int) ⊕ ((List Y8n))) := cond (decide (x194 < (r176.length : Int))) ((getI r176 x194).bind fun e196 => (Zdn p0.graph l193 e196).bind fun r199 => cond (r199 == 0) ((Zdw l193 (Y8n.mk e196.kind e196.key e196.id)).bind fun r202 => Ze9 x194 r202) (Ze9 x194 l193)) (some (.inr l193))
def Zeb (p0 : Y8q) (l37 : List Y8n) (l175 : List Y8h) : Option (List Y8n) := (Y7h (fun z1 z2 => Ze6 z1 z2 p0) l175).bind fun r176 => (iter (fun z206 => Zea p0 r176 z206.1 z206.2) big (l37, 0)).bind fun y207 => Ze8 y207
def Zec (x113 : Int) (l172 : List Y8h) (m173 : List (Int × Bool)) : Option ((List Y8h × (List (Int × Bool)) × Int) ⊕ ((List Y8h))) := some (.inl (l172, m173, (IntKind.i64.wrap (x113 + 1))))
def Zed (x145 : Int) (l169 : List Y8h) (m170 : List (Int × Bool)) : Option ((List Y8h × (List (Int × Bool)) × Int) ⊕ ((List Y8h × (List (Int × Bool))))) := some (.inl (l169, m170, (IntKind.i64.wrap (x145 + 1))))
def Zee (l143 : List Y8h) (m144 : List (Int × Bool)) (x145 : Int) (e147 : Y8n) (x155 : Int) (x156 : Int) (x157 : Int) (x158 : Int) (x159 : Int) (x160 : Int) (x161 : ByteArray) (l162 : List Int) (x163 : Int) : Option ((List Y8h × (List (Int × Bool)) × Int) ⊕ ((List Y8h × (List (Int × Bool))))) := (chk (decide ((l143.length + [(Y8h.mk x155 x156 x157 x158 x159 x160 x161 l162 x163)].length) * 96 ≤ 140737488355328))).bind fun u166 => Zed x145 (l143 ++ [(Y8h.mk x155 x156 x157 x158 x159 x160 x161 l162 x163)]) (mset m144 e147.id true)
def Zef (p0 : Y8q) (e115 : List Y8n) (l143 : List Y8h) (m144 : List (Int × Bool)) (x145 : Int) : Option ((List Y8h × (List (Int × Bool)) × Int) ⊕ ((List Y8h × (List (Int × Bool))))) := cond (decide (x145 < (e115.length : Int))) ((getI e115 x145).bind fun e147 => cond (Option.getD (mget m144 e147.id) false) (Zed x145 l143 m144) ((Zc5 p0.graph e147.id).bind fun r151 => Zee l143 m144 x145 e147 r151.1.id r151.1.room r151.1.author r151.1.kind r151.1.key r151.1.n r151.1.text r151.1.prev r151.1.time)) (some (.inr (l143, m144)))
def Zeg (p0 : Y8q) (p1 : List (List Y8n)) (l111 : List Y8h) (m112 : List (Int × Bool)) (x113 : Int) : Option ((List Y8h × (List (Int × Bool)) × Int) ⊕ ((List Y8h))) := cond (decide (x113 < (p1.length : Int))) ((getI p1 x113).bind fun e115 => (iter (fun z208 => Zef p0 e115 z208.1 z208.2.1 z208.2.2) big (l111, m112, 0)).bind fun (y209, y210) => Zec x113 y209 y210) (some (.inr l111))
def Zeh (p0 : Y8q) (p1 : List (List Y8n)) (l37 : List Y8n) (m49 : List (Int × Bool)) : Option (List Y8n) := (iter (fun z211 => Zeg p0 p1 z211.1 z211.2.1 z211.2.2) big (([] : List Y8h), m49, 0)).bind fun y212 => Zeb p0 l37 y212
def Zei (l37 : List Y8n) (m43 : List (Int × Bool)) (x44 : Int) : Option (((List (Int × Bool)) × Int) ⊕ ((List (Int × Bool)))) := cond (decide (x44 < (l37.length : Int))) ((getI l37 x44).bind fun e46 => some (.inl ((mset m43 e46.id true), (IntKind.i64.wrap (x44 + 1))))) (some (.inr m43))
def Zej (p0 : Y8q) (p1 : List (List Y8n)) (l37 : List Y8n) : Option (List Y8n) := (iter (fun z213 => Zei l37 z213.1 z213.2) big (([] : List (Int × Bool)), 0)).bind fun y214 => Zeh p0 p1 l37 y214
def Zek (x22 : Int) (l35 : List Y8n) : Option ((List Y8n × Int) ⊕ ((List Y8n))) := some (.inl (l35, (IntKind.i64.wrap (x22 + 1))))
def Zel (p1 : List (List Y8n)) (e5 : List Y8n) (l21 : List Y8n) (x22 : Int) : Option ((List Y8n × Int) ⊕ ((List Y8n))) := cond (decide (x22 < (e5.length : Int))) ((getI e5 x22).bind fun e24 => (Ze4 p1 e24).bind fun r27 => cond r27 (Zek x22 l21) ((chk (decide ((l21.length + [e24].length) * 24 ≤ 140737488355328))).bind fun u32 => Zek x22 (l21 ++ [e24]))) (some (.inr l21))
def Zem (p0 : Y8q) (p1 : List (List Y8n)) : Option (List Y8n) := cond (decide ((p1.length : Int) > 0)) ((getI p1 0).bind fun e5 => (iter (fun z215 => Zel p1 e5 z215.1 z215.2) big (([] : List Y8n), 0)).bind fun y216 => Zej p0 p1 y216) (Zej p0 p1 ([] : List Y8n))
theorem Zen {b00 : Nat} {b01 : Nat} {b02 : Nat} {b03 : Nat} {b04 : Nat} (p0 : Y8q) (p1 : List (List Y8n)) (r : List Y8n) (h : Zem p0 p1 = some r) : Ok Tryz.prog 142 [pt b00, cM Y92 1 p1] [oB b00 196 [cI p0.graph.room, cM Y8t 9 p0.graph.events, cM Y8t 9 p0.graph.parked, mt b01, mt b02, mt b03, mt b04], Abs.Obj.map b01 .i64 Y96 p0.depth, Abs.Obj.map b02 .i64 Y97 p0.before, Abs.Obj.map b03 .i64 Y97 p0.after, Abs.Obj.map b04 .i64 Y96 p0.refused] (fun c qs => c = cM Y91 3 r ∧ qs = [oB b00 196 [cI p0.graph.room, cM Y8t 9 p0.graph.events, cM Y8t 9 p0.graph.parked, mt b01, mt b02, mt b03, mt b04], Abs.Obj.map b01 .i64 Y96 p0.depth, Abs.Obj.map b02 .i64 Y97 p0.before, Abs.Obj.map b03 .i64 Y97 p0.after, Abs.Obj.map b04 .i64 Y96 p0.refused]) := by
 refine Ok.of_body (rs := [.tmp 4]) Tryz.func142 rfl rfl rfl rfl rfl fun X => ?_
 unfold Zem at h
 refine zw ?_
 refine Ops.h (ns := []) rfl rfl (Y1o rfl (One.val rfl) rfl) ?_
 rintro _ _ ⟨b1, rfl, rfl⟩
 refine zw ?_
 refine Ops.h (ns := []) rfl rfl (Y36 (k := Y91) (ys := ([] : List Y8n)) Ybe .nil rfl rfl rfl) ?_
 rintro _ _ ⟨b2, rfl, rfl⟩
 refine Ops.h (ns := []) rfl rfl (Y36 (k := Y8t) (ys := ([] : List Y8h)) Yab .nil rfl rfl rfl) ?_
 rintro _ _ ⟨b3, rfl, rfl⟩
 refine Ops.v rfl (Yr rfl rfl) ?_
 refine Ops.v rfl (Yr rfl rfl) ?_
 refine Ops.nil ?_
 refine AW.seq ?_
 refine AW.cut (τ := List Y8n × Value) (fun (l37, v36) => ⟨[(1, cM Y92 1 p1), (2, pt b1), (5, cV v36), (6, cV (sv b3 0 0))], [oB b1 186 [pt b00], oB b00 196 [cI p0.graph.room, cM Y8t 9 p0.graph.events, cM Y8t 9 p0.graph.parked, mt b01, mt b02, mt b03, mt b04], Abs.Obj.map b01 .i64 Y96 p0.depth, Abs.Obj.map b02 .i64 Y97 p0.before, Abs.Obj.map b03 .i64 Y97 p0.after, Abs.Obj.map b04 .i64 Y96 p0.refused, oA v36 106 Y91 3 l37, oA (sv b3 0 0) 136 Y8t 9 ([] : List Y8h)]⟩) (fun (l37, v36) => Zej p0 p1 l37 = some r) ?_ ?_
 ·
  refine zw ?_
  refine cnd h (fun hb4 h => ?_) fun hb4 h => ?_
  ·
   refine AW.ct hb4 rfl ?_
   refine zw ?_
   refine oi h fun e5 g6 h => ?_
   refine zw ?_
   refine AW.lp h (fun (l21, x22) (v20 : Value) => ⟨[(1, cM Y92 1 p1), (2, pt b1), (5, cV v20), (6, cV (sv b3 0 0)), (27, cM Y91 3 e5), (28, cI (e5.length : Int)), (29, cI x22)], [oB b1 186 [pt b00], oB b00 196 [cI p0.graph.room, cM Y8t 9 p0.graph.events, cM Y8t 9 p0.graph.parked, mt b01, mt b02, mt b03, mt b04], Abs.Obj.map b01 .i64 Y96 p0.depth, Abs.Obj.map b02 .i64 Y97 p0.before, Abs.Obj.map b03 .i64 Y97 p0.after, Abs.Obj.map b04 .i64 Y96 p0.refused, oA v20 106 Y91 3 l21, oA (sv b3 0 0) 136 Y8t 9 ([] : List Y8h)]⟩) (gb [2, 2, 2, 2, 2, 2, 1, 0]) ?_
   rintro ⟨l21, x22⟩ v20 y250 h
   refine zw ?_
   refine cnd h (fun hb23 h => ?_) fun hb23 h => ?_
   ·
    refine AW.ct hb23 rfl ?_
    refine AW.skip ?_
    refine AW.seq ?_
    refine AW.cut (τ := List Y8n × Value) (fun (l35, v34) => ⟨[(1, cM Y92 1 p1), (2, pt b1), (5, cV v34), (6, cV (sv b3 0 0)), (27, cM Y91 3 e5), (28, cI (e5.length : Int)), (29, cI x22)], [oB b1 186 [pt b00], oB b00 196 [cI p0.graph.room, cM Y8t 9 p0.graph.events, cM Y8t 9 p0.graph.parked, mt b01, mt b02, mt b03, mt b04], Abs.Obj.map b01 .i64 Y96 p0.depth, Abs.Obj.map b02 .i64 Y97 p0.before, Abs.Obj.map b03 .i64 Y97 p0.after, Abs.Obj.map b04 .i64 Y96 p0.refused, oA v34 106 Y91 3 l35, oA (sv b3 0 0) 136 Y8t 9 ([] : List Y8h)]⟩) (fun (l35, v34) => Zek x22 l35 = some y250) ?_ ?_
    ·
     refine zw ?_
     refine oi h fun e24 g25 h => ?_
     refine zw ?_
     refine Ops.h (ns := []) rfl rfl (Y1n (cs := [cI 0, cI 0, cI 0]) Ybl (Y3z rfl rfl) rfl) ?_
     rintro _ _ ⟨b26, rfl, rfl⟩
     refine Ops.hd (ns := [0]) rfl rfl (Y1s (gs := [cI e24.kind, cI e24.key, cI e24.id]) Ybf.h rfl rfl rfl rfl rfl) ?_
     refine zw ?_
     refine Ops.v rfl (Y6h rfl rfl) ?_
     refine ob' h fun r27 g28 h => ?_
     refine Ops.hd (ns := [0]) rfl rfl (Y22 (Ze5 p1 e24 _ g28) rfl rfl) ?_
     refine zw ?_
     refine cnd h (fun hb29 h => ?_) fun hb29 h => ?_
     ·
      refine AW.cond rfl (fun hn => absurd ((Y3r hb29).symm.trans hn) (by decide)) (fun _ => ?_)
      refine zw ?_
      exact ⟨(l21, v20), h, Y1z.both (ns := [1, 1, 1, 1, 1, 1, 1, 1]) rfl rfl⟩
     refine AW.cond rfl (fun _ => ?_) (fun hn => absurd ((Y3s hb29).symm.trans hn) (by decide))
     refine zw ?_
     refine Ops.h (ns := []) rfl rfl (Y36 (k := Y91) (ys := [e24]) Ybe (.agg rfl rfl .nil) rfl rfl rfl) ?_
     rintro _ _ ⟨b30, rfl, rfl⟩
     refine ob' h fun u32 c31 h => ?_
     refine Ops.h (ns := [8, 0]) rfl rfl (Y2q Ybe rfl rfl (Wo (Y3q c31)) (Y3t (by decide) c31) rfl) ?_
     rintro _ _ ⟨v33, rfl, rfl⟩
     refine zw ?_
     exact ⟨((l21 ++ [e24]), v33), h, Y1z.both (ns := [2, 2, 2, 2, 2, 2, 0, 1]) rfl rfl⟩
    rintro ⟨l35, v34⟩ h
    replace h : Zek x22 l35 = some y250 := h
    unfold Zek at h
    refine zw ?_
    exact le h (gb [0, 0, 0, 0, 0, 0, 0, 0])
   refine AW.cf hb23 rfl ?_
   refine AW.exit ?_
   refine lx h fun h => ?_
   exact ⟨(l21, v20), h, Y1z.both (ns := [0, 0, 0, 0, 0, 0, 0, 0]) rfl rfl⟩
  refine AW.cf hb4 rfl ?_
  refine zw ?_
  exact ⟨(([] : List Y8n), (sv b2 0 0)), h, Y1z.both (ns := [2, 2, 2, 2, 2, 2, 1, 0]) rfl rfl⟩
 rintro ⟨l37, v36⟩ h
 replace h : Zej p0 p1 l37 = some r := h
 unfold Zej at h
 refine zw ?_
 refine Ops.h (ns := []) rfl rfl (Y6a (kd := .i64) (kc := Y98) rfl) ?_
 rintro _ _ ⟨b38, rfl, rfl⟩
 refine Ops.v rfl (Yr rfl rfl) ?_
 refine Ops.nil ?_
 refine AW.seq ?_
 refine AW.cut (τ := (List (Int × Bool))) (fun m49 => ⟨[(1, cM Y92 1 p1), (2, pt b1), (5, cV v36), (6, cV (sv b3 0 0)), (9, mt b38)], [oB b1 186 [pt b00], oB b00 196 [cI p0.graph.room, cM Y8t 9 p0.graph.events, cM Y8t 9 p0.graph.parked, mt b01, mt b02, mt b03, mt b04], Abs.Obj.map b01 .i64 Y96 p0.depth, Abs.Obj.map b02 .i64 Y97 p0.before, Abs.Obj.map b03 .i64 Y97 p0.after, Abs.Obj.map b04 .i64 Y96 p0.refused, oA v36 106 Y91 3 l37, oA (sv b3 0 0) 136 Y8t 9 ([] : List Y8h), Abs.Obj.map b38 .i64 Y98 m49]⟩) (fun m49 => Zeh p0 p1 l37 m49 = some r) ?_ ?_
 ·
  refine AW.seq ?_
  refine AW.region ?_
  refine Ops.v rfl (Yq rfl rfl) ?_
  refine Ops.v rfl (Y2s (p := 7) Yb8.h rfl rfl rfl) ?_
  refine zw ?_
  refine AW.lp (v := ()) h (fun (m43, x44) (_ : Unit) => ⟨[(1, cM Y92 1 p1), (2, pt b1), (5, cV v36), (6, cV (sv b3 0 0)), (9, mt b38), (43, cV v36), (44, cI (l37.length : Int)), (45, cI x44)], [oB b1 186 [pt b00], oB b00 196 [cI p0.graph.room, cM Y8t 9 p0.graph.events, cM Y8t 9 p0.graph.parked, mt b01, mt b02, mt b03, mt b04], Abs.Obj.map b01 .i64 Y96 p0.depth, Abs.Obj.map b02 .i64 Y97 p0.before, Abs.Obj.map b03 .i64 Y97 p0.after, Abs.Obj.map b04 .i64 Y96 p0.refused, oA v36 106 Y91 3 l37, oA (sv b3 0 0) 136 Y8t 9 ([] : List Y8h), Abs.Obj.map b38 .i64 Y98 m43]⟩) (gb [1, 1, 1, 1, 1, 1, 1, 1, 0]) ?_
  rintro ⟨m43, x44⟩ _ y243 h
  refine zw ?_
  refine cnd h (fun hb45 h => ?_) fun hb45 h => ?_
  ·
   refine AW.ct hb45 rfl ?_
   refine zw ?_
   refine ob' h fun e46 g47 h => ?_
   refine Ops.v rfl (Y2v (p := 6) Yb8.h rfl rfl rfl g47 rfl) ?_
   refine Ops.v rfl (Y2y (p := 6) Ybf.h rfl rfl (Y27 g47).2.2 rfl rfl rfl) ?_
   refine Ops.h (ns := []) rfl rfl (Y1n (cs := [cI 0, cI 0, cI 0]) Ybl (Y3z rfl rfl) rfl) ?_
   rintro _ _ ⟨b48, rfl, rfl⟩
   refine Ops.hd (ns := [0]) rfl rfl (Y1s (gs := [cI e46.kind, cI e46.key, cI e46.id]) Ybf.h rfl rfl rfl rfl rfl) ?_
   refine zw ?_
   refine Ops.hd (ns := [9]) rfl rfl (Y6d (kc := Y98) (v := true) Ycl rfl rfl rfl rfl) ?_
   refine zw ?_
   exact lu h (gb [2, 2, 2, 2, 2, 2, 2, 2, 0])
  refine AW.cf hb45 rfl ?_
  refine AW.exit ?_
  refine lx h fun h => ?_
  exact ⟨m43, h, Y1z.both (ns := [0, 0, 0, 0, 0, 0, 0, 0, 0]) rfl rfl⟩
 intro m49 h
 replace h : Zeh p0 p1 l37 m49 = some r := h
 unfold Zeh at h
 refine AW.seq ?_
 refine AW.cut (τ := List Y8h × Value) (fun (l175, v174) => ⟨[(2, pt b1), (5, cV v36), (6, cV v174)], [oB b1 186 [pt b00], oB b00 196 [cI p0.graph.room, cM Y8t 9 p0.graph.events, cM Y8t 9 p0.graph.parked, mt b01, mt b02, mt b03, mt b04], Abs.Obj.map b01 .i64 Y96 p0.depth, Abs.Obj.map b02 .i64 Y97 p0.before, Abs.Obj.map b03 .i64 Y97 p0.after, Abs.Obj.map b04 .i64 Y96 p0.refused, oA v36 106 Y91 3 l37, oA v174 136 Y8t 9 l175]⟩) (fun (l175, v174) => Zeb p0 l37 l175 = some r) ?_ ?_
 ·
  refine zw ?_
  refine AW.lp h (fun (l111, m112, x113) (v110 : Value) => ⟨[(2, pt b1), (5, cV v36), (6, cV v110), (9, mt b38), (53, cM Y92 1 p1), (54, cI (p1.length : Int)), (55, cI x113)], [oB b1 186 [pt b00], oB b00 196 [cI p0.graph.room, cM Y8t 9 p0.graph.events, cM Y8t 9 p0.graph.parked, mt b01, mt b02, mt b03, mt b04], Abs.Obj.map b01 .i64 Y96 p0.depth, Abs.Obj.map b02 .i64 Y97 p0.before, Abs.Obj.map b03 .i64 Y97 p0.after, Abs.Obj.map b04 .i64 Y96 p0.refused, oA v36 106 Y91 3 l37, oA v110 136 Y8t 9 l111, Abs.Obj.map b38 .i64 Y98 m112]⟩) (gb [0, 0, 0, 0, 0, 0, 0, 0, 0]) ?_
  rintro ⟨l111, m112, x113⟩ v110 y229 h
  refine zw ?_
  refine cnd h (fun hb114 h => ?_) fun hb114 h => ?_
  ·
   refine AW.ct hb114 rfl ?_
   refine AW.skip ?_
   refine AW.seq ?_
   refine AW.cut (τ := List Y8h × (List (Int × Bool)) × Value) (fun (l172, m173, v171) => ⟨[(2, pt b1), (5, cV v36), (6, cV v171), (9, mt b38), (53, cM Y92 1 p1), (54, cI (p1.length : Int)), (55, cI x113)], [oB b1 186 [pt b00], oB b00 196 [cI p0.graph.room, cM Y8t 9 p0.graph.events, cM Y8t 9 p0.graph.parked, mt b01, mt b02, mt b03, mt b04], Abs.Obj.map b01 .i64 Y96 p0.depth, Abs.Obj.map b02 .i64 Y97 p0.before, Abs.Obj.map b03 .i64 Y97 p0.after, Abs.Obj.map b04 .i64 Y96 p0.refused, oA v36 106 Y91 3 l37, oA v171 136 Y8t 9 l172, Abs.Obj.map b38 .i64 Y98 m173]⟩) (fun (l172, m173, v171) => Zec x113 l172 m173 = some y229) ?_ ?_
   ·
    refine zw ?_
    refine oi h fun e115 g116 h => ?_
    refine zw ?_
    refine AW.lp h (fun (l143, m144, x145) (v142 : Value) => ⟨[(2, pt b1), (5, cV v36), (6, cV v142), (9, mt b38), (53, cM Y92 1 p1), (54, cI (p1.length : Int)), (55, cI x113), (59, cM Y91 3 e115), (60, cI (e115.length : Int)), (61, cI x145)], [oB b1 186 [pt b00], oB b00 196 [cI p0.graph.room, cM Y8t 9 p0.graph.events, cM Y8t 9 p0.graph.parked, mt b01, mt b02, mt b03, mt b04], Abs.Obj.map b01 .i64 Y96 p0.depth, Abs.Obj.map b02 .i64 Y97 p0.before, Abs.Obj.map b03 .i64 Y97 p0.after, Abs.Obj.map b04 .i64 Y96 p0.refused, oA v36 106 Y91 3 l37, oA v142 136 Y8t 9 l143, Abs.Obj.map b38 .i64 Y98 m144]⟩) (gb [0, 0, 0, 0, 0, 0, 0, 0, 0]) ?_
    rintro ⟨l143, m144, x145⟩ v142 y236 h
    refine zw ?_
    refine cnd h (fun hb146 h => ?_) fun hb146 h => ?_
    ·
     refine AW.ct hb146 rfl ?_
     refine AW.skip ?_
     refine AW.seq ?_
     refine AW.cut (τ := List Y8h × (List (Int × Bool)) × Value) (fun (l169, m170, v168) => ⟨[(2, pt b1), (5, cV v36), (6, cV v168), (9, mt b38), (53, cM Y92 1 p1), (54, cI (p1.length : Int)), (55, cI x113), (59, cM Y91 3 e115), (60, cI (e115.length : Int)), (61, cI x145)], [oB b1 186 [pt b00], oB b00 196 [cI p0.graph.room, cM Y8t 9 p0.graph.events, cM Y8t 9 p0.graph.parked, mt b01, mt b02, mt b03, mt b04], Abs.Obj.map b01 .i64 Y96 p0.depth, Abs.Obj.map b02 .i64 Y97 p0.before, Abs.Obj.map b03 .i64 Y97 p0.after, Abs.Obj.map b04 .i64 Y96 p0.refused, oA v36 106 Y91 3 l37, oA v168 136 Y8t 9 l169, Abs.Obj.map b38 .i64 Y98 m170]⟩) (fun (l169, m170, v168) => Zed x145 l169 m170 = some y236) ?_ ?_
     ·
      refine zw ?_
      refine oi h fun e147 g148 h => ?_
      refine zw ?_
      refine Ops.h (ns := []) rfl rfl (Y1n (cs := [cI 0, cI 0, cI 0]) Ybl (Y3z rfl rfl) rfl) ?_
      rintro _ _ ⟨b149, rfl, rfl⟩
      refine Ops.hd (ns := [0]) rfl rfl (Y1s (gs := [cI e147.kind, cI e147.key, cI e147.id]) Ybf.h rfl rfl rfl rfl rfl) ?_
      refine zw ?_
      refine Ops.v rfl (Y6c (p := 9) (kc := Y98) (z0 := false) Ycl zv_4 (fun _ _ => rfl) rfl rfl rfl rfl) ?_
      refine zw ?_
      refine cnd h (fun hb150 h => ?_) fun hb150 h => ?_
      ·
       refine AW.cond rfl (fun hn => absurd ((Y3r hb150).symm.trans hn) (by decide)) (fun _ => ?_)
       refine zw ?_
       exact ⟨(l143, m144, v142), h, Y1z.both (ns := [1, 1, 1, 1, 1, 1, 1, 1, 1]) rfl rfl⟩
      refine AW.cond rfl (fun _ => ?_) (fun hn => absurd ((Y3s hb150).symm.trans hn) (by decide))
      refine zw ?_
      refine Ops.hd (ns := [9]) rfl rfl (Y6d (kc := Y98) (v := true) Ycl rfl rfl rfl rfl) ?_
      refine Ops.nil ?_
      refine AW.seq ?_
      refine AW.cut (τ := Int × Int × Int × Int × Int × Int × ByteArray × List Int × Int × Nat) (fun (x155, x156, x157, x158, x159, x160, x161, l162, x163, b154) => ⟨[(2, pt b1), (5, cV v36), (6, cV v142), (9, mt b38), (16, pt b154), (53, cM Y92 1 p1), (54, cI (p1.length : Int)), (55, cI x113), (59, cM Y91 3 e115), (60, cI (e115.length : Int)), (61, cI x145)], [oB b1 186 [pt b00], oB b00 196 [cI p0.graph.room, cM Y8t 9 p0.graph.events, cM Y8t 9 p0.graph.parked, mt b01, mt b02, mt b03, mt b04], Abs.Obj.map b01 .i64 Y96 p0.depth, Abs.Obj.map b02 .i64 Y97 p0.before, Abs.Obj.map b03 .i64 Y97 p0.after, Abs.Obj.map b04 .i64 Y96 p0.refused, oA v36 106 Y91 3 l37, oA v142 136 Y8t 9 l143, Abs.Obj.map b38 .i64 Y98 (mset m144 e147.id true), oB b154 136 [cI x155, cI x156, cI x157, cI x158, cI x159, cI x160, C.str x161, cM kI64 1 l162, cI x163]]⟩) (fun (x155, x156, x157, x158, x159, x160, x161, l162, x163, b154) => Zee l143 m144 x145 e147 x155 x156 x157 x158 x159 x160 x161 l162 x163 = some y236) ?_ ?_
      ·
       refine AW.regionD (L := [0, 3, 5]) (Lt := [11]) (k := .light 0 true (.light 1 false (.light 2 false (.light 3 true (.light 4 false (.light 5 true (.two 6 10 (.light 7 false (.light 8 false (.light 9 false (.one 10 (.late 11 (.light 12 false .done)))))) (.one 6 (.light 7 false (.light 8 false (.light 9 false (.late 11 (.light 12 false .done))))))))))))) (ns := [0, 0, 0, 0, 0, 0, 0, 0, 0, 0]) (by kernel_rfl) (by kernel_rfl) (by kernel_rfl) (by kernel_rfl) rfl ?_
       refine OpsD.v rfl rfl (Y1i (p := 2) Ycm.h rfl rfl rfl rfl) ?_
       refine OpsD.v rfl rfl (Y12 rfl rfl) ?_
       refine OpsD.v rfl rfl (Y19 Ycn.h rfl rfl) ?_
       refine OpsD.v rfl rfl (Y1j (p := 3) (ds := [cI p0.graph.room, cM Y8t 9 p0.graph.events, cM Y8t 9 p0.graph.parked]) Yak.h rfl rfl rfl rfl rfl) ?_
       refine zw ?_
       refine ob' h fun r151 g152 h => ?_
       refine OpsD.two ?_ ?_
       ·
        refine Y3k.h (ns := []) rfl rfl rfl (Y22 ((Zc6 _ _).h _ g152) rfl rfl) ?_
        rintro _ _ ⟨rfl, rfl⟩
        refine OpsD.v rfl rfl (Yq rfl rfl) ?_
        refine OpsD.v rfl rfl (Y11 rfl rfl rfl) ?_
        refine OpsD.v rfl rfl (Y11 rfl rfl rfl) ?_
        refine OpsD.one ?_
        refine Y3k.h (ns := []) rfl rfl rfl (Y1n (cs := [cI 0, cI 0, cI 0, cI 0, cI 0, cI 0, C.str ByteArray.empty, cV s0, cI 0]) Y9t (Y3z rfl rfl) rfl) ?_
        rintro _ _ ⟨b153, rfl, rfl⟩
        refine OpsD.late (ns := [10]) rfl rfl rfl (Y1s (gs := [cI r151.1.id, cI r151.1.room, cI r151.1.author, cI r151.1.kind, cI r151.1.key, cI r151.1.n, C.str r151.1.text, cM kI64 1 r151.1.prev, cI r151.1.time]) Yaa.h rfl rfl rfl rfl rfl) ?_
        rintro _ _ ⟨rfl, rfl⟩
        refine zw ?_
        exact ⟨(r151.1.id, r151.1.room, r151.1.author, r151.1.kind, r151.1.key, r151.1.n, r151.1.text, r151.1.prev, r151.1.time, b153), h, Y1z.both (ns := [3, 3, 3, 3, 3, 3, 3, 3, 1, 0]) rfl rfl⟩
       refine Y3k.h (ns := []) rfl rfl rfl (Y1n (cs := [cI 0, cI 0, cI 0, cI 0, cI 0, cI 0, C.str ByteArray.empty, cV s0, cI 0]) Y9t (Y3z rfl rfl) rfl) ?_
       rintro _ _ ⟨b153, rfl, rfl⟩
       refine OpsD.one ?_
       refine Y3k.h (ns := []) rfl rfl rfl (Y22 ((Zc6 _ _).h _ g152) rfl rfl) ?_
       rintro _ _ ⟨rfl, rfl⟩
       refine zw ?_
       refine OpsD.late (ns := [10]) rfl rfl rfl (Y1s (gs := [cI r151.1.id, cI r151.1.room, cI r151.1.author, cI r151.1.kind, cI r151.1.key, cI r151.1.n, C.str r151.1.text, cM kI64 1 r151.1.prev, cI r151.1.time]) Yaa.h rfl rfl rfl rfl rfl) ?_
       rintro _ _ ⟨rfl, rfl⟩
       refine zw ?_
       exact ⟨(r151.1.id, r151.1.room, r151.1.author, r151.1.kind, r151.1.key, r151.1.n, r151.1.text, r151.1.prev, r151.1.time, b153), h, Y1z.both (ns := [3, 3, 3, 3, 3, 3, 3, 3, 1, 0]) rfl rfl⟩
      rintro ⟨x155, x156, x157, x158, x159, x160, x161, l162, x163, b154⟩ h
      replace h : Zee l143 m144 x145 e147 x155 x156 x157 x158 x159 x160 x161 l162 x163 = some y236 := h
      unfold Zee at h
      refine AW.region ?_
      refine Ops.v rfl (Yq rfl rfl) ?_
      refine Ops.v rfl (Y1j (p := 9) (ds := [cI x155, cI x156, cI x157, cI x158, cI x159, cI x160, C.str x161, cM kI64 1 l162, cI x163]) Yaa.h rfl rfl rfl rfl rfl) ?_
      refine Ops.h (ns := []) rfl rfl (Y36 (k := Y8t) (ys := [(Y8h.mk x155 x156 x157 x158 x159 x160 x161 l162 x163)]) Yab (.agg rfl rfl .nil) rfl rfl rfl) ?_
      rintro _ _ ⟨b164, rfl, rfl⟩
      refine ob' h fun u166 c165 h => ?_
      refine Ops.h (ns := [8, 0]) rfl rfl (Y2q Yab rfl rfl (Wo (Y3q c165)) (Y3t (by decide) c165) rfl) ?_
      rintro _ _ ⟨v167, rfl, rfl⟩
      refine zw ?_
      exact ⟨((l143 ++ [(Y8h.mk x155 x156 x157 x158 x159 x160 x161 l162 x163)]), (mset m144 e147.id true), v167), h, Y1z.both (ns := [1, 1, 1, 1, 1, 1, 1, 0, 0]) rfl rfl⟩
     rintro ⟨l169, m170, v168⟩ h
     replace h : Zed x145 l169 m170 = some y236 := h
     unfold Zed at h
     refine zw ?_
     exact le h (gb [0, 0, 0, 0, 0, 0, 0, 0, 0])
    refine AW.cf hb146 rfl ?_
    refine AW.exit ?_
    refine lx h fun h => ?_
    exact ⟨(l143, m144, v142), h, Y1z.both (ns := [0, 0, 0, 0, 0, 0, 0, 0, 0]) rfl rfl⟩
   rintro ⟨l172, m173, v171⟩ h
   replace h : Zec x113 l172 m173 = some y229 := h
   unfold Zec at h
   refine zw ?_
   exact le h (gb [0, 0, 0, 0, 0, 0, 0, 0, 0])
  refine AW.cf hb114 rfl ?_
  refine AW.exit ?_
  refine lx h fun h => ?_
  exact ⟨(l111, v110), h, Y1z.both (ns := [0, 0, 0, 0, 0, 0, 0, 0]) rfl rfl⟩
 rintro ⟨l175, v174⟩ h
 replace h : Zeb p0 l37 l175 = some r := h
 unfold Zeb at h
 refine zw ?_
 refine Ops.v rfl (Y6h rfl rfl) ?_
 refine ob' h fun r176 g177 h => ?_
 refine Ops.hd (ns := [7, 0, 0, 0, 0, 0, 0]) rfl rfl (Y7s (k := Y8t) Y8f rfl rfl (Y7r.clo rfl) (FrzT.cons (os := [_,_,_,_,_,_]) (Frz.box (FrzL.cons (os := [_,_,_,_,_]) (Frz.box (fS (fS (fS (FrzL.cons (os := [_]) Frz.map (FrzL.cons (os := [_]) Frz.map (FrzL.cons (os := [_]) Frz.map (FrzL.cons (os := [_]) Frz.map FrzL.nil)))))))) FrzL.nil)) FrzT.nil) (fun z1 z2 r_ h_ => (Ze7 z1 z2 p0).h r_ h_) g177 rfl) ?_
 refine Ops.nil ?_
 refine AW.seq ?_
 refine AW.cut (τ := List Y8n) (fun l205 => ⟨[(5, cM Y91 3 l205)], [oB b00 196 [cI p0.graph.room, cM Y8t 9 p0.graph.events, cM Y8t 9 p0.graph.parked, mt b01, mt b02, mt b03, mt b04], Abs.Obj.map b01 .i64 Y96 p0.depth, Abs.Obj.map b02 .i64 Y97 p0.before, Abs.Obj.map b03 .i64 Y97 p0.after, Abs.Obj.map b04 .i64 Y96 p0.refused]⟩) (fun l205 => Ze8 l205 = some r) ?_ ?_
 ·
  refine zw ?_
  refine AW.lp (v := ()) h (fun (l193, x194) (_ : Unit) => ⟨[(2, pt b1), (5, cM Y91 3 l193), (92, cV v174), (93, cI (r176.length : Int)), (94, cI x194)], [oB b1 186 [pt b00], oB b00 196 [cI p0.graph.room, cM Y8t 9 p0.graph.events, cM Y8t 9 p0.graph.parked, mt b01, mt b02, mt b03, mt b04], Abs.Obj.map b01 .i64 Y96 p0.depth, Abs.Obj.map b02 .i64 Y97 p0.before, Abs.Obj.map b03 .i64 Y97 p0.after, Abs.Obj.map b04 .i64 Y96 p0.refused, oA v174 136 Y8t 9 r176]⟩) ((Y1z.freeze (p := 7) (t := 5) rfl rfl).trans (Y1z.both (ns := [1, 1, 1, 1, 1, 1, 0]) rfl rfl)) ?_
  rintro ⟨l193, x194⟩ _ y222 h
  refine zw ?_
  refine cnd h (fun hb195 h => ?_) fun hb195 h => ?_
  ·
   refine AW.ct hb195 rfl ?_
   refine AW.skip ?_
   refine AW.seq ?_
   refine AW.cut (τ := List Y8n) (fun l204 => ⟨[(2, pt b1), (5, cM Y91 3 l204), (92, cV v174), (93, cI (r176.length : Int)), (94, cI x194)], [oB b1 186 [pt b00], oB b00 196 [cI p0.graph.room, cM Y8t 9 p0.graph.events, cM Y8t 9 p0.graph.parked, mt b01, mt b02, mt b03, mt b04], Abs.Obj.map b01 .i64 Y96 p0.depth, Abs.Obj.map b02 .i64 Y97 p0.before, Abs.Obj.map b03 .i64 Y97 p0.after, Abs.Obj.map b04 .i64 Y96 p0.refused, oA v174 136 Y8t 9 r176]⟩) (fun l204 => Ze9 x194 l204 = some y222) ?_ ?_
   ·
    refine zw ?_
    refine ob' h fun e196 g197 h => ?_
    refine Ops.v rfl (Y2v (p := 6) Yad.h rfl rfl rfl g197 rfl) ?_
    refine Ops.v rfl (Y2y (p := 6) Yaa.h rfl rfl (Y27 g197).2.2 rfl rfl rfl) ?_
    refine Ops.h (ns := []) rfl rfl (Y1n (cs := [cI 0, cI 0, cI 0, cI 0, cI 0, cI 0, C.str ByteArray.empty, cV s0, cI 0]) Y9t (Y3z rfl rfl) rfl) ?_
    rintro _ _ ⟨b198, rfl, rfl⟩
    refine Ops.hd (ns := [0]) rfl rfl (Y1s (gs := [cI e196.id, cI e196.room, cI e196.author, cI e196.kind, cI e196.key, cI e196.n, C.str e196.text, cM kI64 1 e196.prev, cI e196.time]) Yaa.h rfl rfl rfl rfl rfl) ?_
    refine zw ?_
    refine rD [0,0,0,0,0,0,0,0] [0,3,5] [] [1,4,8,13,16,21,26,28] ?_
    refine zw ?_
    refine dc h fun r199 g200 h => ?_
    refine zw ?_
    refine cnd h (fun hb201 h => ?_) fun hb201 h => ?_
    ·
     refine AW.ct hb201 rfl ?_
     refine zw ?_
     refine Ops.v rfl (Y35 (ds := [cI e196.kind, cI e196.key, cI e196.id]) Ybk Ybl (Y3z rfl rfl) (.one rfl (One.val rfl) rfl rfl (.one rfl (One.val rfl) rfl rfl (.one rfl (One.val rfl) rfl rfl .nil))) rfl) ?_
     refine oc h fun r202 g203 h => ?_
     refine zw ?_
     exact ⟨r202, h, Y1z.both (ns := [1, 1, 1, 1, 1, 1, 1]) rfl rfl⟩
    refine AW.cf hb201 rfl ?_
    refine zw ?_
    exact ⟨l193, h, Y1z.both (ns := [1, 1, 1, 1, 1, 1, 1]) rfl rfl⟩
   intro l204 h
   replace h : Ze9 x194 l204 = some y222 := h
   unfold Ze9 at h
   refine zw ?_
   exact lu h (gb [0, 0, 0, 0, 0, 0, 0])
  refine AW.cf hb195 rfl ?_
  refine AW.exit ?_
  refine lx h fun h => ?_
  exact ⟨l193, h, Y1z.both (ns := [1, 1, 1, 1, 1]) rfl rfl⟩
 intro l205 h
 replace h : Ze8 l205 = some r := h
 unfold Ze8 at h
 refine zw ?_
 refine AW.ret ?_
 rw [← Wj h]
 exact ⟨[cM Y91 3 l205], _, Y1z.refl _, (.cons (.tmp rfl) .nil), [0, 0, 0, 0, 0], _, _, rfl, ⟨rfl, rfl⟩⟩

def Zeo (p0 : List Int) : Option (List Int) := (chk (decide (p0.length * 8 ≤ 140737488355328))).bind fun _ => some p0
theorem Zep (p0 : List Int) (r : List Int) (h : Zeo p0 = some r) : Ok Tryz.prog 110 [cM kI64 1 p0] [] (fun c qs => ∃ (v : Value), c = cV v ∧ qs = [oA v 2 kI64 1 r]) := by
 refine ob' h fun u hc h => ?_
 obtain rfl := Wj h
 have hc := Wo (Y3q hc)
 refine Ok.of_body (rs := [.tmp 2]) Tryz.func110 rfl rfl rfl rfl rfl fun X => ?_
 refine zw ?_
 refine Ops.h (ns := []) rfl rfl (Y5j Y9b.h rfl rfl) ?_
 rintro _ _ ⟨b, hb, rfl, rfl⟩
 refine zw ?_
 refine tf' b (fun hq => ?_) (fun hq => ?_)
 ·
  refine AW.cond rfl (fun _ => ?_) (fun hn => absurd (hq.symm.trans hn) (by decide))
  refine zw ?_
  refine AW.ret ?_
  obtain rfl := hb hq
  exact ⟨[cV s0], _, Y1z.nil 2 kI64 1, .cons (.tmp rfl) .nil, [0], _, _, rfl, ⟨_, rfl, rfl⟩⟩
 refine AW.cond rfl (fun hn => absurd (hq.symm.trans hn) (by decide)) (fun _ => ?_)
 refine zw ?_
 refine Ops.h (ns := []) rfl rfl (Y36 (k := kI64) (ys := ([] : List Int)) Y9s .nil rfl rfl rfl) ?_
 rintro _ _ ⟨b1, rfl, rfl⟩
 refine zw ?_
 refine Ops.h (ns := [0]) rfl rfl (Y2p Y9s rfl rfl (by simpa using hc) (by simp; omega) rfl) ?_
 rintro _ _ ⟨v, rfl, rfl⟩
 refine zw ?_
 refine AW.ret ?_
 exact ⟨[cV v], _, Y1z.refl _, .cons (.tmp rfl) .nil, [0], _, _, rfl, ⟨v, rfl, rfl⟩⟩
instance Zep' (p0 : List Int) : Sp Tryz.prog 110 [cM kI64 1 p0] (Zeo p0) (fun r => cM kI64 1 r) := ⟨fun r h => Ok.freeze (Zep p0 r h) (by rintro c qs ⟨v, rfl, rfl⟩; exact Frz.arr)⟩

def Zeq : Option Bool := some false
def Zer (x24 : Int) (m36 : List (Int × Bool)) (l38 : List Int) : Option (((List (Int × Bool)) × List Int × Int) ⊕ (Bool ⊕ Unit)) := some (.inl (m36, l38, (IntKind.i64.wrap (x24 + 1))))
def Zes (p0 : Y8l) (p1 : Int) (m21 : List (Int × Bool)) (l23 : List Int) (x24 : Int) : Option (((List (Int × Bool)) × List Int × Int) ⊕ (Bool ⊕ Unit)) := cond (decide (x24 < (l23.length : Int))) ((getI l23 x24).bind fun e26 => cond (e26 == p1) (some (.inr (.inl true))) (cond (Option.getD (mget m21 e26) false) (Zer x24 m21 l23) ((Zc5 p0 e26).bind fun r30 => (chk (decide ((l23.length + r30.1.prev.length) * 8 ≤ 140737488355328))).bind fun u34 => Zer x24 (mset m21 e26 true) (l23 ++ r30.1.prev)))) (some (.inr (.inr ())))
def Zet (p0 : Y8l) (p1 : Int) (p2 : Y8h) : Option Bool := (Zeo p2.prev).bind fun r4 => (iter (fun z39 => Zes p0 p1 z39.1 z39.2.1 z39.2.2) big (([] : List (Int × Bool)), r4, 0)).bind (fun z41 => match z41 with | .inl y40 => some y40 | .inr () => Zeq)
instance Zeu (p0 : Y8l) (p1 : Int) (p2 : Y8h) : Sp Tryz.prog 240 [C.agg [cI p0.room, cM Y8t 9 p0.events, cM Y8t 9 p0.parked], cI p1, C.agg [cI p2.id, cI p2.room, cI p2.author, cI p2.kind, cI p2.key, cI p2.n, C.str p2.text, cM kI64 1 p2.prev, cI p2.time]] (Zet p0 p1 p2) C.bool := sp Tryz.func240 rfl rfl fun r X h => by
 unfold Zet at h
 refine zw ?_
 refine ox fun b1 => ?_
 refine ox fun b2 => ?_
 refine zw ?_
 refine Ops.h (ns := []) rfl rfl (Y6a (kd := .i64) (kc := Y98) rfl) ?_
 rintro _ _ ⟨b3, rfl, rfl⟩
 refine zw ?_
 refine ob' h fun r4 g5 h => ?_
 refine Ops.h (ns := []) rfl rfl (Y21 (Zep _ _ g5) rfl rfl) ?_
 rintro _ _ ⟨_, ⟨v6, rfl, rfl⟩, rfl⟩
 refine zw ?_
 refine AW.lp h (fun (m21, l23, x24) (v22 : Value) => ⟨[(1, cI p1), (3, pt b1), (7, mt b3), (8, cV v22), (9, cI x24)], [oB b1 139 [cI p0.room, cM Y8t 9 p0.events, cM Y8t 9 p0.parked], Abs.Obj.map b3 .i64 Y98 m21, oA v22 2 kI64 1 l23]⟩) (gb [3, 1, 0]) ?_
 rintro ⟨m21, l23, x24⟩ v22 y47 h
 refine AW.seq ?_
 refine AW.seq ?_
 refine AW.region ?_
 refine Ops.v rfl (Yq rfl rfl) ?_
 refine Ops.v rfl (Yq rfl rfl) ?_
 refine Ops.v rfl (Y2s (p := 2) Y9b.h rfl rfl rfl) ?_
 refine zw ?_
 refine cnd h (fun hb25 h => ?_) fun hb25 h => ?_
 ·
  refine AW.ct hb25 rfl ?_
  refine zw ?_
  refine ob' h fun e26 g27 h => ?_
  refine Ops.v rfl (Y2v (p := 2) Y9b.h rfl rfl rfl g27 rfl) ?_
  refine Ops.v rfl (Y2x (p := 2) ld_2.h rfl rfl (Y27 g27).2.2 rfl rfl) ?_
  refine zw ?_
  refine cnd h (fun hb28 h => go) fun hb28 h => ?_
  refine AW.cf hb28 rfl ?_
  refine zw ?_
  refine Ops.v rfl (Y6c (p := 1) (kc := Y98) (z0 := false) Ycl zv_4 (fun _ _ => rfl) rfl rfl rfl rfl) ?_
  refine zw ?_
  refine cnd h (fun hb29 h => go) fun hb29 h => ?_
  refine AW.cond rfl (fun _ => ?_) (fun hn => absurd ((Y3s hb29).symm.trans hn) (by decide))
  refine zw ?_
  refine Ops.hd (ns := [1]) rfl rfl (Y6d (kc := Y98) (v := true) Ycl rfl rfl rfl rfl) ?_
  refine zw ?_
  refine oc h fun r30 g31 h => ?_
  refine zw ?_
  refine Ops.h (ns := []) rfl rfl (Y1n (cs := [cI 0, cI 0, cI 0, cI 0, cI 0, cI 0, C.str ByteArray.empty, cV s0, cI 0]) Y9t (Y3z rfl rfl) rfl) ?_
  rintro _ _ ⟨b32, rfl, rfl⟩
  refine Ops.hd (ns := [0]) rfl rfl (Y1s (gs := [cI r30.1.id, cI r30.1.room, cI r30.1.author, cI r30.1.kind, cI r30.1.key, cI r30.1.n, C.str r30.1.text, cM kI64 1 r30.1.prev, cI r30.1.time]) Yaa.h rfl rfl rfl rfl rfl) ?_
  refine zw ?_
  refine ob' h fun u34 c33 h => ?_
  refine Ops.h (ns := [3]) rfl rfl (Y2p Y9s rfl rfl (Wo (Y3q c33)) (Y3t (by decide) c33) rfl) ?_
  rintro _ _ ⟨v35, rfl, rfl⟩
  exact go
 exact go

end Go.Proofs.YtbgichfjcnibpaaGreat
