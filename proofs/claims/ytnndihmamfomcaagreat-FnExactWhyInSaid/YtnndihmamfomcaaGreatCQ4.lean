/- Printed by gen.py: plain functions for Go functions, and that the walks keep to them. -/
import Derived.Test.YtnndihmamfomcaaGreatCQ3
set_option autoImplicit false
set_option linter.unusedVariables false
set_option linter.unusedSimpArgs false
set_option maxRecDepth 100000
namespace Go.Proofs.YtnndihmamfomcaaGreat
open Go Go.Abs
attribute [local irreducible] AW Ops OpsD StepD
def Z60 (x31 : Int) (l47 : List Int) : Option ((List Int × Int) ⊕ ((List Int))) := some (.inl (l47, (IntKind.i64.wrap (x31 * 2))))
def Z8i (p1 : Int) (p2_0 : List Int) (x31 : Int) (l42 : List Int) (x43 : Int) : Option ((List Int × Int) ⊕ ((List Int))) := cond (decide ((IntKind.i64.wrap (x43 + x31)) < p1)) ((Z8k l42 x43 (IntKind.i64.wrap (x43 + x31)) p1 p2_0).bind fun r45 => Z60 x31 r45) (Z60 x31 l42)
def Z3v (p1 : Int) (p2_0 : List Int) (x31 : Int) (l36 : List Int) (x37 : Int) (x38 : Int) : Option ((List Int × Int × Int) ⊕ ((List Int × Int))) := cond (decide (x38 ≤ p1)) ((Z8k l36 x37 (IntKind.i64.wrap (x37 + x31)) x38 p2_0).bind fun r40 => some (.inl (r40, x38, (IntKind.i64.wrap (x38 + (IntKind.i64.wrap (2 * x31))))))) (some (.inr (l36, x37)))
def Z3w (p1 : Int) (p2_0 : List Int) (l30 : List Int) (x31 : Int) : Option ((List Int × Int) ⊕ ((List Int))) := cond (decide (x31 < p1)) ((iter (fun z48 => Z3v p1 p2_0 x31 z48.1 z48.2.1 z48.2.2) big (l30, 0, (IntKind.i64.wrap (2 * x31)))).bind fun (y49, y50) => Z8i p1 p2_0 x31 y49 y50) (some (.inr l30))
def Z8j (p1 : Int) (p2_0 : List Int) (l10 : List Int) (x11 : Int) : Option (List Int) := (Z5x l10 x11 p1 p2_0).bind fun r12 => (iter (fun z51 => Z3w p1 p2_0 z51.1 z51.2) big (r12, 20)).bind fun y52 => some y52
def Z3x (p1 : Int) (p2_0 : List Int) (l4 : List Int) (x5 : Int) (x6 : Int) : Option ((List Int × Int × Int) ⊕ ((List Int × Int))) := cond (decide (x6 ≤ p1)) ((Z5x l4 x5 x6 p2_0).bind fun r8 => some (.inl (r8, x6, (IntKind.i64.wrap (x6 + 20))))) (some (.inr (l4, x5)))
def Zas (p0 : List Int) (p1 : Int) (p2_0 : List Int) : Option (List Int) := (iter (fun z53 => Z3x p1 p2_0 z53.1 z53.2.1 z53.2.2) big (p0, 0, 20)).bind fun (y54, y55) => Z8j p1 p2_0 y54 y55
set_option maxHeartbeats 1000000 in
theorem Ze2 {w00 : Value} {b01 : Nat} (p0 : List Int) (p1 : Int) (p2_0 : List Int) (r : List Int) (h : Zas p0 p1 p2_0 = some r) : Ok Tryz.prog 200 [C.val w00, C.int p1, C.clo 171 [C.val (.pointer (some ⟨b01, 0, none⟩))]] [Obj.arr w00 3 kI64 1 p0, Obj.box b01 26 [C.im kI64 1 p2_0]] (fun c qs => c = C.tup [] ∧ qs = [Obj.arr w00 3 kI64 1 r, Obj.box b01 26 [C.im kI64 1 p2_0]]) := by
 refine Ok.of_body (rs := []) Tryz.func200 rfl rfl rfl rfl rfl fun X => ?_
 unfold Zas at h
 refine AW.seq ?_
 refine AW.region ?_
 refine Ops.v rfl (op_assign rfl rfl) ?_
 refine Ops.nil ?_
 refine AW.seq ?_
 refine AW.region ?_
 refine Ops.v rfl (op_move rfl rfl) ?_
 refine Ops.v rfl (op_assign rfl rfl) ?_
 refine Ops.v rfl (op_assign rfl rfl) ?_
 refine Ops.nil ?_
 refine AW.seq ?_
 refine AW.cut (τ := List Int × Int) (fun (l10, x11) => ⟨[(0, C.val w00), (1, C.int p1), (2, C.clo 171 [C.val (.pointer (some ⟨b01, 0, none⟩))]), (6, C.int 20), (7, C.int x11)], [Obj.arr w00 3 kI64 1 l10, Obj.box b01 26 [C.im kI64 1 p2_0]]⟩) (fun (l10, x11) => Z8j p1 p2_0 l10 x11 = some r) ?_ ?_
 ·
  refine zz ?_
  refine ob' h fun o70 g71 q72 => ?_
  refine AW.loop (τ := List Int × Int × Int) (x := (p0, 0, 20)) (fun (l4, x5, x6) => ⟨[(0, C.val w00), (1, C.int p1), (2, C.clo 171 [C.val (.pointer (some ⟨b01, 0, none⟩))]), (6, C.int 20), (7, C.int x5), (8, C.int x6)], [Obj.arr w00 3 kI64 1 l4, Obj.box b01 26 [C.im kI64 1 p2_0]]⟩) (fun k (l4, x5, x6) => iter (fun z53 => Z3x p1 p2_0 z53.1 z53.2.1 z53.2.2) k (l4, x5, x6) = some o70) g71 (Ghost.both (ns := [0, 0]) rfl rfl) ?_
  rintro k ⟨l4, x5, x6⟩ i74
  refine iter_succ' (show iter (fun z53 => Z3x p1 p2_0 z53.1 z53.2.1 z53.2.2) k (l4, x5, x6) = some o70 from i74) fun k73 y75 hlt_k73 h h76 => ?_
  replace h : Z3x p1 p2_0 l4 x5 x6 = some y75 := h
  unfold Z3x at h
  refine zz ?_
  refine cnd h (fun hb7 h => ?_) fun hb7 h => ?_
  ·
   refine AW.ct hb7 rfl ?_
   refine zz ?_
   refine ob' h fun r8 g9 h => ?_
   refine Ops.hd (ns := [0, 0]) rfl rfl (op_callE (Zc5 l4 x5 x6 p2_0 _ g9) rfl rfl) ?_
   refine zz ?_
   obtain rfl := Option.some.inj h
   exact ⟨k73, (r8, x6, (IntKind.i64.wrap (x6 + 20))), hlt_k73, h76, Ghost.both (ns := [0, 0]) rfl rfl⟩
  refine AW.cf hb7 rfl ?_
  refine AW.exit ?_
  obtain rfl := Option.some.inj h
  obtain rfl := Option.some.inj h76
  replace h := q72
  exact ⟨(l4, x5), h, Ghost.both (ns := [0, 0]) rfl rfl⟩
 rintro ⟨l10, x11⟩ h
 replace h : Z8j p1 p2_0 l10 x11 = some r := h
 unfold Z8j at h
 refine zz ?_
 refine ob' h fun r12 g13 h => ?_
 refine Ops.hd (ns := [0, 0]) rfl rfl (op_callE (Zc5 l10 x11 p1 p2_0 _ g13) rfl rfl) ?_
 refine zz ?_
 refine ob' h fun o56 g57 q58 => ?_
 refine AW.loop (τ := List Int × Int) (x := (r12, 20)) (fun (l30, x31) => ⟨[(0, C.val w00), (1, C.int p1), (2, C.clo 171 [C.val (.pointer (some ⟨b01, 0, none⟩))]), (6, C.int x31)], [Obj.arr w00 3 kI64 1 l30, Obj.box b01 26 [C.im kI64 1 p2_0]]⟩) (fun k (l30, x31) => iter (fun z51 => Z3w p1 p2_0 z51.1 z51.2) k (l30, x31) = some o56) g57 (Ghost.both (ns := [0, 0]) rfl rfl) ?_
 rintro k ⟨l30, x31⟩ i60
 refine iter_succ' (show iter (fun z51 => Z3w p1 p2_0 z51.1 z51.2) k (l30, x31) = some o56 from i60) fun k59 y61 hlt_k59 h h62 => ?_
 replace h : Z3w p1 p2_0 l30 x31 = some y61 := h
 unfold Z3w at h
 refine zz ?_
 refine cnd h (fun hb32 h => ?_) fun hb32 h => ?_
 ·
  refine AW.ct hb32 rfl ?_
  refine AW.skip ?_
  refine AW.block ?_
  refine AW.seq ?_
  refine AW.region ?_
  refine Ops.v rfl (op_move rfl rfl) ?_
  refine Ops.v rfl (op_bin rfl rfl rfl rfl) ?_
  refine Ops.v rfl (op_assign rfl rfl) ?_
  refine Ops.v rfl (op_assign rfl rfl) ?_
  refine Ops.nil ?_
  refine AW.seq ?_
  refine AW.cut (τ := List Int × Int) (fun (l42, x43) => ⟨[(0, C.val w00), (1, C.int p1), (2, C.clo 171 [C.val (.pointer (some ⟨b01, 0, none⟩))]), (6, C.int x31), (7, C.int x43)], [Obj.arr w00 3 kI64 1 l42, Obj.box b01 26 [C.im kI64 1 p2_0]]⟩) (fun (l42, x43) => Z8i p1 p2_0 x31 l42 x43 = some y61) ?_ ?_
  ·
   refine zz ?_
   refine ob' h fun o63 g64 q65 => ?_
   refine AW.loop (τ := List Int × Int × Int) (x := (l30, 0, (IntKind.i64.wrap (2 * x31)))) (fun (l36, x37, x38) => ⟨[(0, C.val w00), (1, C.int p1), (2, C.clo 171 [C.val (.pointer (some ⟨b01, 0, none⟩))]), (6, C.int x31), (7, C.int x37), (8, C.int x38)], [Obj.arr w00 3 kI64 1 l36, Obj.box b01 26 [C.im kI64 1 p2_0]]⟩) (fun k (l36, x37, x38) => iter (fun z48 => Z3v p1 p2_0 x31 z48.1 z48.2.1 z48.2.2) k (l36, x37, x38) = some o63) g64 (Ghost.both (ns := [0, 0]) rfl rfl) ?_
   rintro k ⟨l36, x37, x38⟩ i67
   refine iter_succ' (show iter (fun z48 => Z3v p1 p2_0 x31 z48.1 z48.2.1 z48.2.2) k (l36, x37, x38) = some o63 from i67) fun k66 y68 hlt_k66 h h69 => ?_
   replace h : Z3v p1 p2_0 x31 l36 x37 x38 = some y68 := h
   unfold Z3v at h
   refine zz ?_
   refine cnd h (fun hb39 h => ?_) fun hb39 h => ?_
   ·
    refine AW.ct hb39 rfl ?_
    refine zz ?_
    refine ob' h fun r40 g41 h => ?_
    refine Ops.hd (ns := [0, 0]) rfl rfl (op_callE (Zc6 l36 x37 (IntKind.i64.wrap (x37 + x31)) x38 p2_0 _ g41) rfl rfl) ?_
    refine zz ?_
    obtain rfl := Option.some.inj h
    exact ⟨k66, (r40, x38, (IntKind.i64.wrap (x38 + (IntKind.i64.wrap (2 * x31))))), hlt_k66, h69, Ghost.both (ns := [0, 0]) rfl rfl⟩
   refine AW.cf hb39 rfl ?_
   refine AW.exit ?_
   obtain rfl := Option.some.inj h
   obtain rfl := Option.some.inj h69
   replace h := q65
   exact ⟨(l36, x37), h, Ghost.both (ns := [0, 0]) rfl rfl⟩
  rintro ⟨l42, x43⟩ h
  replace h : Z8i p1 p2_0 x31 l42 x43 = some y61 := h
  unfold Z8i at h
  refine AW.seq ?_
  refine AW.cut (τ := List Int) (fun l47 => ⟨[(0, C.val w00), (1, C.int p1), (2, C.clo 171 [C.val (.pointer (some ⟨b01, 0, none⟩))]), (6, C.int x31)], [Obj.arr w00 3 kI64 1 l47, Obj.box b01 26 [C.im kI64 1 p2_0]]⟩) (fun l47 => Z60 x31 l47 = some y61) ?_ ?_
  ·
   refine zz ?_
   refine cnd h (fun hb44 h => ?_) fun hb44 h => ?_
   ·
    refine AW.ct hb44 rfl ?_
    refine zz ?_
    refine ob' h fun r45 g46 h => ?_
    refine Ops.hd (ns := [0, 0]) rfl rfl (op_callE (Zc6 l42 x43 (IntKind.i64.wrap (x43 + x31)) p1 p2_0 _ g46) rfl rfl) ?_
    refine zz ?_
    exact ⟨r45, h, Ghost.both (ns := [0, 0]) rfl rfl⟩
   refine AW.cf hb44 rfl ?_
   refine zz ?_
   exact ⟨l42, h, Ghost.both (ns := [0, 0]) rfl rfl⟩
  intro l47 h
  replace h : Z60 x31 l47 = some y61 := h
  unfold Z60 at h
  refine zz ?_
  obtain rfl := Option.some.inj h
  exact ⟨k59, (l47, (IntKind.i64.wrap (x31 * 2))), hlt_k59, h62, Ghost.both (ns := [0, 0]) rfl rfl⟩
 refine AW.cf hb32 rfl ?_
 refine AW.exit ?_
 obtain rfl := Option.some.inj h
 obtain rfl := Option.some.inj h62
 replace h := q58
 rw [← Option.some.inj h]
 exact ⟨[], _, Ghost.refl _, .nil, [0, 0], _, _, rfl, ⟨rfl, rfl⟩⟩

def Z3s (p0 : List Int) (p1_0 : List Int) : Option (List Int) := (Zas p0 (p0.length : Int) p1_0).bind fun r1 => some r1
theorem Ze0 {w00 : Value} {b01 : Nat} (p0 : List Int) (p1_0 : List Int) (r : List Int) (h : Z3s p0 p1_0 = some r) : Ok Tryz.prog 170 [C.val w00, C.clo 171 [C.val (.pointer (some ⟨b01, 0, none⟩))]] [Obj.arr w00 3 kI64 1 p0, Obj.box b01 26 [C.im kI64 1 p1_0]] (fun c qs => c = C.tup [] ∧ qs = [Obj.arr w00 3 kI64 1 r, Obj.box b01 26 [C.im kI64 1 p1_0]]) := by
 refine Ok.of_body (rs := []) Tryz.func170 rfl rfl rfl rfl rfl fun X => ?_
 unfold Z3s at h
 refine zz ?_
 refine Ops.v rfl (op_len_arr (p := 0) sl_170.h rfl rfl rfl) ?_
 refine zz ?_
 refine ob' h fun r1 g2 h => ?_
 refine Ops.hd (ns := [0, 0]) rfl rfl (op_callE (Ze2 p0 (p0.length : Int) p1_0 _ g2) rfl rfl) ?_
 refine zz ?_
 rw [← Option.some.inj h]
 exact ⟨[], _, Ghost.refl _, .nil, [0, 0], _, _, rfl, ⟨rfl, rfl⟩⟩

def Z7c (l46 : List Int) : Option (List Int) := some l46
def Z1j (p0 : TGraph') (r21 : List Int) (l34 : List Int) (x35 : Int) : Option ((List Int × Int) ⊕ ((List Int))) := cond (decide (x35 < (r21.length : Int))) ((getI r21 x35).bind fun e37 => (getI p0.events e37).bind fun e39 => (chk (decide ((l34.length + [e39.id].length) * 8 ≤ 140737488355328))).bind fun u43 => some (.inl ((l34 ++ [e39.id]), (IntKind.i64.wrap (x35 + 1))))) (some (.inr l34))
def Z7d (p0 : TGraph') (r2 : List Int × Bool) (l20 : List Int) : Option (List Int) := (Z3s l20 r2.1).bind fun r21 => (iter (fun z48 => Z1j p0 r21 z48.1 z48.2) big (([] : List Int), 0)).bind fun y49 => Z7c y49
def Z1k (p0 : TGraph') (l12 : List Int) (x13 : Int) : Option ((List Int × Int) ⊕ ((List Int))) := cond (decide (x13 < (p0.events.length : Int))) ((chk (decide ((l12.length + [x13].length) * 8 ≤ 140737488355328))).bind fun u17 => some (.inl ((l12 ++ [x13]), (IntKind.i64.wrap (x13 + 1))))) (some (.inr l12))
def Z59 (p0 : TGraph') : Option (List Int) := (Z1h p0).bind fun r2 => (iter (fun z50 => Z1k p0 z50.1 z50.2) big (([] : List Int), 0)).bind fun y51 => Z7d p0 r2 y51
set_option maxHeartbeats 1000000 in
theorem Zb9 (p0 : TGraph') (r : List Int) (h : Z59 p0 = some r) : Ok Tryz.prog 119 [C.agg [C.int p0.room, C.im kEvent 9 p0.events, C.im kEvent 9 p0.parked]] [] (fun c qs => ∃ (v47 : Value), c = C.val v47 ∧ qs = [Obj.arr v47 2 kI64 1 r]) := by
 refine Ok.of_body (rs := [.tmp 2]) Tryz.func119 rfl rfl rfl rfl rfl fun X => ?_
 unfold Z59 at h
 refine zz ?_
 refine Ops.h (ns := []) rfl rfl (op_boxA rfl rfl) ?_
 rintro _ _ ⟨b1, rfl, rfl⟩
 refine zz ?_
 refine Ops.v rfl (op_loadA (p := 0) (ds := [C.int p0.room, C.im kEvent 9 p0.events, C.im kEvent 9 p0.parked]) ld_30.h rfl rfl rfl rfl rfl) ?_
 refine ob' h fun r2 g3 h => ?_
 refine Ops.hd (ns := []) rfl rfl (op_callE (Z84' _ _ g3) rfl rfl) ?_
 refine zz ?_
 iterate 2 refine Ops.v rfl (op_extract rfl rfl rfl) ?_
 refine Ops.h (ns := []) rfl rfl (op_alloc (cs := [C.val (.slice none 0 0)]) ze_26 (cells_zero rfl rfl) rfl) ?_
 rintro _ _ ⟨b4, rfl, rfl⟩
 refine Ops.hd (ns := [0]) rfl rfl (op_store (gs := [C.im kI64 1 r2.1]) ld_26.h rfl rfl One.im rfl rfl) ?_
 refine zz ?_
 refine Ops.h (ns := []) rfl rfl (op_buildSlice (k := kI64) (ys := ([] : List Int)) ar_170 .nil rfl rfl rfl) ?_
 rintro _ _ ⟨b5, rfl, rfl⟩
 refine Ops.v rfl (op_assign rfl rfl) ?_
 refine Ops.nil ?_
 refine AW.seq ?_
 refine AW.cut (τ := List Int × Value) (fun (l20, v19) => ⟨[(1, C.val (.pointer (some ⟨b1, 0, none⟩))), (3, C.val (.pointer (some ⟨b4, 0, none⟩))), (5, C.val v19)], [Obj.box b1 30 [C.int p0.room, C.im kEvent 9 p0.events, C.im kEvent 9 p0.parked], Obj.box b4 26 [C.im kI64 1 r2.1], Obj.arr v19 3 kI64 1 l20]⟩) (fun (l20, v19) => Z7d p0 r2 l20 = some r) ?_ ?_
 ·
  refine zz ?_
  refine ob' h fun o59 g60 q61 => ?_
  refine AW.loop (τ := List Int × Int × Value) (x := (([] : List Int), 0, (.slice (some ⟨b5, 0, none⟩) 0 0))) (fun (l12, x13, v11) => ⟨[(1, C.val (.pointer (some ⟨b1, 0, none⟩))), (3, C.val (.pointer (some ⟨b4, 0, none⟩))), (5, C.val v11), (18, C.int (p0.events.length : Int)), (19, C.int x13)], [Obj.box b1 30 [C.int p0.room, C.im kEvent 9 p0.events, C.im kEvent 9 p0.parked], Obj.box b4 26 [C.im kI64 1 r2.1], Obj.arr v11 3 kI64 1 l12]⟩) (fun k (l12, x13, v11) => iter (fun z50 => Z1k p0 z50.1 z50.2) k (l12, x13) = some o59) g60 (Ghost.both (ns := [2, 1, 0]) rfl rfl) ?_
  rintro k ⟨l12, x13, v11⟩ i63
  refine iter_succ' (show iter (fun z50 => Z1k p0 z50.1 z50.2) k (l12, x13) = some o59 from i63) fun k62 y64 hlt_k62 h h65 => ?_
  replace h : Z1k p0 l12 x13 = some y64 := h
  unfold Z1k at h
  refine zz ?_
  refine cnd h (fun hb14 h => ?_) fun hb14 h => ?_
  ·
   refine AW.ct hb14 rfl ?_
   refine zz ?_
   refine Ops.h (ns := []) rfl rfl (op_buildSlice (k := kI64) (ys := [x13]) ar_170 (.one rfl (One.val rfl) rfl rfl .nil) rfl rfl rfl) ?_
   rintro _ _ ⟨b15, rfl, rfl⟩
   refine ob' h fun u17 c16 h => ?_
   refine Ops.h (ns := [3, 0]) rfl rfl (op_append ar_170 rfl rfl (of_decide_eq_true (chk_some c16)) (app63 (by decide) c16) rfl) ?_
   rintro _ _ ⟨v18, rfl, rfl⟩
   refine zz ?_
   obtain rfl := Option.some.inj h
   exact ⟨k62, ((l12 ++ [x13]), (IntKind.i64.wrap (x13 + 1)), v18), hlt_k62, h65, Ghost.both (ns := [1, 1, 0]) rfl rfl⟩
  refine AW.cf hb14 rfl ?_
  refine AW.exit ?_
  obtain rfl := Option.some.inj h
  obtain rfl := Option.some.inj h65
  replace h := q61
  exact ⟨(l12, v11), h, Ghost.both (ns := [0, 0, 0]) rfl rfl⟩
 rintro ⟨l20, v19⟩ h
 replace h : Z7d p0 r2 l20 = some r := h
 unfold Z7d at h
 refine zz ?_
 refine Ops.v rfl (op_makeFunc rfl rfl) ?_
 refine ob' h fun r21 g22 h => ?_
 refine Ops.hd (ns := [2, 1]) rfl rfl (op_callE (Ze0 l20 r2.1 _ g22) rfl rfl) ?_
 refine zz ?_
 refine Ops.h (ns := []) rfl rfl (op_buildSlice (k := kI64) (ys := ([] : List Int)) ar_26 .nil rfl rfl rfl) ?_
 rintro _ _ ⟨b23, rfl, rfl⟩
 refine Ops.v rfl (op_assign rfl rfl) ?_
 refine Ops.nil ?_
 refine AW.seq ?_
 refine AW.cut (τ := List Int × Value) (fun (l46, v45) => ⟨[(7, C.val v45)], [Obj.arr v45 2 kI64 1 l46]⟩) (fun (l46, v45) => Z7c l46 = some r) ?_ ?_
 ·
  refine zz ?_
  refine Ops.v rfl (op_len_arr (p := 1) sl_170.h rfl rfl rfl) ?_
  refine zz ?_
  refine ob' h fun o52 g53 q54 => ?_
  refine AW.loop (τ := List Int × Int × Value) (x := (([] : List Int), 0, (.slice (some ⟨b23, 0, none⟩) 0 0))) (fun (l34, x35, v33) => ⟨[(1, C.val (.pointer (some ⟨b1, 0, none⟩))), (7, C.val v33), (31, C.val v19), (32, C.int (r21.length : Int)), (33, C.int x35)], [Obj.box b1 30 [C.int p0.room, C.im kEvent 9 p0.events, C.im kEvent 9 p0.parked], Obj.arr v33 2 kI64 1 l34, Obj.arr v19 3 kI64 1 r21]⟩) (fun k (l34, x35, v33) => iter (fun z48 => Z1j p0 r21 z48.1 z48.2) k (l34, x35) = some o52) g53 (Ghost.both (ns := [3, 0, 0]) rfl rfl) ?_
  rintro k ⟨l34, x35, v33⟩ i56
  refine iter_succ' (show iter (fun z48 => Z1j p0 r21 z48.1 z48.2) k (l34, x35) = some o52 from i56) fun k55 y57 hlt_k55 h h58 => ?_
  replace h : Z1j p0 r21 l34 x35 = some y57 := h
  unfold Z1j at h
  refine zz ?_
  refine cnd h (fun hb36 h => ?_) fun hb36 h => ?_
  ·
   refine AW.ct hb36 rfl ?_
   refine zz ?_
   refine ob' h fun e37 g38 h => ?_
   refine Ops.v rfl (op_indexAddr_arr (p := 2) sl_170.h rfl rfl rfl g38 rfl) ?_
   refine Ops.v rfl (op_load_arr (p := 2) ld_3.h rfl rfl (getI_lt g38).2.2 rfl rfl) ?_
   refine zz ?_
   refine ob' h fun e39 g40 h => ?_
   refine Ops.v rfl (op_indexAddr_im sl_28.h rfl rfl g40 rfl) ?_
   refine Ops.v rfl (op_fieldAddr_ip fo_38_0.h rfl rfl rfl) ?_
   refine Ops.v rfl (op_load_ip ld_2.h rfl rfl) ?_
   refine Ops.h (ns := []) rfl rfl (op_buildSlice (k := kI64) (ys := [e39.id]) ar_26 (.one rfl (One.val rfl) rfl rfl .nil) rfl rfl rfl) ?_
   rintro _ _ ⟨b41, rfl, rfl⟩
   refine ob' h fun u43 c42 h => ?_
   refine Ops.h (ns := [2, 0]) rfl rfl (op_append ar_26 rfl rfl (of_decide_eq_true (chk_some c42)) (app63 (by decide) c42) rfl) ?_
   rintro _ _ ⟨v44, rfl, rfl⟩
   refine zz ?_
   obtain rfl := Option.some.inj h
   exact ⟨k55, ((l34 ++ [e39.id]), (IntKind.i64.wrap (x35 + 1)), v44), hlt_k55, h58, Ghost.both (ns := [1, 0, 0]) rfl rfl⟩
  refine AW.cf hb36 rfl ?_
  refine AW.exit ?_
  obtain rfl := Option.some.inj h
  obtain rfl := Option.some.inj h58
  replace h := q54
  exact ⟨(l34, v33), h, Ghost.both (ns := [1]) rfl rfl⟩
 rintro ⟨l46, v45⟩ h
 replace h : Z7c l46 = some r := h
 unfold Z7c at h
 refine zz ?_
 refine AW.ret ?_
 rw [← Option.some.inj h]
 exact ⟨[C.val v45], _, Ghost.refl _, (.cons (.tmp rfl) .nil), [0], _, _, rfl, ⟨v45, rfl, rfl⟩⟩
theorem Zb9' (p0 : TGraph') (r : List Int) (h : Z59 p0 = some r) : Ok Tryz.prog 119 [C.agg [C.int p0.room, C.im kEvent 9 p0.events, C.im kEvent 9 p0.parked]] [] (fun c qs => c = C.im kI64 1 r ∧ qs = []) :=
  Ok.freeze (Zb9 p0 r h) (by rintro c qs ⟨v47, rfl, rfl⟩; exact Frz.arr)

def Zf (p0 : TGraph') (p1 : Int) : Option (TEvent × Bool) := (Z3b p0.events p1).bind fun r3 => cond r3.2 ((getI p0.events r3.1).bind fun e6 => some (e6, true)) (some ((TEvent.mk 0 0 0 0 0 0 ByteArray.empty [] 0), false))
theorem Z3n (p0 : TGraph') (p1 : Int) (r : TEvent × Bool) (h : Zf p0 p1 = some r) : Ok Tryz.prog 68 [C.agg [C.int p0.room, C.im kEvent 9 p0.events, C.im kEvent 9 p0.parked], C.int p1] [] (fun c qs => c = C.tup [C.agg [C.int r.1.id, C.int r.1.room, C.int r.1.author, C.int r.1.kind, C.int r.1.key, C.int r.1.n, C.str r.1.text, C.im kI64 1 r.1.prev, C.int r.1.time], C.bool r.2] ∧ qs = []) := by
 refine Ok.of_body (rs := [.cell 4 38, .tmp 5]) Tryz.func68 rfl rfl rfl rfl rfl fun X => ?_
 unfold Zf at h
 refine zz ?_
 refine Ops.h (ns := []) rfl rfl (op_boxA rfl rfl) ?_
 rintro _ _ ⟨b1, rfl, rfl⟩
 refine Ops.h (ns := []) rfl rfl (op_alloc (cs := [C.int 0, C.int 0, C.int 0, C.int 0, C.int 0, C.int 0, C.str ByteArray.empty, C.val (.slice none 0 0), C.int 0]) ze_38 (cells_zero rfl rfl) rfl) ?_
 rintro _ _ ⟨b2, rfl, rfl⟩
 refine zz ?_
 refine ob' h fun r3 g4 h => ?_
 refine Ops.hd (ns := []) rfl rfl (op_callE (Zba _ _ _ g4) rfl rfl) ?_
 refine zz ?_
 iterate 2 refine Ops.v rfl (op_extract rfl rfl rfl) ?_
 refine zz ?_
 refine cnd h (fun hb5 h => ?_) fun hb5 h => ?_
 ·
  refine AW.cond rfl (fun hn => absurd ((not_t hb5).symm.trans hn) (by decide)) (fun _ => ?_)
  refine zz ?_
  refine ob' h fun e6 g7 h => ?_
  refine Ops.v rfl (op_indexAddr_im sl_28.h rfl rfl g7 rfl) ?_
  refine Ops.v rfl (op_load_ipA ld_38.h rfl rfl rfl rfl) ?_
  refine Ops.hd (ns := [0]) rfl rfl (op_storeA (gs := [C.int e6.id, C.int e6.room, C.int e6.author, C.int e6.kind, C.int e6.key, C.int e6.n, C.str e6.text, C.im kI64 1 e6.prev, C.int e6.time]) ld_38.h rfl rfl rfl rfl rfl) ?_
  refine zz ?_
  refine AW.ret ?_
  rw [← Option.some.inj h]
  exact ⟨[C.agg [C.int e6.id, C.int e6.room, C.int e6.author, C.int e6.kind, C.int e6.key, C.int e6.n, C.str e6.text, C.im kI64 1 e6.prev, C.int e6.time], C.bool true], _, Ghost.refl _, (.cons (.cell (p := 0) rfl rfl ld_38.h rfl) (.cons (.tmp rfl) .nil)), [], _, _, rfl, ⟨rfl, rfl⟩⟩
 refine AW.cond rfl (fun _ => ?_) (fun hn => absurd ((not_f hb5).symm.trans hn) (by decide))
 refine zz ?_
 refine Ops.v rfl (op_build (ds := [C.int 0, C.int 0, C.int 0, C.int 0, C.int 0, C.int 0, C.str ByteArray.empty, C.val (.slice none 0 0), C.int 0]) pl_38 ze_38 (cells_zero rfl rfl) .nil rfl) ?_
 refine Ops.hd (ns := [0]) rfl rfl (op_storeA (gs := [C.int 0, C.int 0, C.int 0, C.int 0, C.int 0, C.int 0, C.str ByteArray.empty, C.val (.slice none 0 0), C.int 0]) ld_38.h rfl rfl rfl rfl rfl) ?_
 refine zz ?_
 refine AW.ret ?_
 rw [← Option.some.inj h]
 exact ⟨[C.agg [C.int 0, C.int 0, C.int 0, C.int 0, C.int 0, C.int 0, C.str ByteArray.empty, C.im kI64 1 [], C.int 0], C.bool false], _, Ghost.boxFrz (ns := [0]) rfl (FrzL.cons (os := []) (Frz.same _) (FrzL.cons (os := []) (Frz.same _) (FrzL.cons (os := []) (Frz.same _) (FrzL.cons (os := []) (Frz.same _) (FrzL.cons (os := []) (Frz.same _) (FrzL.cons (os := []) (Frz.same _) (FrzL.cons (os := []) (Frz.same _) (FrzL.cons (os := []) (Frz.imp (Imp.nil kI64 1)) (FrzL.cons (os := []) (Frz.same _) FrzL.nil))))))))), (.cons (.cell (p := 0) rfl rfl ld_38.h rfl) (.cons (.tmp rfl) .nil)), [], _, _, rfl, ⟨rfl, rfl⟩⟩

def Z9w (l20 : List (List TEntry)) : Option (List (List TEntry)) := some l20
def Zd (p0 : THistory) (p1 : List Int) (l10 : List (List TEntry)) (x11 : Int) : Option ((List (List TEntry) × Int) ⊕ ((List (List TEntry)))) := cond (decide (x11 < (p1.length : Int))) ((getI p1 x11).bind fun e13 => (chk (decide ((l10.length + [(Option.getD (mget p0.after e13) ([] : List TEntry))].length) * 24 ≤ 140737488355328))).bind fun u17 => some (.inl ((l10 ++ [(Option.getD (mget p0.after e13) ([] : List TEntry))]), (IntKind.i64.wrap (x11 + 1))))) (some (.inr l10))
def Z1s (p0 : THistory) (p1 : List Int) : Option (List (List TEntry)) := (iter (fun z22 => Zd p0 p1 z22.1 z22.2) big (([] : List (List TEntry)), 0)).bind fun y23 => Z9w y23
theorem Zbv {b00 : Nat} {b01 : Nat} {b02 : Nat} {b03 : Nat} {b04 : Nat} (p0 : THistory) (p1 : List Int) (r : List (List TEntry)) (h : Z1s p0 p1 = some r) : Ok Tryz.prog 126 [C.val (.pointer (some ⟨b00, 0, none⟩)), C.im kI64 1 p1] [Obj.box b00 84 [C.int p0.graph.room, C.im kEvent 9 p0.graph.events, C.im kEvent 9 p0.graph.parked, C.val (.map (some b01)), C.val (.map (some b02)), C.val (.map (some b03)), C.val (.map (some b04))], Abs.Obj.map b01 .i64 mcI64 p0.depth, Abs.Obj.map b02 .i64 mcEntryS p0.before, Abs.Obj.map b03 .i64 mcEntryS p0.after, Abs.Obj.map b04 .i64 mcI64 p0.refused] (fun c qs => ∃ (v21 : Value), c = C.val v21 ∧ qs = [Obj.arr v21 49 kEntryS 1 r, Obj.box b00 84 [C.int p0.graph.room, C.im kEvent 9 p0.graph.events, C.im kEvent 9 p0.graph.parked, C.val (.map (some b01)), C.val (.map (some b02)), C.val (.map (some b03)), C.val (.map (some b04))], Abs.Obj.map b01 .i64 mcI64 p0.depth, Abs.Obj.map b02 .i64 mcEntryS p0.before, Abs.Obj.map b03 .i64 mcEntryS p0.after, Abs.Obj.map b04 .i64 mcI64 p0.refused]) := by
 refine Ok.of_body (rs := [.tmp 4]) Tryz.func126 rfl rfl rfl rfl rfl fun X => ?_
 unfold Z1s at h
 refine zz ?_
 refine Ops.h (ns := []) rfl rfl (op_buildSlice (k := kEntryS) (ys := ([] : List (List TEntry))) ar_46 .nil rfl rfl rfl) ?_
 rintro _ _ ⟨b1, rfl, rfl⟩
 refine Ops.v rfl (op_assign rfl rfl) ?_
 refine Ops.nil ?_
 refine AW.seq ?_
 refine AW.cut (τ := List (List TEntry) × Value) (fun (l20, v19) => ⟨[(5, C.val v19)], [Obj.arr v19 49 kEntryS 1 l20, Obj.box b00 84 [C.int p0.graph.room, C.im kEvent 9 p0.graph.events, C.im kEvent 9 p0.graph.parked, C.val (.map (some b01)), C.val (.map (some b02)), C.val (.map (some b03)), C.val (.map (some b04))], Abs.Obj.map b01 .i64 mcI64 p0.depth, Abs.Obj.map b02 .i64 mcEntryS p0.before, Abs.Obj.map b03 .i64 mcEntryS p0.after, Abs.Obj.map b04 .i64 mcI64 p0.refused]⟩) (fun (l20, v19) => Z9w l20 = some r) ?_ ?_
 ·
  refine zz ?_
  refine ob' h fun o24 g25 q26 => ?_
  refine AW.loop (τ := List (List TEntry) × Int × Value) (x := (([] : List (List TEntry)), 0, (.slice (some ⟨b1, 0, none⟩) 0 0))) (fun (l10, x11, v9) => ⟨[(0, C.val (.pointer (some ⟨b00, 0, none⟩))), (5, C.val v9), (9, C.im kI64 1 p1), (10, C.int (p1.length : Int)), (11, C.int x11)], [Obj.box b00 84 [C.int p0.graph.room, C.im kEvent 9 p0.graph.events, C.im kEvent 9 p0.graph.parked, C.val (.map (some b01)), C.val (.map (some b02)), C.val (.map (some b03)), C.val (.map (some b04))], Abs.Obj.map b01 .i64 mcI64 p0.depth, Abs.Obj.map b02 .i64 mcEntryS p0.before, Abs.Obj.map b03 .i64 mcEntryS p0.after, Abs.Obj.map b04 .i64 mcI64 p0.refused, Obj.arr v9 49 kEntryS 1 l10]⟩) (fun k (l10, x11, v9) => iter (fun z22 => Zd p0 p1 z22.1 z22.2) k (l10, x11) = some o24) g25 (Ghost.both (ns := [1, 1, 1, 1, 1, 0]) rfl rfl) ?_
  rintro k ⟨l10, x11, v9⟩ i28
  refine iter_succ' (show iter (fun z22 => Zd p0 p1 z22.1 z22.2) k (l10, x11) = some o24 from i28) fun k27 y29 hlt_k27 h h30 => ?_
  replace h : Zd p0 p1 l10 x11 = some y29 := h
  unfold Zd at h
  refine zz ?_
  refine cnd h (fun hb12 h => ?_) fun hb12 h => ?_
  ·
   refine AW.ct hb12 rfl ?_
   refine zz ?_
   refine ob' h fun e13 g14 h => ?_
   refine Ops.v rfl (op_indexAddr_im sl_26.h rfl rfl g14 rfl) ?_
   refine Ops.v rfl (op_load_ip ld_2.h rfl rfl) ?_
   refine zz ?_
   refine Ops.v rfl (op_nilCheck rfl rfl) ?_
   refine zz ?_
   refine Ops.v rfl (op_lookup (p := 3) (kc := mcEntryS) (z0 := ([] : List TEntry)) mi_82 zv_49 (fun w F => Imp.nil kEntry 3 w F _ rfl) rfl rfl rfl rfl) ?_
   refine Ops.h (ns := []) rfl rfl (op_buildSlice (k := kEntryS) (ys := [(Option.getD (mget p0.after e13) ([] : List TEntry))]) ar_46 (.one rfl One.im rfl rfl .nil) rfl rfl rfl) ?_
   rintro _ _ ⟨b15, rfl, rfl⟩
   refine ob' h fun u17 c16 h => ?_
   refine Ops.h (ns := [6, 0]) rfl rfl (op_append ar_46 rfl rfl (of_decide_eq_true (chk_some c16)) (app63 (by decide) c16) rfl) ?_
   rintro _ _ ⟨v18, rfl, rfl⟩
   refine zz ?_
   obtain rfl := Option.some.inj h
   exact ⟨k27, ((l10 ++ [(Option.getD (mget p0.after e13) ([] : List TEntry))]), (IntKind.i64.wrap (x11 + 1)), v18), hlt_k27, h30, Ghost.both (ns := [1, 1, 1, 1, 1, 0]) rfl rfl⟩
  refine AW.cf hb12 rfl ?_
  refine AW.exit ?_
  obtain rfl := Option.some.inj h
  obtain rfl := Option.some.inj h30
  replace h := q26
  exact ⟨(l10, v9), h, Ghost.both (ns := [5, 0, 0, 0, 0, 0]) rfl rfl⟩
 rintro ⟨l20, v19⟩ h
 replace h : Z9w l20 = some r := h
 unfold Z9w at h
 refine zz ?_
 refine AW.ret ?_
 rw [← Option.some.inj h]
 exact ⟨[C.val v19], _, Ghost.refl _, (.cons (.tmp rfl) .nil), [0, 0, 0, 0, 0, 0], _, _, rfl, ⟨v19, rfl, rfl⟩⟩

def Zap : Option Int := some (-1)
def Z22 (p0 : List TEntry) (p1 : TEntry) (x6 : Int) : Option (Int ⊕ (Int ⊕ Unit)) := cond (decide (x6 < (p0.length : Int))) ((getI p0 x6).bind fun e8 => cond ((p1.kind == e8.kind) && ((p1.key == e8.key) && ((p1.id == e8.id) && true))) (some (.inr (.inl x6))) (some (.inl (IntKind.i64.wrap (x6 + 1))))) (some (.inr (.inr ())))
def Zao (p0 : List TEntry) (p1 : TEntry) : Option Int := (iter (Z22 p0 p1) big 0).bind (fun z12 => match z12 with | .inl y11 => some y11 | .inr () => Zap)
theorem Zdx (p0 : List TEntry) (p1 : TEntry) (r : Int) (h : Zao p0 p1 = some r) : Ok Tryz.prog 181 [C.im kEntry 3 p0, C.agg [C.int p1.kind, C.int p1.key, C.int p1.id]] [] (fun c qs => c = C.int r ∧ qs = []) := by
 refine Ok.of_body (rs := [.tmp 4]) Tryz.func181 rfl rfl rfl rfl rfl fun X => ?_
 unfold Zao at h
 refine zz ?_
 refine Ops.h (ns := []) rfl rfl (op_boxA rfl rfl) ?_
 rintro _ _ ⟨b1, rfl, rfl⟩
 refine Ops.v rfl (op_assign rfl rfl) ?_
 refine Ops.nil ?_
 refine AW.seq ?_
 refine AW.cut (τ := Unit) (fun (_ : Unit) => ⟨[], []⟩) (fun (_ : Unit) => Zap = some r) ?_ ?_
 ·
  refine zz ?_
  refine ob' h fun o13 g14 q15 => ?_
  refine AW.loop (τ := Int) (x := 0) (fun x6 => ⟨[(0, C.im kEntry 3 p0), (3, C.val (.pointer (some ⟨b1, 0, none⟩))), (7, C.int (p0.length : Int)), (8, C.int x6)], [Obj.box b1 99 [C.int p1.kind, C.int p1.key, C.int p1.id]]⟩) (fun k x6 => iter (Z22 p0 p1) k x6 = some o13) g14 (Ghost.both (ns := [0]) rfl rfl) ?_
  intro k x6 i17
  refine iter_succ' (show iter (Z22 p0 p1) k x6 = some o13 from i17) fun k16 y18 hlt_k16 h h19 => ?_
  replace h : Z22 p0 p1 x6 = some y18 := h
  unfold Z22 at h
  refine zz ?_
  refine cnd h (fun hb7 h => ?_) fun hb7 h => ?_
  ·
   refine AW.ct hb7 rfl ?_
   refine zz ?_
   refine AW.regionD (L := [0, 4]) (Lt := []) (k := .light 0 true (.light 1 false (.light 2 false (.light 3 false (.light 4 true (.light 5 false .done)))))) (ns := [0]) (by kernel_rfl) (by kernel_rfl) (by kernel_rfl) (by kernel_rfl) rfl ?_
   refine OpsD.v rfl rfl (op_loadA (p := 0) (ds := [C.int p1.kind, C.int p1.key, C.int p1.id]) ld_99.h rfl rfl rfl rfl rfl) ?_
   refine zz ?_
   refine ob' h fun e8 g9 h => ?_
   refine OpsD.v rfl rfl (op_indexAddr_im sl_49.h rfl rfl g9 rfl) ?_
   refine OpsD.v rfl rfl (op_load_ipA ld_99.h rfl rfl rfl rfl) ?_
   refine OpsD.v rfl rfl (op_eqlA [.int .i64 p1.kind, .int .i64 p1.key, .int .i64 p1.id] [.int .i64 e8.kind, .int .i64 e8.key, .int .i64 e8.id] eq_99 rfl rfl rfl rfl rfl rfl) ?_
   refine zz ?_
   refine cnd h (fun hb10 h => ?_) fun hb10 h => ?_
   ·
    refine AW.ct hb10 rfl ?_
    refine zz ?_
    refine AW.ret ?_
    obtain rfl := Option.some.inj h
    obtain rfl := Option.some.inj h19
    replace h := q15
    rw [← Option.some.inj h]
    exact ⟨[C.int x6], _, Ghost.refl _, (.cons (.tmp rfl) .nil), [], _, _, rfl, ⟨rfl, rfl⟩⟩
   refine AW.cf hb10 rfl ?_
   refine zz ?_
   obtain rfl := Option.some.inj h
   exact ⟨k16, (IntKind.i64.wrap (x6 + 1)), hlt_k16, h19, Ghost.both (ns := [0]) rfl rfl⟩
  refine AW.cf hb7 rfl ?_
  refine AW.exit ?_
  obtain rfl := Option.some.inj h
  obtain rfl := Option.some.inj h19
  replace h := q15
  exact ⟨(), h, Ghost.both (ns := []) rfl rfl⟩
 rintro ⟨⟩ h
 replace h : Zap = some r := h
 unfold Zap at h
 refine zz ?_
 refine AW.ret ?_
 rw [← Option.some.inj h]
 exact ⟨[C.int (-1)], _, Ghost.refl _, (.cons (.tmp rfl) .nil), [], _, _, rfl, ⟨rfl, rfl⟩⟩

def Z8f (p0 : List TEntry) (p1 : TEntry) : Option Bool := (Zao p0 p1).bind fun r2 => some (decide (r2 ≥ 0))
theorem Zdp (p0 : List TEntry) (p1 : TEntry) (r : Bool) (h : Z8f p0 p1 = some r) : Ok Tryz.prog 136 [C.im kEntry 3 p0, C.agg [C.int p1.kind, C.int p1.key, C.int p1.id]] [] (fun c qs => c = C.bool r ∧ qs = []) := by
 refine Ok.of_body (rs := [.tmp 4]) Tryz.func136 rfl rfl rfl rfl rfl fun X => ?_
 unfold Z8f at h
 refine zz ?_
 refine Ops.h (ns := []) rfl rfl (op_boxA rfl rfl) ?_
 rintro _ _ ⟨b1, rfl, rfl⟩
 refine zz ?_
 refine Ops.v rfl (op_loadA (p := 0) (ds := [C.int p1.kind, C.int p1.key, C.int p1.id]) ld_99.h rfl rfl rfl rfl rfl) ?_
 refine ob' h fun r2 g3 h => ?_
 refine Ops.hd (ns := []) rfl rfl (op_callE (Zdx _ _ _ g3) rfl rfl) ?_
 refine zz ?_
 refine AW.ret ?_
 rw [← Option.some.inj h]
 exact ⟨[C.bool (decide (r2 ≥ 0))], _, Ghost.refl _, (.cons (.tmp rfl) .nil), [], _, _, rfl, ⟨rfl, rfl⟩⟩

def Zk (x6 : Bool) : Option Bool := some x6
def Z31 (p0 : TEvent) : Option Bool := cond (p0.kind == 1) (Zk true) (cond (p0.kind == 3) (Zk true) (cond (p0.kind == 5) (Zk true) (cond (p0.kind == 2) (Zk (p0.key != p0.author)) (Zk false))))
theorem Zb7 (p0 : TEvent) (r : Bool) (h : Z31 p0 = some r) : Ok Tryz.prog 139 [C.agg [C.int p0.id, C.int p0.room, C.int p0.author, C.int p0.kind, C.int p0.key, C.int p0.n, C.str p0.text, C.im kI64 1 p0.prev, C.int p0.time]] [] (fun c qs => c = C.bool r ∧ qs = []) := by
 refine Ok.of_body (rs := [.tmp 2]) Tryz.func139 rfl rfl rfl rfl rfl fun X => ?_
 unfold Z31 at h
 refine zz ?_
 refine Ops.h (ns := []) rfl rfl (op_boxA rfl rfl) ?_
 rintro _ _ ⟨b1, rfl, rfl⟩
 refine Ops.v rfl (op_assign rfl rfl) ?_
 refine Ops.nil ?_
 refine AW.seq ?_
 refine AW.cut (τ := Bool) (fun x6 => ⟨[(2, C.bool x6)], []⟩) (fun x6 => Zk x6 = some r) ?_ ?_
 ·
  refine zz ?_
  refine cnd h (fun hb2 h => ?_) fun hb2 h => ?_
  ·
   refine zz ?_
   exact ⟨true, h, Ghost.both (ns := []) rfl rfl⟩
  refine zz ?_
  refine cnd h (fun hb3 h => ?_) fun hb3 h => ?_
  ·
   refine zz ?_
   exact ⟨true, h, Ghost.both (ns := []) rfl rfl⟩
  refine zz ?_
  refine cnd h (fun hb4 h => ?_) fun hb4 h => ?_
  ·
   refine zz ?_
   exact ⟨true, h, Ghost.both (ns := []) rfl rfl⟩
  refine zz ?_
  refine cnd h (fun hb5 h => ?_) fun hb5 h => ?_
  ·
   refine zz ?_
   exact ⟨(p0.key != p0.author), h, Ghost.both (ns := []) rfl rfl⟩
  refine zz ?_
  exact ⟨false, h, Ghost.both (ns := []) rfl rfl⟩
 intro x6 h
 replace h : Zk x6 = some r := h
 unfold Zk at h
 refine AW.ret ?_
 rw [← Option.some.inj h]
 exact ⟨[C.bool x6], _, Ghost.refl _, (.cons (.tmp rfl) .nil), [], _, _, rfl, ⟨rfl, rfl⟩⟩

def Z9l : Option Int := some 0
def Z1b (p0 : List Int) (x5 : Int) : Option (Int ⊕ (Int ⊕ Unit)) := cond (decide (x5 < (p0.length : Int))) ((getI p0 x5).bind fun e7 => cond (e7 != 0) (some (.inr (.inl e7))) (some (.inl (IntKind.i64.wrap (x5 + 1))))) (some (.inr (.inr ())))
def Z4q (p0 : List Int) : Option Int := (iter (Z1b p0) big 0).bind (fun z11 => match z11 with | .inl y10 => some y10 | .inr () => Z9l)
theorem Zbk (p0 : List Int) (r : Int) (h : Z4q p0 = some r) : Ok Tryz.prog 140 [C.im kI64 1 p0] [] (fun c qs => c = C.int r ∧ qs = []) := by
 refine Ok.of_body (rs := [.tmp 2]) Tryz.func140 rfl rfl rfl rfl rfl fun X => ?_
 unfold Z4q at h
 refine AW.seq ?_
 refine AW.region ?_
 refine Ops.v rfl (op_assign rfl rfl) ?_
 refine Ops.nil ?_
 refine AW.seq ?_
 refine AW.region ?_
 refine Ops.v rfl (op_assign rfl rfl) ?_
 refine Ops.nil ?_
 refine AW.seq ?_
 refine AW.cut (τ := Unit) (fun (_ : Unit) => ⟨[(3, C.int 0)], []⟩) (fun (_ : Unit) => Z9l = some r) ?_ ?_
 ·
  refine zz ?_
  refine ob' h fun o12 g13 q14 => ?_
  refine AW.loop (τ := Int) (x := 0) (fun x5 => ⟨[(3, C.int 0), (6, C.im kI64 1 p0), (7, C.int (p0.length : Int)), (8, C.int x5)], []⟩) (fun k x5 => iter (Z1b p0) k x5 = some o12) g13 (Ghost.both (ns := []) rfl rfl) ?_
  intro k x5 i16
  refine iter_succ' (show iter (Z1b p0) k x5 = some o12 from i16) fun k15 y17 hlt_k15 h h18 => ?_
  replace h : Z1b p0 x5 = some y17 := h
  unfold Z1b at h
  refine zz ?_
  refine cnd h (fun hb6 h => ?_) fun hb6 h => ?_
  ·
   refine AW.ct hb6 rfl ?_
   refine zz ?_
   refine ob' h fun e7 g8 h => ?_
   refine Ops.v rfl (op_indexAddr_im sl_170.h rfl rfl g8 rfl) ?_
   refine Ops.v rfl (op_load_ip ld_3.h rfl rfl) ?_
   refine zz ?_
   refine cnd h (fun hb9 h => ?_) fun hb9 h => ?_
   ·
    refine AW.ct hb9 rfl ?_
    refine zz ?_
    refine AW.ret ?_
    obtain rfl := Option.some.inj h
    obtain rfl := Option.some.inj h18
    replace h := q14
    rw [← Option.some.inj h]
    exact ⟨[C.int e7], _, Ghost.refl _, (.cons (.tmp rfl) .nil), [], _, _, rfl, ⟨rfl, rfl⟩⟩
   refine AW.cf hb9 rfl ?_
   refine zz ?_
   obtain rfl := Option.some.inj h
   exact ⟨k15, (IntKind.i64.wrap (x5 + 1)), hlt_k15, h18, Ghost.both (ns := []) rfl rfl⟩
  refine AW.cf hb6 rfl ?_
  refine AW.exit ?_
  obtain rfl := Option.some.inj h
  obtain rfl := Option.some.inj h18
  replace h := q14
  exact ⟨(), h, Ghost.both (ns := []) rfl rfl⟩
 rintro ⟨⟩ h
 replace h : Z9l = some r := h
 unfold Z9l at h
 refine zz ?_
 refine AW.ret ?_
 rw [← Option.some.inj h]
 exact ⟨[C.int 0], _, Ghost.refl _, (.cons (.tmp rfl) .nil), [], _, _, rfl, ⟨rfl, rfl⟩⟩

def Z4r (p0 : TEntry) (p1 : TEntry) : Option Int := (Zb p0.kind p1.kind).bind fun r3 => (Zb p0.key p1.key).bind fun r5 => (Z4q [r3, r5]).bind fun r8 => some r8
theorem Zbm (p0 : TEntry) (p1 : TEntry) (r : Int) (h : Z4r p0 p1 = some r) : Ok Tryz.prog 176 [C.agg [C.int p0.kind, C.int p0.key, C.int p0.id], C.agg [C.int p1.kind, C.int p1.key, C.int p1.id]] [] (fun c qs => c = C.int r ∧ qs = []) := by
 refine Ok.of_body (rs := [.tmp 4]) Tryz.func176 rfl rfl rfl rfl rfl fun X => ?_
 unfold Z4r at h
 refine zz ?_
 refine Ops.h (ns := []) rfl rfl (op_boxA rfl rfl) ?_
 rintro _ _ ⟨b1, rfl, rfl⟩
 refine Ops.h (ns := []) rfl rfl (op_boxA rfl rfl) ?_
 rintro _ _ ⟨b2, rfl, rfl⟩
 refine zz ?_
 refine AW.regionD (L := [1, 3, 6, 8]) (Lt := []) (k := .light 0 false (.light 1 true (.light 2 false (.light 3 true (.light 5 false (.light 6 true (.light 7 false (.light 8 true (.one 4 (.one 9 (.one 10 (.one 11 (.light 12 false .done))))))))))))) (ns := [0, 0]) (by kernel_rfl) (by kernel_rfl) (by kernel_rfl) (by kernel_rfl) rfl ?_
 refine zz ?_
 refine ob' h fun r3 g4 h => ?_
 refine StepD.h (ns := []) rfl rfl rfl (op_callE (Z3m _ _ _ g4) rfl rfl) ?_
 rintro _ _ ⟨rfl, rfl⟩
 refine zz ?_
 refine ob' h fun r5 g6 h => ?_
 refine StepD.h (ns := []) rfl rfl rfl (op_callE (Z3m _ _ _ g6) rfl rfl) ?_
 rintro _ _ ⟨rfl, rfl⟩
 refine OpsD.one ?_
 refine StepD.h (ns := []) rfl rfl rfl (op_buildSlice (k := kI64) (ys := [r3, r5]) ar_170 (.one rfl (One.val rfl) rfl rfl (.one rfl (One.val rfl) rfl rfl .nil)) rfl rfl rfl) ?_
 rintro _ _ ⟨b7, rfl, rfl⟩
 refine zz ?_
 refine ob' h fun r8 g9 h => ?_
 refine StepD.h (ns := [0]) rfl rfl rfl (op_callE (Ok.lendE (Zbk [r3, r5] _ g9) (FrzT.cons (os := [_]) Frz.arr (FrzT.nil)) (PlainC.val _)) rfl rfl) ?_
 rintro _ _ ⟨rfl, rfl⟩
 refine zz ?_
 refine AW.ret ?_
 rw [← Option.some.inj h]
 exact ⟨[C.int r8], _, Ghost.refl _, (.cons (.tmp rfl) .nil), [], _, _, rfl, ⟨rfl, rfl⟩⟩

def Z5r (x16 : Int) (x22 : Bool) : Option (Int × Bool) := some (x16, x22)
def Z89 (p0 : List TEntry) (p1 : TEntry) (x16 : Int) : Option (Int × Bool) := cond (decide (x16 < (p0.length : Int))) ((getI p0 x16).bind fun e18 => (Z4r e18 p1).bind fun r20 => Z5r x16 (r20 == 0)) (Z5r x16 false)
def Z3o (p0 : List TEntry) (p1 : TEntry) (x8 : Int) (x9 : Int) : Option ((Int × Int) ⊕ (Int)) := cond (decide (x8 < x9)) ((getI p0 (IntKind.i64.wrap (shrI .u64 (IntKind.u64.wrap (IntKind.i64.wrap (x8 + x9))) 1))).bind fun e11 => (Z4r e11 p1).bind fun r13 => cond (decide (r13 < 0)) (some (.inl ((IntKind.i64.wrap ((IntKind.i64.wrap (shrI .u64 (IntKind.u64.wrap (IntKind.i64.wrap (x8 + x9))) 1)) + 1)), x9))) (some (.inl (x8, (IntKind.i64.wrap (shrI .u64 (IntKind.u64.wrap (IntKind.i64.wrap (x8 + x9))) 1)))))) (some (.inr x8))
def Za6 (p0 : List TEntry) (p1 : TEntry) : Option (Int × Bool) := (iter (fun z23 => Z3o p0 p1 z23.1 z23.2) big (0, (p0.length : Int))).bind fun y24 => Z89 p0 p1 y24
theorem Zdh (p0 : List TEntry) (p1 : TEntry) (r : Int × Bool) (h : Za6 p0 p1 = some r) : Ok Tryz.prog 175 [C.im kEntry 3 p0, C.agg [C.int p1.kind, C.int p1.key, C.int p1.id], C.val (.func (.func 176) #[] #[])] [] (fun c qs => c = C.tup [C.int r.1, C.bool r.2] ∧ qs = []) := by
 refine Ok.of_body (rs := [.tmp 6, .tmp 7]) Tryz.func175 rfl rfl rfl rfl rfl fun X => ?_
 unfold Za6 at h
 refine zz ?_
 refine Ops.h (ns := []) rfl rfl (op_boxA rfl rfl) ?_
 rintro _ _ ⟨b1, rfl, rfl⟩
 refine Ops.v rfl (op_assign rfl rfl) ?_
 refine Ops.v rfl (op_assign rfl rfl) ?_
 refine Ops.nil ?_
 refine AW.seq ?_
 refine AW.region ?_
 refine Ops.v rfl (op_move rfl rfl) ?_
 refine Ops.v rfl (op_len_im sl_49.h rfl rfl) ?_
 refine Ops.v rfl (op_assign rfl rfl) ?_
 refine Ops.nil ?_
 refine AW.seq ?_
 refine AW.region ?_
 refine Ops.v rfl (op_move rfl rfl) ?_
 refine Ops.v rfl (op_assign rfl rfl) ?_
 refine Ops.v rfl (op_assign rfl rfl) ?_
 refine Ops.nil ?_
 refine AW.seq ?_
 refine AW.cut (τ := Int) (fun x16 => ⟨[(0, C.im kEntry 3 p0), (2, C.val (.func (.func 176) #[] #[])), (4, C.val (.pointer (some ⟨b1, 0, none⟩))), (8, C.int (p0.length : Int)), (9, C.int x16)], [Obj.box b1 99 [C.int p1.kind, C.int p1.key, C.int p1.id]]⟩) (fun x16 => Z89 p0 p1 x16 = some r) ?_ ?_
 ·
  refine zz ?_
  refine ob' h fun o25 g26 q27 => ?_
  refine AW.loop (τ := Int × Int) (x := (0, (p0.length : Int))) (fun (x8, x9) => ⟨[(0, C.im kEntry 3 p0), (2, C.val (.func (.func 176) #[] #[])), (4, C.val (.pointer (some ⟨b1, 0, none⟩))), (8, C.int (p0.length : Int)), (9, C.int x8), (10, C.int x9)], [Obj.box b1 99 [C.int p1.kind, C.int p1.key, C.int p1.id]]⟩) (fun k (x8, x9) => iter (fun z23 => Z3o p0 p1 z23.1 z23.2) k (x8, x9) = some o25) g26 (Ghost.both (ns := [0]) rfl rfl) ?_
  rintro k ⟨x8, x9⟩ i29
  refine iter_succ' (show iter (fun z23 => Z3o p0 p1 z23.1 z23.2) k (x8, x9) = some o25 from i29) fun k28 y30 hlt_k28 h h31 => ?_
  replace h : Z3o p0 p1 x8 x9 = some y30 := h
  unfold Z3o at h
  refine zz ?_
  refine cnd h (fun hb10 h => ?_) fun hb10 h => ?_
  ·
   refine AW.ct hb10 rfl ?_
   refine zz ?_
   refine Ops.v rfl (op_conv un_3 un_138 rfl rfl) ?_
   refine Ops.v rfl (op_shift rfl rfl rfl rfl) ?_
   refine Ops.v rfl (op_conv un_138 un_3 rfl rfl) ?_
   refine zz ?_
   refine AW.regionD (L := [4, 5]) (Lt := []) (k := .light 0 false (.light 1 false (.light 2 false (.light 3 false (.light 4 true (.light 5 true (.one 6 (.light 7 false .done)))))))) (ns := [0]) (by kernel_rfl) (by kernel_rfl) (by kernel_rfl) (by kernel_rfl) rfl ?_
   refine zz ?_
   refine ob' h fun e11 g12 h => ?_
   refine OpsD.v rfl rfl (op_indexAddr_im sl_49.h rfl rfl g12 rfl) ?_
   refine OpsD.v rfl rfl (op_load_ipA ld_99.h rfl rfl rfl rfl) ?_
   refine OpsD.v rfl rfl (op_loadA (p := 0) (ds := [C.int p1.kind, C.int p1.key, C.int p1.id]) ld_99.h rfl rfl rfl rfl rfl) ?_
   refine zz ?_
   refine ob' h fun r13 g14 h => ?_
   refine StepD.h (ns := []) rfl rfl rfl (op_callV (cs := [_, _]) rfl rfl (Zbm _ _ _ g14) rfl rfl) ?_
   rintro _ _ ⟨_, ⟨rfl, rfl⟩, rfl⟩
   refine zz ?_
   refine cnd h (fun hb15 h => ?_) fun hb15 h => ?_
   ·
    refine AW.ct hb15 rfl ?_
    refine zz ?_
    obtain rfl := Option.some.inj h
    exact ⟨k28, ((IntKind.i64.wrap ((IntKind.i64.wrap (shrI .u64 (IntKind.u64.wrap (IntKind.i64.wrap (x8 + x9))) 1)) + 1)), x9), hlt_k28, h31, Ghost.both (ns := [0]) rfl rfl⟩
   refine AW.cf hb15 rfl ?_
   refine zz ?_
   obtain rfl := Option.some.inj h
   exact ⟨k28, (x8, (IntKind.i64.wrap (shrI .u64 (IntKind.u64.wrap (IntKind.i64.wrap (x8 + x9))) 1))), hlt_k28, h31, Ghost.both (ns := [0]) rfl rfl⟩
  refine AW.cf hb10 rfl ?_
  refine AW.exit ?_
  obtain rfl := Option.some.inj h
  obtain rfl := Option.some.inj h31
  replace h := q27
  exact ⟨x8, h, Ghost.both (ns := [0]) rfl rfl⟩
 intro x16 h
 replace h : Z89 p0 p1 x16 = some r := h
 unfold Z89 at h
 refine AW.seq ?_
 refine AW.cut (τ := Bool) (fun x22 => ⟨[(6, C.int x16), (7, C.bool x22)], []⟩) (fun x22 => Z5r x16 x22 = some r) ?_ ?_
 ·
  refine AW.regionD (L := [9, 10]) (Lt := []) (k := .light 0 false (.light 1 false (.light 2 false (.light 3 false (.light 4 false (.light 5 false (.light 6 false (.light 7 false (.light 8 false (.light 9 true (.light 10 true (.one 11 (.light 12 false (.light 13 false (.light 14 false (.light 15 false .done)))))))))))))))) (ns := [0]) (by kernel_rfl) (by kernel_rfl) (by kernel_rfl) (by kernel_rfl) rfl ?_
  refine zz ?_
  refine cnd h (fun hb17 h => ?_) fun hb17 h => ?_
  ·
   refine zz ?_
   refine ob' h fun e18 g19 h => ?_
   refine OpsD.gv rfl rfl rfl rfl rfl hb17 (op_indexAddr_im sl_49.h rfl rfl g19 rfl) ?_
   refine OpsD.gv rfl rfl rfl rfl rfl hb17 (op_load_ipA ld_99.h rfl rfl rfl rfl) ?_
   refine OpsD.gv rfl rfl rfl rfl rfl hb17 (op_loadA (p := 0) (ds := [C.int p1.kind, C.int p1.key, C.int p1.id]) ld_99.h rfl rfl rfl rfl rfl) ?_
   refine zz ?_
   refine ob' h fun r20 g21 h => ?_
   refine StepD.gh (ns := []) rfl rfl rfl rfl rfl hb17 rfl (op_callV (cs := [_, _]) rfl rfl (Zbm _ _ _ g21) rfl rfl) ?_
   rintro _ _ ⟨_, ⟨rfl, rfl⟩, rfl⟩
   refine zz ?_
   exact ⟨(r20 == 0), h, Ghost.both (ns := []) rfl rfl⟩
  refine OpsD.gs rfl rfl rfl rfl (.b rfl hb17) rfl rfl ?_
  refine OpsD.gs rfl rfl rfl rfl (.b rfl hb17) rfl rfl ?_
  refine OpsD.gs rfl rfl rfl rfl (.b rfl hb17) rfl rfl ?_
  refine OpsD.gs rfl rfl rfl rfl (.b rfl hb17) rfl rfl ?_
  refine OpsD.gs rfl rfl rfl rfl (.b rfl hb17) rfl rfl ?_
  refine OpsD.gs rfl rfl rfl rfl (.b rfl hb17) rfl rfl ?_
  refine OpsD.one ?_
  refine StepD.gs rfl rfl rfl rfl (.b rfl hb17) rfl rfl ?_
  refine zz ?_
  exact ⟨false, h, Ghost.both (ns := []) rfl rfl⟩
 intro x22 h
 replace h : Z5r x16 x22 = some r := h
 unfold Z5r at h
 refine AW.ret ?_
 rw [← Option.some.inj h]
 exact ⟨[C.int x16, C.bool x22], _, Ghost.refl _, (.cons (.tmp rfl) (.cons (.tmp rfl) .nil)), [], _, _, rfl, ⟨rfl, rfl⟩⟩

def Z5l (p0 : List TEntry) (p1 : TEntry) : Option (Int × Bool) := (Za6 p0 p1).bind fun r2 => some (r2.1, r2.2)
theorem Zbz (p0 : List TEntry) (p1 : TEntry) (r : Int × Bool) (h : Z5l p0 p1 = some r) : Ok Tryz.prog 125 [C.im kEntry 3 p0, C.agg [C.int p1.kind, C.int p1.key, C.int p1.id]] [] (fun c qs => c = C.tup [C.int r.1, C.bool r.2] ∧ qs = []) := by
 refine Ok.of_body (rs := [.tmp 4, .tmp 5]) Tryz.func125 rfl rfl rfl rfl rfl fun X => ?_
 unfold Z5l at h
 refine zz ?_
 refine Ops.h (ns := []) rfl rfl (op_boxA rfl rfl) ?_
 rintro _ _ ⟨b1, rfl, rfl⟩
 refine zz ?_
 refine Ops.v rfl (op_loadA (p := 0) (ds := [C.int p1.kind, C.int p1.key, C.int p1.id]) ld_99.h rfl rfl rfl rfl rfl) ?_
 refine ob' h fun r2 g3 h => ?_
 refine Ops.hd (ns := []) rfl rfl (op_callE (Zdh _ _ _ g3) rfl rfl) ?_
 iterate 2 refine Ops.v rfl (op_extract rfl rfl rfl) ?_
 refine zz ?_
 refine AW.ret ?_
 rw [← Option.some.inj h]
 exact ⟨[C.int r2.1, C.bool r2.2], _, Ghost.refl _, (.cons (.tmp rfl) (.cons (.tmp rfl) .nil)), [], _, _, rfl, ⟨rfl, rfl⟩⟩

def Z5i (p0 : List TEntry) (p1 : Int) (p2 : Int) : Option Int := (Z5l p0 (TEntry.mk p1 p2 0)).bind fun r1 => cond r1.2 ((getI p0 r1.1).bind fun e4 => some e4.id) (some 0)
theorem Zbw (p0 : List TEntry) (p1 : Int) (p2 : Int) (r : Int) (h : Z5i p0 p1 p2 = some r) : Ok Tryz.prog 73 [C.im kEntry 3 p0, C.int p1, C.int p2] [] (fun c qs => c = C.int r ∧ qs = []) := by
 refine Ok.of_body (rs := [.tmp 6]) Tryz.func73 rfl rfl rfl rfl rfl fun X => ?_
 unfold Z5i at h
 refine zz ?_
 refine Ops.v rfl (op_build (ds := [C.int p1, C.int p2, C.int 0]) pl_99 ze_99 (cells_zero rfl rfl) (.one rfl (One.val rfl) rfl rfl (.one rfl (One.val rfl) rfl rfl .nil)) rfl) ?_
 refine ob' h fun r1 g2 h => ?_
 refine Ops.hd (ns := []) rfl rfl (op_callE (Zbz _ _ _ g2) rfl rfl) ?_
 refine zz ?_
 iterate 2 refine Ops.v rfl (op_extract rfl rfl rfl) ?_
 refine zz ?_
 refine cnd h (fun hb3 h => ?_) fun hb3 h => ?_
 ·
  refine AW.cond rfl (fun hn => absurd ((not_t hb3).symm.trans hn) (by decide)) (fun _ => ?_)
  refine zz ?_
  refine ob' h fun e4 g5 h => ?_
  refine Ops.v rfl (op_indexAddr_im sl_49.h rfl rfl g5 rfl) ?_
  refine Ops.v rfl (op_fieldAddr_ip fo_99_2.h rfl rfl rfl) ?_
  refine Ops.v rfl (op_load_ip ld_2.h rfl rfl) ?_
  refine zz ?_
  refine AW.ret ?_
  rw [← Option.some.inj h]
  exact ⟨[C.int e4.id], _, Ghost.refl _, (.cons (.tmp rfl) .nil), [], _, _, rfl, ⟨rfl, rfl⟩⟩
 refine AW.cond rfl (fun _ => ?_) (fun hn => absurd ((not_f hb3).symm.trans hn) (by decide))
 refine zz ?_
 refine AW.ret ?_
 rw [← Option.some.inj h]
 exact ⟨[C.int 0], _, Ghost.refl _, (.cons (.tmp rfl) .nil), [], _, _, rfl, ⟨rfl, rfl⟩⟩

def Zg (p0 : TGraph') (p1 : List TEntry) (p2 : Int) (p3 : Int) : Option (TEvent × Bool) := (Z5i p1 p2 p3).bind fun r3 => (Zf p0 r3).bind fun r5 => some (r5.1, r5.2)
theorem Z5q (p0 : TGraph') (p1 : List TEntry) (p2 : Int) (p3 : Int) (r : TEvent × Bool) (h : Zg p0 p1 p2 p3 = some r) : Ok Tryz.prog 123 [C.agg [C.int p0.room, C.im kEvent 9 p0.events, C.im kEvent 9 p0.parked], C.im kEntry 3 p1, C.int p2, C.int p3] [] (fun c qs => c = C.tup [C.agg [C.int r.1.id, C.int r.1.room, C.int r.1.author, C.int r.1.kind, C.int r.1.key, C.int r.1.n, C.str r.1.text, C.im kI64 1 r.1.prev, C.int r.1.time], C.bool r.2] ∧ qs = []) := by
 refine Ok.of_body (rs := [.cell 8 38, .tmp 9]) Tryz.func123 rfl rfl rfl rfl rfl fun X => ?_
 unfold Zg at h
 refine zz ?_
 refine Ops.h (ns := []) rfl rfl (op_boxA rfl rfl) ?_
 rintro _ _ ⟨b1, rfl, rfl⟩
 refine Ops.h (ns := []) rfl rfl (op_alloc (cs := [C.int 0, C.int 0, C.int 0, C.int 0, C.int 0, C.int 0, C.str ByteArray.empty, C.val (.slice none 0 0), C.int 0]) ze_38 (cells_zero rfl rfl) rfl) ?_
 rintro _ _ ⟨b2, rfl, rfl⟩
 refine zz ?_
 refine AW.regionD (L := [0]) (Lt := [8]) (k := .light 0 true (.light 1 false (.light 2 false (.light 3 false (.one 4 (.one 5 (.light 6 false (.light 7 false (.late 8 (.light 9 false .done)))))))))) (ns := [0, 0]) (by kernel_rfl) (by kernel_rfl) (by kernel_rfl) (by kernel_rfl) rfl ?_
 refine OpsD.v rfl rfl (op_loadA (p := 1) (ds := [C.int p0.room, C.im kEvent 9 p0.events, C.im kEvent 9 p0.parked]) ld_30.h rfl rfl rfl rfl rfl) ?_
 refine zz ?_
 refine ob' h fun r3 g4 h => ?_
 refine StepD.h (ns := []) rfl rfl rfl (op_callE (Zbw _ _ _ _ g4) rfl rfl) ?_
 rintro _ _ ⟨rfl, rfl⟩
 refine zz ?_
 refine ob' h fun r5 g6 h => ?_
 refine StepD.h (ns := []) rfl rfl rfl (op_callE (Z3n _ _ _ g6) rfl rfl) ?_
 rintro _ _ ⟨rfl, rfl⟩
 iterate 2 refine OpsD.v rfl rfl (op_extract rfl rfl rfl) ?_
 refine OpsD.late (ns := [0]) rfl rfl rfl (op_storeA (gs := [C.int r5.1.id, C.int r5.1.room, C.int r5.1.author, C.int r5.1.kind, C.int r5.1.key, C.int r5.1.n, C.str r5.1.text, C.im kI64 1 r5.1.prev, C.int r5.1.time]) ld_38.h rfl rfl rfl rfl rfl) ?_
 rintro _ _ ⟨rfl, rfl⟩
 refine zz ?_
 refine AW.ret ?_
 rw [← Option.some.inj h]
 exact ⟨[C.agg [C.int r5.1.id, C.int r5.1.room, C.int r5.1.author, C.int r5.1.kind, C.int r5.1.key, C.int r5.1.n, C.str r5.1.text, C.im kI64 1 r5.1.prev, C.int r5.1.time], C.bool r5.2], _, Ghost.refl _, (.cons (.cell (p := 0) rfl rfl ld_38.h rfl) (.cons (.tmp rfl) .nil)), [], _, _, rfl, ⟨rfl, rfl⟩⟩

def Z58 (p0 : TGraph') (p1 : List TEntry) (p2 : Int) : Option Int := (Zg p0 p1 2 p2).bind fun r2 => some r2.1.n
theorem Zbr (p0 : TGraph') (p1 : List TEntry) (p2 : Int) (r : Int) (h : Z58 p0 p1 p2 = some r) : Ok Tryz.prog 185 [C.agg [C.int p0.room, C.im kEvent 9 p0.events, C.im kEvent 9 p0.parked], C.im kEntry 3 p1, C.int p2] [] (fun c qs => c = C.int r ∧ qs = []) := by
 refine Ok.of_body (rs := [.tmp 6]) Tryz.func185 rfl rfl rfl rfl rfl fun X => ?_
 unfold Z58 at h
 refine zz ?_
 refine Ops.h (ns := []) rfl rfl (op_boxA rfl rfl) ?_
 rintro _ _ ⟨b1, rfl, rfl⟩
 refine zz ?_
 refine Ops.v rfl (op_loadA (p := 0) (ds := [C.int p0.room, C.im kEvent 9 p0.events, C.im kEvent 9 p0.parked]) ld_30.h rfl rfl rfl rfl rfl) ?_
 refine zz ?_
 refine ob' h fun r2 g3 h => ?_
 refine Ops.hd (ns := []) rfl rfl (op_callE (Z5q _ _ _ _ _ g3) rfl rfl) ?_
 refine zz ?_
 iterate 2 refine Ops.v rfl (op_extract rfl rfl rfl) ?_
 refine Ops.h (ns := []) rfl rfl (op_alloc (cs := [C.int 0, C.int 0, C.int 0, C.int 0, C.int 0, C.int 0, C.str ByteArray.empty, C.val (.slice none 0 0), C.int 0]) ze_38 (cells_zero rfl rfl) rfl) ?_
 rintro _ _ ⟨b4, rfl, rfl⟩
 refine Ops.hd (ns := [0]) rfl rfl (op_storeA (gs := [C.int r2.1.id, C.int r2.1.room, C.int r2.1.author, C.int r2.1.kind, C.int r2.1.key, C.int r2.1.n, C.str r2.1.text, C.im kI64 1 r2.1.prev, C.int r2.1.time]) ld_38.h rfl rfl rfl rfl rfl) ?_
 refine zz ?_
 refine AW.ret ?_
 rw [← Option.some.inj h]
 exact ⟨[C.int r2.1.n], _, Ghost.refl _, (.cons (.tmp rfl) .nil), [], _, _, rfl, ⟨rfl, rfl⟩⟩

def Z57 (x10 : Bool) : Option Int := cond x10 (some 100) (some 0)
def Z39 (p0 : TGraph') (p1 : List TEntry) (p2 : Int) : Option Int := (Zg p0 p1 3 p2).bind fun r2 => cond r2.2 (some r2.1.n) ((Zg p0 p1 1 0).bind fun r6 => cond r6.2 (Z57 (r6.1.author == p2)) (Z57 false))
theorem Zb8 (p0 : TGraph') (p1 : List TEntry) (p2 : Int) (r : Int) (h : Z39 p0 p1 p2 = some r) : Ok Tryz.prog 67 [C.agg [C.int p0.room, C.im kEvent 9 p0.events, C.im kEvent 9 p0.parked], C.im kEntry 3 p1, C.int p2] [] (fun c qs => c = C.int r ∧ qs = []) := by
 refine Ok.of_body (rs := [.tmp 6]) Tryz.func67 rfl rfl rfl rfl rfl fun X => ?_
 unfold Z39 at h
 refine zz ?_
 refine Ops.h (ns := []) rfl rfl (op_boxA rfl rfl) ?_
 rintro _ _ ⟨b1, rfl, rfl⟩
 refine zz ?_
 refine Ops.v rfl (op_loadA (p := 0) (ds := [C.int p0.room, C.im kEvent 9 p0.events, C.im kEvent 9 p0.parked]) ld_30.h rfl rfl rfl rfl rfl) ?_
 refine zz ?_
 refine ob' h fun r2 g3 h => ?_
 refine Ops.hd (ns := []) rfl rfl (op_callE (Z5q _ _ _ _ _ g3) rfl rfl) ?_
 refine zz ?_
 iterate 2 refine Ops.v rfl (op_extract rfl rfl rfl) ?_
 refine Ops.h (ns := []) rfl rfl (op_alloc (cs := [C.int 0, C.int 0, C.int 0, C.int 0, C.int 0, C.int 0, C.str ByteArray.empty, C.val (.slice none 0 0), C.int 0]) ze_38 (cells_zero rfl rfl) rfl) ?_
 rintro _ _ ⟨b4, rfl, rfl⟩
 refine Ops.hd (ns := [0]) rfl rfl (op_storeA (gs := [C.int r2.1.id, C.int r2.1.room, C.int r2.1.author, C.int r2.1.kind, C.int r2.1.key, C.int r2.1.n, C.str r2.1.text, C.im kI64 1 r2.1.prev, C.int r2.1.time]) ld_38.h rfl rfl rfl rfl rfl) ?_
 refine zz ?_
 refine cnd h (fun hb5 h => ?_) fun hb5 h => ?_
 ·
  refine AW.ct hb5 rfl ?_
  refine zz ?_
  refine AW.ret ?_
  rw [← Option.some.inj h]
  exact ⟨[C.int r2.1.n], _, Ghost.refl _, (.cons (.tmp rfl) .nil), [], _, _, rfl, ⟨rfl, rfl⟩⟩
 refine AW.cf hb5 rfl ?_
 refine zz ?_
 refine Ops.v rfl (op_loadA (p := 1) (ds := [C.int p0.room, C.im kEvent 9 p0.events, C.im kEvent 9 p0.parked]) ld_30.h rfl rfl rfl rfl rfl) ?_
 refine zz ?_
 refine ob' h fun r6 g7 h => ?_
 refine Ops.hd (ns := []) rfl rfl (op_callE (Z5q _ _ _ _ _ g7) rfl rfl) ?_
 refine zz ?_
 iterate 2 refine Ops.v rfl (op_extract rfl rfl rfl) ?_
 refine Ops.h (ns := []) rfl rfl (op_alloc (cs := [C.int 0, C.int 0, C.int 0, C.int 0, C.int 0, C.int 0, C.str ByteArray.empty, C.val (.slice none 0 0), C.int 0]) ze_38 (cells_zero rfl rfl) rfl) ?_
 rintro _ _ ⟨b8, rfl, rfl⟩
 refine Ops.hd (ns := [0]) rfl rfl (op_storeA (gs := [C.int r6.1.id, C.int r6.1.room, C.int r6.1.author, C.int r6.1.kind, C.int r6.1.key, C.int r6.1.n, C.str r6.1.text, C.im kI64 1 r6.1.prev, C.int r6.1.time]) ld_38.h rfl rfl rfl rfl rfl) ?_
 refine Ops.v rfl (op_assign rfl rfl) ?_
 refine Ops.nil ?_
 refine AW.seq ?_
 refine AW.cut (τ := Bool) (fun x10 => ⟨[(33, C.bool x10)], []⟩) (fun x10 => Z57 x10 = some r) ?_ ?_
 ·
  refine zz ?_
  refine cnd h (fun hb9 h => ?_) fun hb9 h => ?_
  ·
   refine zz ?_
   exact ⟨(r6.1.author == p2), h, Ghost.both (ns := []) rfl rfl⟩
  refine zz ?_
  exact ⟨false, h, Ghost.both (ns := []) rfl rfl⟩
 intro x10 h
 replace h : Z57 x10 = some r := h
 unfold Z57 at h
 refine cnd h (fun hb11 h => ?_) fun hb11 h => ?_
 ·
  refine AW.ct hb11 rfl ?_
  refine zz ?_
  refine AW.ret ?_
  rw [← Option.some.inj h]
  exact ⟨[C.int 100], _, Ghost.refl _, (.cons (.tmp rfl) .nil), [], _, _, rfl, ⟨rfl, rfl⟩⟩
 refine AW.cf hb11 rfl ?_
 refine zz ?_
 refine AW.ret ?_
 rw [← Option.some.inj h]
 exact ⟨[C.int 0], _, Ghost.refl _, (.cons (.tmp rfl) .nil), [], _, _, rfl, ⟨rfl, rfl⟩⟩

def Z1 (p0 : Bool) : Option Int := cond p0 (some 11) (some 0)
theorem Z5 (p0 : Bool) (r : Int) (h : Z1 p0 = some r) : Ok Tryz.prog 188 [C.bool p0] [] (fun c qs => c = C.int r ∧ qs = []) := by
 refine Ok.of_body (rs := [.tmp 2]) Tryz.func188 rfl rfl rfl rfl rfl fun X => ?_
 unfold Z1 at h
 refine zz ?_
 refine cnd h (fun hb1 h => ?_) fun hb1 h => ?_
 ·
  refine AW.ct hb1 rfl ?_
  refine zz ?_
  refine AW.ret ?_
  rw [← Option.some.inj h]
  exact ⟨[C.int 11], _, Ghost.refl _, (.cons (.tmp rfl) .nil), [], _, _, rfl, ⟨rfl, rfl⟩⟩
 refine AW.cf hb1 rfl ?_
 refine zz ?_
 refine AW.ret ?_
 rw [← Option.some.inj h]
 exact ⟨[C.int 0], _, Ghost.refl _, (.cons (.tmp rfl) .nil), [], _, _, rfl, ⟨rfl, rfl⟩⟩

def Z1e (x23 : Int) : Option Int := some x23
def Z4z (p0 : TGraph') (p1 : List TEntry) (p2 : TEvent) (p3 : Int) (x4 : Bool) : Option Int := cond (p2.n == 1) ((Zg p0 p1 5 0).bind fun r6 => (Zg p0 p1 1 0).bind fun r9 => cond (p3 == 3) ((Z1 true).bind fun r13 => Z1e r13) (cond x4 ((Z1 false).bind fun r16 => Z1e r16) (cond (r6.1.n != 1) ((Z1 (r9.1.author != p2.author)).bind fun r19 => Z1e r19) ((Z1 false).bind fun r21 => Z1e r21)))) (cond (p2.n == 2) ((Z1 (!x4)).bind fun r25 => some r25) (some 11))
def Z79 (p0 : TGraph') (p1 : List TEntry) (p2 : TEvent) (p3 : Int) : Option Int := cond (p3 == 1) (Z4z p0 p1 p2 p3 true) (Z4z p0 p1 p2 p3 (p3 == 4))
set_option maxHeartbeats 1000000 in
theorem Zcu (p0 : TGraph') (p1 : List TEntry) (p2 : TEvent) (p3 : Int) (r : Int) (h : Z79 p0 p1 p2 p3 = some r) : Ok Tryz.prog 186 [C.agg [C.int p0.room, C.im kEvent 9 p0.events, C.im kEvent 9 p0.parked], C.im kEntry 3 p1, C.agg [C.int p2.id, C.int p2.room, C.int p2.author, C.int p2.kind, C.int p2.key, C.int p2.n, C.str p2.text, C.im kI64 1 p2.prev, C.int p2.time], C.int p3] [] (fun c qs => c = C.int r ∧ qs = []) := by
 refine Ok.of_body (rs := [.tmp 8]) Tryz.func186 rfl rfl rfl rfl rfl fun X => ?_
 unfold Z79 at h
 refine zz ?_
 refine Ops.h (ns := []) rfl rfl (op_boxA rfl rfl) ?_
 rintro _ _ ⟨b1, rfl, rfl⟩
 refine Ops.h (ns := []) rfl rfl (op_boxA rfl rfl) ?_
 rintro _ _ ⟨b2, rfl, rfl⟩
 refine Ops.v rfl (op_assign rfl rfl) ?_
 refine Ops.nil ?_
 refine AW.seq ?_
 refine AW.cut (τ := Bool) (fun x4 => ⟨[(1, C.im kEntry 3 p1), (3, C.int p3), (4, C.val (.pointer (some ⟨b1, 0, none⟩))), (6, C.val (.pointer (some ⟨b2, 0, none⟩))), (9, C.bool x4)], [Obj.box b1 30 [C.int p0.room, C.im kEvent 9 p0.events, C.im kEvent 9 p0.parked], Obj.box b2 38 [C.int p2.id, C.int p2.room, C.int p2.author, C.int p2.kind, C.int p2.key, C.int p2.n, C.str p2.text, C.im kI64 1 p2.prev, C.int p2.time]]⟩) (fun x4 => Z4z p0 p1 p2 p3 x4 = some r) ?_ ?_
 ·
  refine zz ?_
  refine cnd h (fun hb3 h => ?_) fun hb3 h => ?_
  ·
   refine zz ?_
   exact ⟨true, h, Ghost.both (ns := [1, 0]) rfl rfl⟩
  refine zz ?_
  exact ⟨(p3 == 4), h, Ghost.both (ns := [1, 0]) rfl rfl⟩
 intro x4 h
 replace h : Z4z p0 p1 p2 p3 x4 = some r := h
 unfold Z4z at h
 refine zz ?_
 refine cnd h (fun hb5 h => ?_) fun hb5 h => ?_
 ·
  refine AW.ct hb5 rfl ?_
  refine zz ?_
  refine Ops.v rfl (op_loadA (p := 0) (ds := [C.int p0.room, C.im kEvent 9 p0.events, C.im kEvent 9 p0.parked]) ld_30.h rfl rfl rfl rfl rfl) ?_
  refine zz ?_
  refine ob' h fun r6 g7 h => ?_
  refine Ops.hd (ns := []) rfl rfl (op_callE (Z5q _ _ _ _ _ g7) rfl rfl) ?_
  refine zz ?_
  iterate 2 refine Ops.v rfl (op_extract rfl rfl rfl) ?_
  refine Ops.h (ns := []) rfl rfl (op_alloc (cs := [C.int 0, C.int 0, C.int 0, C.int 0, C.int 0, C.int 0, C.str ByteArray.empty, C.val (.slice none 0 0), C.int 0]) ze_38 (cells_zero rfl rfl) rfl) ?_
  rintro _ _ ⟨b8, rfl, rfl⟩
  refine Ops.hd (ns := [0]) rfl rfl (op_storeA (gs := [C.int r6.1.id, C.int r6.1.room, C.int r6.1.author, C.int r6.1.kind, C.int r6.1.key, C.int r6.1.n, C.str r6.1.text, C.im kI64 1 r6.1.prev, C.int r6.1.time]) ld_38.h rfl rfl rfl rfl rfl) ?_
  refine zz ?_
  refine Ops.v rfl (op_loadA (p := 1) (ds := [C.int p0.room, C.im kEvent 9 p0.events, C.im kEvent 9 p0.parked]) ld_30.h rfl rfl rfl rfl rfl) ?_
  refine zz ?_
  refine ob' h fun r9 g10 h => ?_
  refine Ops.hd (ns := []) rfl rfl (op_callE (Z5q _ _ _ _ _ g10) rfl rfl) ?_
  refine zz ?_
  iterate 2 refine Ops.v rfl (op_extract rfl rfl rfl) ?_
  refine Ops.h (ns := []) rfl rfl (op_alloc (cs := [C.int 0, C.int 0, C.int 0, C.int 0, C.int 0, C.int 0, C.str ByteArray.empty, C.val (.slice none 0 0), C.int 0]) ze_38 (cells_zero rfl rfl) rfl) ?_
  rintro _ _ ⟨b11, rfl, rfl⟩
  refine Ops.hd (ns := [0]) rfl rfl (op_storeA (gs := [C.int r9.1.id, C.int r9.1.room, C.int r9.1.author, C.int r9.1.kind, C.int r9.1.key, C.int r9.1.n, C.str r9.1.text, C.im kI64 1 r9.1.prev, C.int r9.1.time]) ld_38.h rfl rfl rfl rfl rfl) ?_
  refine Ops.v rfl (op_assign rfl rfl) ?_
  refine Ops.nil ?_
  refine AW.seq ?_
  refine AW.cut (τ := Int) (fun x23 => ⟨[(8, C.int x23)], []⟩) (fun x23 => Z1e x23 = some r) ?_ ?_
  ·
   refine zz ?_
   refine cnd h (fun hb12 h => ?_) fun hb12 h => ?_
   ·
    refine zz ?_
    refine ob' h fun r13 g14 h => ?_
    refine Ops.hd (ns := []) rfl rfl (op_callE (Z5 _ _ g14) rfl rfl) ?_
    refine zz ?_
    exact ⟨r13, h, Ghost.both (ns := []) rfl rfl⟩
   refine zz ?_
   refine cnd h (fun hb15 h => ?_) fun hb15 h => ?_
   ·
    iterate 3 refine Ops.gs rfl rfl rfl (.b rfl (not_t hb15)) rfl rfl ?_
    refine Ops.gv rfl rfl rfl rfl hb12 (op_pick_f rfl (not_t hb15) rfl rfl) ?_
    refine zz ?_
    refine ob' h fun r16 g17 h => ?_
    refine Ops.hd (ns := []) rfl rfl (op_callE (Z5 _ _ g17) rfl rfl) ?_
    refine zz ?_
    exact ⟨r16, h, Ghost.both (ns := []) rfl rfl⟩
   refine Ops.gv rfl rfl rfl rfl (not_f hb15) (op_fieldAddr fo_38_5.h rfl rfl) ?_
   refine Ops.gv rfl rfl rfl rfl (not_f hb15) (op_load (p := 1) ld_2.h rfl rfl rfl rfl) ?_
   refine Ops.gv rfl rfl rfl rfl (not_f hb15) (op_bin rfl rfl rfl rfl) ?_
   refine Ops.gv rfl rfl rfl rfl hb12 (op_pick_t rfl (not_f hb15) rfl rfl) ?_
   refine zz ?_
   refine cnd h (fun hb18 h => ?_) fun hb18 h => ?_
   ·
    refine zz ?_
    refine Ops.gv rfl rfl rfl rfl hb18 (op_load (p := 3) ld_2.h rfl rfl rfl rfl) ?_
    refine zz ?_
    refine ob' h fun r19 g20 h => ?_
    refine Ops.hd (ns := []) rfl rfl (op_callE (Z5 _ _ g20) rfl rfl) ?_
    refine zz ?_
    exact ⟨r19, h, Ghost.both (ns := []) rfl rfl⟩
   refine zz ?_
   refine ob' h fun r21 g22 h => ?_
   refine Ops.hd (ns := []) rfl rfl (op_callE (Z5 _ _ g22) rfl rfl) ?_
   refine zz ?_
   exact ⟨r21, h, Ghost.both (ns := []) rfl rfl⟩
  intro x23 h
  replace h : Z1e x23 = some r := h
  unfold Z1e at h
  refine AW.ret ?_
  rw [← Option.some.inj h]
  exact ⟨[C.int x23], _, Ghost.refl _, (.cons (.tmp rfl) .nil), [], _, _, rfl, ⟨rfl, rfl⟩⟩
 refine AW.cf hb5 rfl ?_
 refine zz ?_
 refine cnd h (fun hb24 h => ?_) fun hb24 h => ?_
 ·
  refine AW.ct hb24 rfl ?_
  refine zz ?_
  refine ob' h fun r25 g26 h => ?_
  refine Ops.hd (ns := []) rfl rfl (op_callE (Z5 _ _ g26) rfl rfl) ?_
  refine zz ?_
  refine AW.ret ?_
  rw [← Option.some.inj h]
  exact ⟨[C.int r25], _, Ghost.refl _, (.cons (.tmp rfl) .nil), [], _, _, rfl, ⟨rfl, rfl⟩⟩
 refine AW.cf hb24 rfl ?_
 refine zz ?_
 refine AW.ret ?_
 rw [← Option.some.inj h]
 exact ⟨[C.int 11], _, Ghost.refl _, (.cons (.tmp rfl) .nil), [], _, _, rfl, ⟨rfl, rfl⟩⟩

def Z4w (x15 : Int) : Option Int := some x15
def Z34 (x25 : Int) : Option Int := some x25
def Z4x (x32 : Int) : Option Int := some x32
def Z4y (p2 : TEvent) (r3 : Int) (x8 : Bool) : Option Int := cond (p2.n == 4) (cond (r3 == 1) ((Z1 true).bind fun r11 => Z4w r11) ((Z1 (r3 == 3)).bind fun r13 => Z4w r13)) (cond (p2.n == 2) (cond x8 ((Z1 true).bind fun r18 => Z34 r18) (cond (r3 == 0) ((Z1 true).bind fun r21 => Z34 r21) ((Z1 (r3 == 2)).bind fun r23 => Z34 r23))) (cond (p2.n == 3) (cond x8 ((Z1 true).bind fun r28 => Z4x r28) ((Z1 (r3 == 3)).bind fun r30 => Z4x r30)) (some 11)))
def Z78 (p0 : TGraph') (p1 : List TEntry) (p2 : TEvent) (p3 : Int) : Option Int := (Z58 p0 p1 p2.key).bind fun r3 => (Z39 p0 p1 p2.key).bind fun r5 => cond (decide (p3 < 50)) (Z4y p2 r3 true) (Z4y p2 r3 (decide (p3 ≤ r5)))
set_option maxHeartbeats 1000000 in
theorem Zct (p0 : TGraph') (p1 : List TEntry) (p2 : TEvent) (p3 : Int) (r : Int) (h : Z78 p0 p1 p2 p3 = some r) : Ok Tryz.prog 187 [C.agg [C.int p0.room, C.im kEvent 9 p0.events, C.im kEvent 9 p0.parked], C.im kEntry 3 p1, C.agg [C.int p2.id, C.int p2.room, C.int p2.author, C.int p2.kind, C.int p2.key, C.int p2.n, C.str p2.text, C.im kI64 1 p2.prev, C.int p2.time], C.int p3] [] (fun c qs => c = C.int r ∧ qs = []) := by
 refine Ok.of_body (rs := [.tmp 8]) Tryz.func187 rfl rfl rfl rfl rfl fun X => ?_
 unfold Z78 at h
 refine zz ?_
 refine Ops.h (ns := []) rfl rfl (op_boxA rfl rfl) ?_
 rintro _ _ ⟨b1, rfl, rfl⟩
 refine Ops.h (ns := []) rfl rfl (op_boxA rfl rfl) ?_
 rintro _ _ ⟨b2, rfl, rfl⟩
 refine zz ?_
 refine AW.regionD (L := [0, 3, 5, 8]) (Lt := []) (k := .light 0 true (.light 1 false (.light 2 false (.light 3 true (.light 5 true (.light 6 false (.light 7 false (.light 8 true (.one 4 (.one 9 (.light 10 false (.light 11 false .done)))))))))))) (ns := [0, 0]) (by kernel_rfl) (by kernel_rfl) (by kernel_rfl) (by kernel_rfl) rfl ?_
 refine OpsD.v rfl rfl (op_loadA (p := 1) (ds := [C.int p0.room, C.im kEvent 9 p0.events, C.im kEvent 9 p0.parked]) ld_30.h rfl rfl rfl rfl rfl) ?_
 refine zz ?_
 refine OpsD.v rfl rfl (op_loadA (p := 1) (ds := [C.int p0.room, C.im kEvent 9 p0.events, C.im kEvent 9 p0.parked]) ld_30.h rfl rfl rfl rfl rfl) ?_
 refine zz ?_
 refine ob' h fun r3 g4 h => ?_
 refine StepD.h (ns := []) rfl rfl rfl (op_callE (Zbr _ _ _ _ g4) rfl rfl) ?_
 rintro _ _ ⟨rfl, rfl⟩
 refine zz ?_
 refine ob' h fun r5 g6 h => ?_
 refine StepD.h (ns := []) rfl rfl rfl (op_callE (Zb8 _ _ _ _ g6) rfl rfl) ?_
 rintro _ _ ⟨rfl, rfl⟩
 refine OpsD.v rfl rfl (op_assign rfl rfl) ?_
 refine OpsD.v rfl rfl (op_assign rfl rfl) ?_
 refine OpsD.done ?_
 refine AW.seq ?_
 refine AW.cut (τ := Bool) (fun x8 => ⟨[(6, C.val (.pointer (some ⟨b2, 0, none⟩))), (9, C.int r3), (11, C.bool x8)], [Obj.box b2 38 [C.int p2.id, C.int p2.room, C.int p2.author, C.int p2.kind, C.int p2.key, C.int p2.n, C.str p2.text, C.im kI64 1 p2.prev, C.int p2.time]]⟩) (fun x8 => Z4y p2 r3 x8 = some r) ?_ ?_
 ·
  refine zz ?_
  refine cnd h (fun hb7 h => ?_) fun hb7 h => ?_
  ·
   refine zz ?_
   exact ⟨true, h, Ghost.both (ns := [0]) rfl rfl⟩
  refine zz ?_
  exact ⟨decide (p3 ≤ r5), h, Ghost.both (ns := [0]) rfl rfl⟩
 intro x8 h
 replace h : Z4y p2 r3 x8 = some r := h
 unfold Z4y at h
 refine zz ?_
 refine cnd h (fun hb9 h => ?_) fun hb9 h => ?_
 ·
  refine AW.ct hb9 rfl ?_
  refine AW.seq ?_
  refine AW.cut (τ := Int) (fun x15 => ⟨[(8, C.int x15)], []⟩) (fun x15 => Z4w x15 = some r) ?_ ?_
  ·
   refine zz ?_
   refine cnd h (fun hb10 h => ?_) fun hb10 h => ?_
   ·
    refine zz ?_
    refine ob' h fun r11 g12 h => ?_
    refine Ops.hd (ns := []) rfl rfl (op_callE (Z5 _ _ g12) rfl rfl) ?_
    refine zz ?_
    exact ⟨r11, h, Ghost.both (ns := []) rfl rfl⟩
   refine zz ?_
   refine ob' h fun r13 g14 h => ?_
   refine Ops.hd (ns := []) rfl rfl (op_callE (Z5 _ _ g14) rfl rfl) ?_
   refine zz ?_
   exact ⟨r13, h, Ghost.both (ns := []) rfl rfl⟩
  intro x15 h
  replace h : Z4w x15 = some r := h
  unfold Z4w at h
  refine AW.ret ?_
  rw [← Option.some.inj h]
  exact ⟨[C.int x15], _, Ghost.refl _, (.cons (.tmp rfl) .nil), [], _, _, rfl, ⟨rfl, rfl⟩⟩
 refine AW.cf hb9 rfl ?_
 refine zz ?_
 refine cnd h (fun hb16 h => ?_) fun hb16 h => ?_
 ·
  refine AW.ct hb16 rfl ?_
  refine AW.seq ?_
  refine AW.cut (τ := Int) (fun x25 => ⟨[(8, C.int x25)], []⟩) (fun x25 => Z34 x25 = some r) ?_ ?_
  ·
   refine zz ?_
   refine cnd h (fun hb17 h => ?_) fun hb17 h => ?_
   ·
    refine zz ?_
    refine ob' h fun r18 g19 h => ?_
    refine Ops.hd (ns := []) rfl rfl (op_callE (Z5 _ _ g19) rfl rfl) ?_
    refine zz ?_
    exact ⟨r18, h, Ghost.both (ns := []) rfl rfl⟩
   refine zz ?_
   refine cnd h (fun hb20 h => ?_) fun hb20 h => ?_
   ·
    refine zz ?_
    refine ob' h fun r21 g22 h => ?_
    refine Ops.hd (ns := []) rfl rfl (op_callE (Z5 _ _ g22) rfl rfl) ?_
    refine zz ?_
    exact ⟨r21, h, Ghost.both (ns := []) rfl rfl⟩
   refine zz ?_
   refine ob' h fun r23 g24 h => ?_
   refine Ops.hd (ns := []) rfl rfl (op_callE (Z5 _ _ g24) rfl rfl) ?_
   refine zz ?_
   exact ⟨r23, h, Ghost.both (ns := []) rfl rfl⟩
  intro x25 h
  replace h : Z34 x25 = some r := h
  unfold Z34 at h
  refine AW.ret ?_
  rw [← Option.some.inj h]
  exact ⟨[C.int x25], _, Ghost.refl _, (.cons (.tmp rfl) .nil), [], _, _, rfl, ⟨rfl, rfl⟩⟩
 refine AW.cf hb16 rfl ?_
 refine zz ?_
 refine cnd h (fun hb26 h => ?_) fun hb26 h => ?_
 ·
  refine AW.ct hb26 rfl ?_
  refine AW.seq ?_
  refine AW.cut (τ := Int) (fun x32 => ⟨[(8, C.int x32)], []⟩) (fun x32 => Z4x x32 = some r) ?_ ?_
  ·
   refine zz ?_
   refine cnd h (fun hb27 h => ?_) fun hb27 h => ?_
   ·
    refine zz ?_
    refine ob' h fun r28 g29 h => ?_
    refine Ops.hd (ns := []) rfl rfl (op_callE (Z5 _ _ g29) rfl rfl) ?_
    refine zz ?_
    exact ⟨r28, h, Ghost.both (ns := []) rfl rfl⟩
   refine zz ?_
   refine ob' h fun r30 g31 h => ?_
   refine Ops.hd (ns := []) rfl rfl (op_callE (Z5 _ _ g31) rfl rfl) ?_
   refine zz ?_
   exact ⟨r30, h, Ghost.both (ns := []) rfl rfl⟩
  intro x32 h
  replace h : Z4x x32 = some r := h
  unfold Z4x at h
  refine AW.ret ?_
  rw [← Option.some.inj h]
  exact ⟨[C.int x32], _, Ghost.refl _, (.cons (.tmp rfl) .nil), [], _, _, rfl, ⟨rfl, rfl⟩⟩
 refine AW.cf hb26 rfl ?_
 refine zz ?_
 refine AW.ret ?_
 rw [← Option.some.inj h]
 exact ⟨[C.int 11], _, Ghost.refl _, (.cons (.tmp rfl) .nil), [], _, _, rfl, ⟨rfl, rfl⟩⟩

def Z1f (x38 : Int) : Option Int := some x38
def Z50 (x55 : Int) : Option Int := some x55
def Z35 (p0 : TGraph') (p2 : TEvent) (r8 : Int) (x41 : Bool) : Option Int := cond x41 ((Z1 (decide (r8 < 50))).bind fun r43 => some r43) (cond (p2.kind == 8) ((Zf p0 p2.key).bind fun r46 => cond r46.2 (cond (decide (r8 < 50)) ((Z1 (r46.1.author != p2.author)).bind fun r51 => Z50 r51) ((Z1 false).bind fun r53 => Z50 r53)) (some 6)) (some 0))
def Z51 (p0 : TGraph') (p1 : List TEntry) (p2 : TEvent) (r6 : Int) (r8 : Int) (x16 : Bool) : Option Int := cond x16 ((Z79 p0 p1 p2 r6).bind fun r18 => some r18) (cond (r6 != 1) (some 11) (cond (p2.kind == 2) ((Z78 p0 p1 p2 r8).bind fun r22 => some r22) (cond (p2.kind == 3) (cond (decide (r8 < 50)) ((Z1 true).bind fun r26 => Z1f r26) (cond (decide (p2.n > r8)) ((Z1 true).bind fun r29 => Z1f r29) (cond (p2.key != p2.author) ((Z39 p0 p1 p2.key).bind fun r32 => (Z1 (decide (r32 ≥ r8))).bind fun r34 => Z1f r34) ((Z1 false).bind fun r36 => Z1f r36)))) (cond (p2.kind == 4) (Z35 p0 p2 r8 (p2.kind == 4)) (cond (p2.kind == 5) (Z35 p0 p2 r8 (p2.kind == 5)) (Z35 p0 p2 r8 (p2.kind == 6)))))))
def Z52 (p0 : TGraph') (p1 : List TEntry) (p2 : TEvent) (r3 : TEvent × Bool) (r6 : Int) (r8 : Int) (x11 : Bool) : Option Int := cond x11 (some 7) (cond (p2.kind == 1) (some 0) (cond r3.2 (cond (p2.kind == 2) (Z51 p0 p1 p2 r6 r8 (p2.key == p2.author)) (Z51 p0 p1 p2 r6 r8 false)) (some 10)))
def Z33 (p0 : TGraph') (p1 : List TEntry) (p2 : TEvent) : Option Int := (Zg p0 p1 1 0).bind fun r3 => (Z58 p0 p1 p2.author).bind fun r6 => (Z39 p0 p1 p2.author).bind fun r8 => cond (p2.kind == 1) (Z52 p0 p1 p2 r3 r6 r8 r3.2) (Z52 p0 p1 p2 r3 r6 r8 false)
set_option maxHeartbeats 1000000 in
theorem Zbn (p0 : TGraph') (p1 : List TEntry) (p2 : TEvent) (r : Int) (h : Z33 p0 p1 p2 = some r) : Ok Tryz.prog 142 [C.agg [C.int p0.room, C.im kEvent 9 p0.events, C.im kEvent 9 p0.parked], C.im kEntry 3 p1, C.agg [C.int p2.id, C.int p2.room, C.int p2.author, C.int p2.kind, C.int p2.key, C.int p2.n, C.str p2.text, C.im kI64 1 p2.prev, C.int p2.time]] [] (fun c qs => c = C.int r ∧ qs = []) := by
 refine Ok.of_body (rs := [.tmp 6]) Tryz.func142 rfl rfl rfl rfl rfl fun X => ?_
 unfold Z33 at h
 refine zz ?_
 refine Ops.h (ns := []) rfl rfl (op_boxA rfl rfl) ?_
 rintro _ _ ⟨b1, rfl, rfl⟩
 refine Ops.h (ns := []) rfl rfl (op_boxA rfl rfl) ?_
 rintro _ _ ⟨b2, rfl, rfl⟩
 refine zz ?_
 refine Ops.v rfl (op_loadA (p := 1) (ds := [C.int p0.room, C.im kEvent 9 p0.events, C.im kEvent 9 p0.parked]) ld_30.h rfl rfl rfl rfl rfl) ?_
 refine zz ?_
 refine ob' h fun r3 g4 h => ?_
 refine Ops.hd (ns := []) rfl rfl (op_callE (Z5q _ _ _ _ _ g4) rfl rfl) ?_
 refine zz ?_
 iterate 2 refine Ops.v rfl (op_extract rfl rfl rfl) ?_
 refine Ops.h (ns := []) rfl rfl (op_alloc (cs := [C.int 0, C.int 0, C.int 0, C.int 0, C.int 0, C.int 0, C.str ByteArray.empty, C.val (.slice none 0 0), C.int 0]) ze_38 (cells_zero rfl rfl) rfl) ?_
 rintro _ _ ⟨b5, rfl, rfl⟩
 refine Ops.hd (ns := [0]) rfl rfl (op_storeA (gs := [C.int r3.1.id, C.int r3.1.room, C.int r3.1.author, C.int r3.1.kind, C.int r3.1.key, C.int r3.1.n, C.str r3.1.text, C.im kI64 1 r3.1.prev, C.int r3.1.time]) ld_38.h rfl rfl rfl rfl rfl) ?_
 refine zz ?_
 refine AW.regionD (L := [0, 3, 5, 8]) (Lt := []) (k := .light 0 true (.light 1 false (.light 2 false (.light 3 true (.light 5 true (.light 6 false (.light 7 false (.light 8 true (.one 4 (.one 9 (.light 10 false (.light 11 false .done)))))))))))) (ns := [0, 0, 0]) (by kernel_rfl) (by kernel_rfl) (by kernel_rfl) (by kernel_rfl) rfl ?_
 refine OpsD.v rfl rfl (op_loadA (p := 2) (ds := [C.int p0.room, C.im kEvent 9 p0.events, C.im kEvent 9 p0.parked]) ld_30.h rfl rfl rfl rfl rfl) ?_
 refine zz ?_
 refine OpsD.v rfl rfl (op_loadA (p := 2) (ds := [C.int p0.room, C.im kEvent 9 p0.events, C.im kEvent 9 p0.parked]) ld_30.h rfl rfl rfl rfl rfl) ?_
 refine zz ?_
 refine ob' h fun r6 g7 h => ?_
 refine StepD.h (ns := []) rfl rfl rfl (op_callE (Zbr _ _ _ _ g7) rfl rfl) ?_
 rintro _ _ ⟨rfl, rfl⟩
 refine zz ?_
 refine ob' h fun r8 g9 h => ?_
 refine StepD.h (ns := []) rfl rfl rfl (op_callE (Zb8 _ _ _ _ g9) rfl rfl) ?_
 rintro _ _ ⟨rfl, rfl⟩
 refine OpsD.v rfl rfl (op_assign rfl rfl) ?_
 refine OpsD.v rfl rfl (op_assign rfl rfl) ?_
 refine OpsD.done ?_
 refine AW.seq ?_
 refine AW.block ?_
 refine AW.seq ?_
 refine AW.cut (τ := Bool) (fun x11 => ⟨[(1, C.im kEntry 3 p1), (3, C.val (.pointer (some ⟨b1, 0, none⟩))), (5, C.val (.pointer (some ⟨b2, 0, none⟩))), (8, C.bool r3.2), (9, C.int r6), (10, C.int r8), (29, C.bool x11)], [Obj.box b1 30 [C.int p0.room, C.im kEvent 9 p0.events, C.im kEvent 9 p0.parked], Obj.box b2 38 [C.int p2.id, C.int p2.room, C.int p2.author, C.int p2.kind, C.int p2.key, C.int p2.n, C.str p2.text, C.im kI64 1 p2.prev, C.int p2.time]]⟩) (fun x11 => Z52 p0 p1 p2 r3 r6 r8 x11 = some r) ?_ ?_
 ·
  refine zz ?_
  refine cnd h (fun hb10 h => ?_) fun hb10 h => ?_
  ·
   refine zz ?_
   exact ⟨r3.2, h, Ghost.both (ns := [2, 1]) rfl rfl⟩
  refine zz ?_
  exact ⟨false, h, Ghost.both (ns := [2, 1]) rfl rfl⟩
 intro x11 h
 replace h : Z52 p0 p1 p2 r3 r6 r8 x11 = some r := h
 unfold Z52 at h
 refine cnd h (fun hb12 h => ?_) fun hb12 h => ?_
 ·
  refine AW.ct hb12 rfl ?_
  refine zz ?_
  refine AW.ret ?_
  rw [← Option.some.inj h]
  exact ⟨[C.int 7], _, Ghost.refl _, (.cons (.tmp rfl) .nil), [], _, _, rfl, ⟨rfl, rfl⟩⟩
 refine AW.cf hb12 rfl ?_
 refine zz ?_
 refine cnd h (fun hb13 h => ?_) fun hb13 h => ?_
 ·
  refine AW.ct hb13 rfl ?_
  refine zz ?_
  refine AW.ret ?_
  rw [← Option.some.inj h]
  exact ⟨[C.int 0], _, Ghost.refl _, (.cons (.tmp rfl) .nil), [], _, _, rfl, ⟨rfl, rfl⟩⟩
 refine AW.cf hb13 rfl ?_
 refine zz ?_
 refine cnd h (fun hb14 h => ?_) fun hb14 h => ?_
 ·
  refine AW.cond rfl (fun hn => absurd ((not_t hb14).symm.trans hn) (by decide)) (fun _ => ?_)
  refine AW.seq ?_
  refine AW.cut (τ := Bool) (fun x16 => ⟨[(1, C.im kEntry 3 p1), (3, C.val (.pointer (some ⟨b1, 0, none⟩))), (5, C.val (.pointer (some ⟨b2, 0, none⟩))), (9, C.int r6), (10, C.int r8), (43, C.bool x16)], [Obj.box b1 30 [C.int p0.room, C.im kEvent 9 p0.events, C.im kEvent 9 p0.parked], Obj.box b2 38 [C.int p2.id, C.int p2.room, C.int p2.author, C.int p2.kind, C.int p2.key, C.int p2.n, C.str p2.text, C.im kI64 1 p2.prev, C.int p2.time]]⟩) (fun x16 => Z51 p0 p1 p2 r6 r8 x16 = some r) ?_ ?_
  ·
   refine zz ?_
   refine cnd h (fun hb15 h => ?_) fun hb15 h => ?_
   ·
    refine zz ?_
    exact ⟨(p2.key == p2.author), h, Ghost.both (ns := [0, 0]) rfl rfl⟩
   refine zz ?_
   exact ⟨false, h, Ghost.both (ns := [0, 0]) rfl rfl⟩
  intro x16 h
  replace h : Z51 p0 p1 p2 r6 r8 x16 = some r := h
  unfold Z51 at h
  refine cnd h (fun hb17 h => ?_) fun hb17 h => ?_
  ·
   refine AW.ct hb17 rfl ?_
   refine zz ?_
   refine Ops.v rfl (op_loadA (p := 0) (ds := [C.int p0.room, C.im kEvent 9 p0.events, C.im kEvent 9 p0.parked]) ld_30.h rfl rfl rfl rfl rfl) ?_
   refine zz ?_
   refine Ops.v rfl (op_loadA (p := 1) (ds := [C.int p2.id, C.int p2.room, C.int p2.author, C.int p2.kind, C.int p2.key, C.int p2.n, C.str p2.text, C.im kI64 1 p2.prev, C.int p2.time]) ld_38.h rfl rfl rfl rfl rfl) ?_
   refine zz ?_
   refine ob' h fun r18 g19 h => ?_
   refine Ops.hd (ns := []) rfl rfl (op_callE (Zcu _ _ _ _ _ g19) rfl rfl) ?_
   refine zz ?_
   refine AW.ret ?_
   rw [← Option.some.inj h]
   exact ⟨[C.int r18], _, Ghost.refl _, (.cons (.tmp rfl) .nil), [], _, _, rfl, ⟨rfl, rfl⟩⟩
  refine AW.cf hb17 rfl ?_
  refine zz ?_
  refine cnd h (fun hb20 h => ?_) fun hb20 h => ?_
  ·
   refine AW.ct hb20 rfl ?_
   refine zz ?_
   refine AW.ret ?_
   rw [← Option.some.inj h]
   exact ⟨[C.int 11], _, Ghost.refl _, (.cons (.tmp rfl) .nil), [], _, _, rfl, ⟨rfl, rfl⟩⟩
  refine AW.cf hb20 rfl ?_
  refine zz ?_
  refine cnd h (fun hb21 h => ?_) fun hb21 h => ?_
  ·
   refine AW.ct hb21 rfl ?_
   refine zz ?_
   refine Ops.v rfl (op_loadA (p := 0) (ds := [C.int p0.room, C.im kEvent 9 p0.events, C.im kEvent 9 p0.parked]) ld_30.h rfl rfl rfl rfl rfl) ?_
   refine zz ?_
   refine Ops.v rfl (op_loadA (p := 1) (ds := [C.int p2.id, C.int p2.room, C.int p2.author, C.int p2.kind, C.int p2.key, C.int p2.n, C.str p2.text, C.im kI64 1 p2.prev, C.int p2.time]) ld_38.h rfl rfl rfl rfl rfl) ?_
   refine zz ?_
   refine ob' h fun r22 g23 h => ?_
   refine Ops.hd (ns := []) rfl rfl (op_callE (Zct _ _ _ _ _ g23) rfl rfl) ?_
   refine zz ?_
   refine AW.ret ?_
   rw [← Option.some.inj h]
   exact ⟨[C.int r22], _, Ghost.refl _, (.cons (.tmp rfl) .nil), [], _, _, rfl, ⟨rfl, rfl⟩⟩
  refine AW.cf hb21 rfl ?_
  refine zz ?_
  refine cnd h (fun hb24 h => ?_) fun hb24 h => ?_
  ·
   refine AW.ct hb24 rfl ?_
   refine AW.seq ?_
   refine AW.cut (τ := Int) (fun x38 => ⟨[(6, C.int x38)], []⟩) (fun x38 => Z1f x38 = some r) ?_ ?_
   ·
    refine zz ?_
    refine cnd h (fun hb25 h => ?_) fun hb25 h => ?_
    ·
     refine zz ?_
     refine ob' h fun r26 g27 h => ?_
     refine Ops.hd (ns := []) rfl rfl (op_callE (Z5 _ _ g27) rfl rfl) ?_
     refine zz ?_
     exact ⟨r26, h, Ghost.both (ns := []) rfl rfl⟩
    refine zz ?_
    refine cnd h (fun hb28 h => ?_) fun hb28 h => ?_
    ·
     refine zz ?_
     refine ob' h fun r29 g30 h => ?_
     refine Ops.hd (ns := []) rfl rfl (op_callE (Z5 _ _ g30) rfl rfl) ?_
     refine zz ?_
     exact ⟨r29, h, Ghost.both (ns := []) rfl rfl⟩
    refine zz ?_
    refine cnd h (fun hb31 h => ?_) fun hb31 h => ?_
    ·
     refine Ops.gv rfl rfl rfl rfl hb31 (op_loadA (p := 0) (ds := [C.int p0.room, C.im kEvent 9 p0.events, C.im kEvent 9 p0.parked]) ld_30.h rfl rfl rfl rfl rfl) ?_
     refine zz ?_
     refine ob' h fun r32 g33 h => ?_
     refine Ops.ghd (ns := []) rfl rfl rfl rfl hb31 rfl (op_callE (Zb8 _ _ _ _ g33) rfl rfl) ?_
     refine zz ?_
     refine ob' h fun r34 g35 h => ?_
     refine Ops.hd (ns := []) rfl rfl (op_callE (Z5 _ _ g35) rfl rfl) ?_
     refine zz ?_
     exact ⟨r34, h, Ghost.both (ns := []) rfl rfl⟩
    refine zz ?_
    refine ob' h fun r36 g37 h => ?_
    refine Ops.hd (ns := []) rfl rfl (op_callE (Z5 _ _ g37) rfl rfl) ?_
    refine zz ?_
    exact ⟨r36, h, Ghost.both (ns := []) rfl rfl⟩
   intro x38 h
   replace h : Z1f x38 = some r := h
   unfold Z1f at h
   refine AW.ret ?_
   rw [← Option.some.inj h]
   exact ⟨[C.int x38], _, Ghost.refl _, (.cons (.tmp rfl) .nil), [], _, _, rfl, ⟨rfl, rfl⟩⟩
  refine AW.cf hb24 rfl ?_
  refine AW.seq ?_
  refine AW.cut (τ := Bool) (fun x41 => ⟨[(3, C.val (.pointer (some ⟨b1, 0, none⟩))), (5, C.val (.pointer (some ⟨b2, 0, none⟩))), (10, C.int r8), (63, C.int p2.kind), (98, C.bool x41)], [Obj.box b1 30 [C.int p0.room, C.im kEvent 9 p0.events, C.im kEvent 9 p0.parked], Obj.box b2 38 [C.int p2.id, C.int p2.room, C.int p2.author, C.int p2.kind, C.int p2.key, C.int p2.n, C.str p2.text, C.im kI64 1 p2.prev, C.int p2.time]]⟩) (fun x41 => Z35 p0 p2 r8 x41 = some r) ?_ ?_
  ·
   refine zz ?_
   refine cnd h (fun hb39 h => ?_) fun hb39 h => ?_
   ·
    refine AW.ct hb39 rfl ?_
    refine zz ?_
    exact ⟨(p2.kind == 4), h, Ghost.both (ns := [0, 0]) rfl rfl⟩
   refine AW.cf hb39 rfl ?_
   refine zz ?_
   refine cnd h (fun hb40 h => ?_) fun hb40 h => ?_
   ·
    refine AW.ct hb40 rfl ?_
    refine zz ?_
    exact ⟨(p2.kind == 5), h, Ghost.both (ns := [0, 0]) rfl rfl⟩
   refine AW.cf hb40 rfl ?_
   refine zz ?_
   exact ⟨(p2.kind == 6), h, Ghost.both (ns := [0, 0]) rfl rfl⟩
  intro x41 h
  replace h : Z35 p0 p2 r8 x41 = some r := h
  unfold Z35 at h
  refine cnd h (fun hb42 h => ?_) fun hb42 h => ?_
  ·
   refine AW.ct hb42 rfl ?_
   refine zz ?_
   refine ob' h fun r43 g44 h => ?_
   refine Ops.hd (ns := []) rfl rfl (op_callE (Z5 _ _ g44) rfl rfl) ?_
   refine zz ?_
   refine AW.ret ?_
   rw [← Option.some.inj h]
   exact ⟨[C.int r43], _, Ghost.refl _, (.cons (.tmp rfl) .nil), [], _, _, rfl, ⟨rfl, rfl⟩⟩
  refine AW.cf hb42 rfl ?_
  refine zz ?_
  refine cnd h (fun hb45 h => ?_) fun hb45 h => ?_
  ·
   refine AW.ct hb45 rfl ?_
   refine zz ?_
   refine Ops.v rfl (op_loadA (p := 0) (ds := [C.int p0.room, C.im kEvent 9 p0.events, C.im kEvent 9 p0.parked]) ld_30.h rfl rfl rfl rfl rfl) ?_
   refine zz ?_
   refine ob' h fun r46 g47 h => ?_
   refine Ops.hd (ns := []) rfl rfl (op_callE (Z3n _ _ _ g47) rfl rfl) ?_
   refine zz ?_
   iterate 2 refine Ops.v rfl (op_extract rfl rfl rfl) ?_
   refine Ops.h (ns := []) rfl rfl (op_alloc (cs := [C.int 0, C.int 0, C.int 0, C.int 0, C.int 0, C.int 0, C.str ByteArray.empty, C.val (.slice none 0 0), C.int 0]) ze_38 (cells_zero rfl rfl) rfl) ?_
   rintro _ _ ⟨b48, rfl, rfl⟩
   refine Ops.hd (ns := [0]) rfl rfl (op_storeA (gs := [C.int r46.1.id, C.int r46.1.room, C.int r46.1.author, C.int r46.1.kind, C.int r46.1.key, C.int r46.1.n, C.str r46.1.text, C.im kI64 1 r46.1.prev, C.int r46.1.time]) ld_38.h rfl rfl rfl rfl rfl) ?_
   refine zz ?_
   refine cnd h (fun hb49 h => ?_) fun hb49 h => ?_
   ·
    refine AW.cond rfl (fun hn => absurd ((not_t hb49).symm.trans hn) (by decide)) (fun _ => ?_)
    refine AW.skip ?_
    refine AW.seq ?_
    refine AW.cut (τ := Int) (fun x55 => ⟨[(6, C.int x55)], []⟩) (fun x55 => Z50 x55 = some r) ?_ ?_
    ·
     refine zz ?_
     refine cnd h (fun hb50 h => ?_) fun hb50 h => ?_
     ·
      refine zz ?_
      refine ob' h fun r51 g52 h => ?_
      refine Ops.hd (ns := []) rfl rfl (op_callE (Z5 _ _ g52) rfl rfl) ?_
      refine zz ?_
      exact ⟨r51, h, Ghost.both (ns := []) rfl rfl⟩
     refine zz ?_
     refine ob' h fun r53 g54 h => ?_
     refine Ops.hd (ns := []) rfl rfl (op_callE (Z5 _ _ g54) rfl rfl) ?_
     refine zz ?_
     exact ⟨r53, h, Ghost.both (ns := []) rfl rfl⟩
    intro x55 h
    replace h : Z50 x55 = some r := h
    unfold Z50 at h
    refine AW.ret ?_
    rw [← Option.some.inj h]
    exact ⟨[C.int x55], _, Ghost.refl _, (.cons (.tmp rfl) .nil), [], _, _, rfl, ⟨rfl, rfl⟩⟩
   refine AW.cond rfl (fun _ => ?_) (fun hn => absurd ((not_f hb49).symm.trans hn) (by decide))
   refine zz ?_
   refine AW.ret ?_
   rw [← Option.some.inj h]
   exact ⟨[C.int 6], _, Ghost.refl _, (.cons (.tmp rfl) .nil), [], _, _, rfl, ⟨rfl, rfl⟩⟩
  refine AW.cf hb45 rfl ?_
  refine zz ?_
  refine AW.ret ?_
  rw [← Option.some.inj h]
  exact ⟨[C.int 0], _, Ghost.refl _, (.cons (.tmp rfl) .nil), [], _, _, rfl, ⟨rfl, rfl⟩⟩
 refine AW.cond rfl (fun _ => ?_) (fun hn => absurd ((not_f hb14).symm.trans hn) (by decide))
 refine zz ?_
 refine AW.ret ?_
 rw [← Option.some.inj h]
 exact ⟨[C.int 10], _, Ghost.refl _, (.cons (.tmp rfl) .nil), [], _, _, rfl, ⟨rfl, rfl⟩⟩

def Za8 (p0 : List TEntry) : Option (List TEntry) := (chk (decide (p0.length * 24 ≤ 140737488355328))).bind fun _ => some p0
theorem Zdj (p0 : List TEntry) (r : List TEntry) (h : Za8 p0 = some r) : Ok Tryz.prog 87 [C.im kEntry 3 p0] [] (fun c qs => ∃ (v : Value), c = C.val v ∧ qs = [Obj.arr v 99 kEntry 3 r]) := by
 refine ob' h fun u hc h => ?_
 obtain rfl := Option.some.inj h
 have hc := of_decide_eq_true (chk_some hc)
 refine Ok.of_body (rs := [.tmp 2]) Tryz.func87 rfl rfl rfl rfl rfl fun X => ?_
 refine zz ?_
 refine Ops.h (ns := []) rfl rfl (op_nil_im sl_49.h rfl rfl) ?_
 rintro _ _ ⟨b, hb, rfl, rfl⟩
 refine zz ?_
 refine tf' b (fun hq => ?_) (fun hq => ?_)
 ·
  refine AW.cond rfl (fun _ => ?_) (fun hn => absurd (hq.symm.trans hn) (by decide))
  refine zz ?_
  refine AW.ret ?_
  obtain rfl := hb hq
  exact ⟨[C.val (.slice none 0 0)], _, Ghost.nil 99 kEntry 3, .cons (.tmp rfl) .nil, [0], _, _, rfl, ⟨_, rfl, rfl⟩⟩
 refine AW.cond rfl (fun hn => absurd (hq.symm.trans hn) (by decide)) (fun _ => ?_)
 refine zz ?_
 refine Ops.h (ns := []) rfl rfl (op_buildSlice (k := kEntry) (ys := ([] : List TEntry)) ar_49 .nil rfl rfl rfl) ?_
 rintro _ _ ⟨b1, rfl, rfl⟩
 refine zz ?_
 refine Ops.h (ns := [0]) rfl rfl (op_append_im ar_49 rfl rfl (by simpa using hc) (by simp; omega) rfl) ?_
 rintro _ _ ⟨v, rfl, rfl⟩
 refine zz ?_
 refine AW.ret ?_
 exact ⟨[C.val v], _, Ghost.refl _, .cons (.tmp rfl) .nil, [0], _, _, rfl, ⟨v, rfl, rfl⟩⟩
def Zcd (p0 : List TEntry) (p1 : Int) (p2 : Int) : Option (List TEntry) := delI p0 p1 p2
set_option maxHeartbeats 1000000 in
theorem Zdr {w1 : Value} (p0 : List TEntry) (p1 : Int) (p2 : Int) (r : List TEntry) (h : Zcd p0 p1 p2 = some r) : Ok Tryz.prog 189 [C.val w1, C.int p1, C.int p2] [Obj.arr w1 99 kEntry 3 p0] (fun c qs => ∃ (v : Value), c = C.val v ∧ qs = [Obj.arr v 99 kEntry 3 r]) := by
 obtain ⟨a, b, rfl, rfl, hij, hj, rfl⟩ := delI_some h
 refine Ok.of_body (rs := [.tmp 6]) Tryz.func189 rfl rfl rfl rfl rfl fun X => ?_
 refine AW.learn (Sim.arr_cap (p := 0) rfl) fun hw => ?_
 obtain ⟨A, cap, rfl, hc, _, _⟩ := hw
 refine zz ?_
 refine Ops.v rfl (op_len_arr (p := 0) sl_49.h rfl rfl rfl) ?_
 refine Ops.v rfl (op_slice_arr_3 (p := 0) sl_49.h rfl rfl rfl rfl rfl hij hj rfl) ?_
 refine zz ?_
 refine tf' (((a : Nat) : Int) == ((b : Nat) : Int)) (fun hq => ?_) (fun hq => ?_)
 ·
  refine AW.cond rfl (fun _ => ?_) (fun hn => absurd (hq.symm.trans hn) (by decide))
  refine zz ?_
  refine AW.ret ?_
  obtain rfl : a = b := by have := eq_of_beq hq; omega
  rw [List.take_append_drop]
  exact ⟨[C.val (.slice A p0.length cap)], _, Ghost.refl _, .cons (.tmp rfl) .nil, [0], _, _, rfl, ⟨_, rfl, rfl⟩⟩
 refine AW.cond rfl (fun hn => absurd (hq.symm.trans hn) (by decide)) (fun _ => ?_)
 refine zz ?_
 refine Ops.v rfl (op_len_arr (p := 0) sl_49.h rfl rfl rfl) ?_
 refine zz ?_
 refine AW.regionD (L := []) (Lt := []) (k := .light 0 false (.light 1 false (.light 2 false (.light 3 false (.light 4 false (.light 5 false (.one 6 (.light 7 false .done)))))))) (ns := []) (by kernel_rfl) (by kernel_rfl) (by kernel_rfl) (by kernel_rfl) rfl ?_
 refine zz ?_
 refine OpsD.v rfl rfl (op_slice_val_h sl_49.h rfl rfl (by omega) hc rfl) ?_
 refine zz ?_
 refine OpsD.v rfl rfl (op_slice_val_l sl_49.h rfl rfl hj hc rfl) ?_
 refine OpsD.one ?_
 refine StepD.h (ns := [0]) rfl rfl rfl (op_append_self (v := .slice A p0.length cap) ar_49 rfl rfl hij hj rfl) ?_
 rintro _ _ ⟨rfl, rfl⟩
 refine zz ?_
 refine Ops.v rfl (op_len_val sl_49.h rfl rfl) ?_
 refine zz ?_
 refine Ops.v rfl (op_slice_takeV (p := 0) (h := p0.length) (v := .slice A p0.length cap) (l := a + (p0.length - b)) sl_49.h rfl rfl rfl rfl (by omega) (by simp; omega) rfl) ?_
 refine Ops.h (ns := [0]) rfl rfl (op_clear_dropV (v := .slice A p0.length cap) (l := a + (p0.length - b)) (z := (TEntry.mk 0 0 0)) ar_49 ze_99 (cells_zero rfl rfl) rfl (by simp <;> omega)) ?_
 rintro _ _ ⟨rfl, rfl⟩
 refine zz ?_
 refine AW.ret ?_
 exact ⟨[C.val (takeV (.slice A p0.length cap) (a + (p0.length - b)))], _, Ghost.prefix (p := 0) (h := a + (p0.length - b)) rfl (by simp; omega), .cons (.tmp rfl) .nil, [0], _, _, rfl, ⟨_, rfl, by rw [del_take hij hj]⟩⟩
def Zbj (p0 : List TEntry) (p1 : Int) (p2 : List TEntry) : Option (List TEntry) := insI 24 p0 p1 p2
set_option maxHeartbeats 1000000 in
theorem Zdz {w1 w2 : Value} (p0 : List TEntry) (p1 : Int) (p2 : List TEntry) (r : List TEntry) (h : Zbj p0 p1 p2 = some r) : Ok Tryz.prog 190 [C.val w1, C.int p1, C.val w2] [Obj.arr w1 99 kEntry 3 p0, Obj.arr w2 99 kEntry 3 p2] (fun c qs => ∃ (v : Value), c = C.val v ∧ qs = [Obj.arr v 99 kEntry 3 r]) := by
 obtain ⟨i, rfl, hi, hm, hb, rfl⟩ := insI_some h
 refine Ok.of_body (rs := [.tmp 6]) Tryz.func190 rfl rfl rfl rfl rfl fun X => ?_
 refine AW.learn (Sim.arr_cap (p := 0) rfl) fun hw => ?_
 obtain ⟨A, cap, rfl, hc, hmax, hA⟩ := hw
 have hmax0 := hmax
 simp only [maxLen] at hmax
 refine zz ?_
 refine Ops.v rfl (op_slice_any_l sl_49.h rfl rfl hi hc rfl) ?_
 refine zz ?_
 refine Ops.v rfl (op_len_arr (p := 1) sl_49.h rfl rfl rfl) ?_
 refine zz ?_
 refine AW.cond rfl (fun hn => absurd ((beq_false_of_ne (by omega)).symm.trans hn) (by decide)) (fun _ => ?_)
 refine zz ?_
 refine Ops.v rfl (op_len_arr (p := 0) sl_49.h rfl rfl rfl) ?_
 refine zz ?_
 refine tf' (((i : Nat) : Int) == (p0.length : Int)) (fun hq => ?_) (fun hq => ?_)
 ·
  refine AW.cond rfl (fun _ => ?_) (fun hn => absurd (hq.symm.trans hn) (by decide))
  refine zz ?_
  refine Ops.h (ns := [0, 0]) rfl rfl (op_append ar_49 rfl rfl hb (by omega) rfl) ?_
  rintro _ _ ⟨v, rfl, rfl⟩
  refine zz ?_
  refine AW.ret ?_
  obtain rfl : i = p0.length := by have := eq_of_beq hq; omega
  rw [List.take_of_length_le (Nat.le_refl _), List.drop_of_length_le (Nat.le_refl _), List.append_nil]
  exact ⟨[C.val v], _, Ghost.refl _, .cons (.tmp rfl) .nil, [0], _, _, rfl, ⟨v, rfl, rfl⟩⟩
 have hlt : i < p0.length := by have := ne_of_beq_false hq; omega
 obtain ⟨b, rfl⟩ := hA.resolve_left (fun e => by rw [e.1] at hlt; exact absurd hlt (Nat.not_lt_zero _))
 refine AW.ghost (Ghost.raw (p := 0) rfl) ?_
 rw [← vw_zero b 3 p0.length cap]
 refine AW.cond rfl (fun hn => absurd (hq.symm.trans hn) (by decide)) (fun _ => ?_)
 refine AW.skip ?_
 refine AW.seq ?_
 refine AW.seq ?_
 refine AW.region ?_
 refine Ops.v rfl (op_move rfl rfl) ?_
 refine Ops.v rfl (op_move rfl rfl) ?_
 refine Ops.v rfl (op_bin (r := .int .i64 ((p0.length + p2.length : Nat) : Int)) rfl rfl (binC_add (by omega) (by omega)) rfl) ?_
 refine zz ?_
 refine Ops.v rfl (op_cap_val sl_49.h rfl rfl) ?_
 refine zz ?_
 refine tf' (decide (((p0.length + p2.length : Nat) : Int) > (cap : Int))) (fun hg => ?_) (fun hg => ?_)
 ·
  have hg1 := of_decide_eq_true hg
  refine AW.cond rfl (fun _ => ?_) (fun hn => absurd (hg.symm.trans hn) (by decide))
  refine zz ?_
  refine Ops.v rfl (op_slice_vw_h sl_49.h rfl rfl (by omega) (by omega) rfl) ?_
  refine Ops.v rfl (op_move rfl rfl) ?_
  refine Ops.v rfl (op_move rfl rfl) ?_
  refine Ops.v rfl (op_bin (r := .int .i64 ((p0.length + p2.length : Nat) : Int)) rfl rfl (binC_add (by omega) (by omega)) rfl) ?_
  refine Ops.v rfl (op_move rfl rfl) ?_
  refine Ops.v rfl (op_bin (r := .int .i64 ((p0.length + p2.length - i : Nat) : Int)) rfl rfl (binC_sub (by omega) (by omega)) rfl) ?_
  refine Ops.h (ns := [0]) rfl rfl (op_append_make' (N := p0.length + p2.length) (k := kEntry) (z0 := (TEntry.mk 0 0 0)) ar_49 un_3 ze_99 (cells_zero rfl rfl) rfl rfl (xs := p0.take i) (by rw [List.drop_zero, List.take_append_of_le_length (by simp; omega), List.map_take]) (by simp; omega) (by omega) (by omega) (by omega) hb (by decide) rfl) ?_
  rintro _ _ ⟨b2, c2, hc2, hm2, rfl, rfl⟩
  refine zz ?_
  refine Ops.v rfl (op_slice_vw_l' (o' := i) (l' := p0.length + p2.length - i) (c' := c2 - i) sl_49.h rfl rfl (by omega) (by omega) (by omega) (by omega) (by omega) (by omega) rfl) ?_
  refine zz ?_
  refine Ops.h (ns := [0, 1]) rfl rfl (op_copy_arr (xs := p2) sl_49.h rfl rfl (by rw [List.take_of_length_le (by omega)]) (by simp; omega) rfl) ?_
  rintro _ _ ⟨rfl, rfl⟩
  refine zz ?_
  refine AW.regionD (L := []) (Lt := []) (k := .light 0 false (.light 1 false (.light 2 false (.light 3 false (.light 4 false (.light 5 false (.light 6 false (.light 7 false (.one 8 (.done)))))))))) (ns := []) (by kernel_rfl) (by kernel_rfl) (by kernel_rfl) (by kernel_rfl) rfl ?_
  refine OpsD.v rfl rfl (op_move rfl rfl) ?_
  refine OpsD.v rfl rfl (op_move rfl rfl) ?_
  refine OpsD.v rfl rfl (op_move rfl rfl) ?_
  refine OpsD.v rfl rfl (op_bin (r := .int .i64 ((i + p2.length : Nat) : Int)) rfl rfl (binC_add (by omega) (by omega)) rfl) ?_
  refine OpsD.v rfl rfl (op_slice_vw_l' (o' := i + p2.length) (l' := p0.length - i) (c' := c2 - (i + p2.length)) sl_49.h rfl rfl (by omega) (by omega) (by omega) (by omega) (by omega) (by omega) rfl) ?_
  refine zz ?_
  refine OpsD.v rfl rfl (op_slice_vw_l' (o' := i) (l' := p0.length - i) (c' := cap - i) sl_49.h rfl rfl (by omega) (by omega) (by omega) (by omega) (by omega) (by omega) rfl) ?_
  refine OpsD.one ?_
  refine StepD.h (ns := [0, 1]) rfl rfl rfl (op_copy_raw (xs := p0.drop i) sl_49.h rfl rfl (by rw [nmin_self, List.drop_append_of_le_length (by simp; omega), List.take_append_of_le_length (by simp), List.take_of_length_le (by simp), List.map_drop]) (by rw [nmin_self]; simp) (by simp; omega) rfl) ?_
  rintro _ _ ⟨rfl, rfl⟩
  refine zz ?_
  refine AW.ret ?_
  obtain ⟨q1, q2, q3, q4⟩ := ins_grow (xs := p0) (ys := p2) (z := (TEntry.mk 0 0 0)) (m := p2.length) hlt hc2 rfl _ _ rfl rfl
  exact ⟨[C.val _], _, Ghost.arr2 (p := 0) (m := p0.length + p2.length) rfl q1 (by omega) q2 (by omega) (vw_zero _ _ _ _), .cons (.tmp rfl) .nil, [0], _, _, rfl, ⟨_, rfl, rfl⟩⟩
 have hg1 := of_decide_eq_false hg
 refine AW.cond rfl (fun hn => absurd (hg.symm.trans hn) (by decide)) (fun _ => ?_)
 refine AW.skip ?_
 refine AW.seq ?_
 refine AW.region ?_
 refine Ops.v rfl (op_move rfl rfl) ?_
 refine Ops.v rfl (op_move rfl rfl) ?_
 refine Ops.v rfl (op_move rfl rfl) ?_
 refine Ops.v rfl (op_bin (r := .int .i64 ((p0.length + p2.length : Nat) : Int)) rfl rfl (binC_add (by omega) (by omega)) rfl) ?_
 refine Ops.v rfl (op_slice_vw_h sl_49.h rfl rfl (by omega) (by omega) rfl) ?_
 refine Ops.v rfl (op_assign rfl rfl) ?_
 refine Ops.nil ?_
 refine AW.seq ?_
 refine AW.seq ?_
 refine AW.region ?_
 refine Ops.v rfl (op_move rfl rfl) ?_
 refine Ops.v rfl (op_move rfl rfl) ?_
 refine Ops.v rfl (op_move rfl rfl) ?_
 refine Ops.v rfl (op_move rfl rfl) ?_
 refine Ops.v rfl (op_bin (r := .int .i64 ((i + p2.length : Nat) : Int)) rfl rfl (binC_add (by omega) (by omega)) rfl) ?_
 refine Ops.v rfl (op_slice_vw_l' (o' := i + p2.length) (l' := p0.length - i) (c' := cap - (i + p2.length)) sl_49.h rfl rfl (by omega) (by omega) (by omega) (by omega) (by omega) (by omega) rfl) ?_
 refine Ops.h (ns := [0, 0]) rfl rfl (op_overlaps (tR := 4) (k := kEntry) (zs := p2) (ys := p0.map some ++ List.replicate (cap - p0.length) none) ar_49 Tryz.func213 rfl rfl (by kernel_rfl) (by kernel_rfl) rfl rfl (by intro e; rw [e] at hm; exact absurd hm (by decide)) (by intro e; have := congrArg List.length e; simp at this; omega) rfl) ?_
 rintro _ _ ⟨rfl, rfl⟩
 refine zz ?_
 refine AW.cond rfl (fun _ => ?_) (fun hn => absurd hn (by decide))
 refine zz ?_
 refine AW.regionD (L := []) (Lt := []) (k := .light 0 false (.light 1 false (.light 2 false (.light 3 false (.light 4 false (.light 5 false (.light 6 false (.light 7 false (.one 8 (.done)))))))))) (ns := []) (by kernel_rfl) (by kernel_rfl) (by kernel_rfl) (by kernel_rfl) rfl ?_
 refine OpsD.v rfl rfl (op_move rfl rfl) ?_
 refine OpsD.v rfl rfl (op_move rfl rfl) ?_
 refine OpsD.v rfl rfl (op_move rfl rfl) ?_
 refine OpsD.v rfl rfl (op_bin (r := .int .i64 ((i + p2.length : Nat) : Int)) rfl rfl (binC_add (by omega) (by omega)) rfl) ?_
 refine OpsD.v rfl rfl (op_slice_vw_l' (o' := i + p2.length) (l' := p0.length - i) (c' := cap - (i + p2.length)) sl_49.h rfl rfl (by omega) (by omega) (by omega) (by omega) (by omega) (by omega) rfl) ?_
 refine zz ?_
 refine OpsD.v rfl rfl (op_slice_vw_l' (o' := i) (l' := p0.length + p2.length - i) (c' := cap - i) sl_49.h rfl rfl (by omega) (by omega) (by omega) (by omega) (by omega) (by omega) rfl) ?_
 refine OpsD.one ?_
 refine StepD.h (ns := [0]) rfl rfl rfl (op_copy_self (xs := p0.drop i) sl_49.h rfl rfl (by rw [nmin_right (by omega), List.drop_append_of_le_length (by simp; omega), List.take_append_of_le_length (by simp), List.take_of_length_le (by simp), List.map_drop]) (by rw [nmin_right (by omega)]; simp) (by simp; omega) rfl) ?_
 rintro _ _ ⟨rfl, rfl⟩
 refine zz ?_
 refine Ops.v rfl (op_slice_vw_l' (o' := i) (l' := p0.length + p2.length - i) (c' := cap - i) sl_49.h rfl rfl (by omega) (by omega) (by omega) (by omega) (by omega) (by omega) rfl) ?_
 refine zz ?_
 refine Ops.h (ns := [0, 0]) rfl rfl (op_copy_arr (xs := p2) sl_49.h rfl rfl (by rw [List.take_of_length_le (by omega)]) (by simp; omega) rfl) ?_
 rintro _ _ ⟨rfl, rfl⟩
 refine zz ?_
 refine AW.ret ?_
 obtain ⟨q1, q2, q3, q4⟩ := ins_room (xs := p0) (ys := p2) (m := p2.length) (c := cap) hlt (by omega) rfl _ _ rfl rfl
 exact ⟨[C.val _], _, Ghost.arr2 (p := 0) (m := p0.length + p2.length) (c := cap) rfl q1 (by omega) q2 hmax0 (vw_zero _ _ _ _), .cons (.tmp rfl) .nil, [0], _, _, rfl, ⟨_, rfl, rfl⟩⟩
def Z5m (p1 : TEntry) (r2 : List TEntry) (r5 : Int × Bool) (x8 : Bool) : Option (List TEntry) := cond x8 ((Zcd r2 r5.1 (IntKind.i64.wrap (r5.1 + 1))).bind fun r10 => some r10) (cond (p1.id == 0) (some r2) (cond r5.2 ((getI r2 r5.1).bind fun e15 => some (List.set r2 (Int.toNat r5.1) p1)) ((Zbj r2 r5.1 [p1]).bind fun r18 => some r18)))
def Z3h (p0 : List TEntry) (p1 : TEntry) : Option (List TEntry) := (Za8 p0).bind fun r2 => (Z5l r2 p1).bind fun r5 => cond (p1.id == 0) (Z5m p1 r2 r5 r5.2) (Z5m p1 r2 r5 false)
theorem Za4 (p0 : List TEntry) (p1 : TEntry) (r : List TEntry) (h : Z3h p0 p1 = some r) : Ok Tryz.prog 143 [C.im kEntry 3 p0, C.agg [C.int p1.kind, C.int p1.key, C.int p1.id]] [] (fun c qs => ∃ (v21 : Value), c = C.val v21 ∧ qs = [Obj.arr v21 99 kEntry 3 r]) := by
 refine Ok.of_body (rs := [.tmp 4]) Tryz.func143 rfl rfl rfl rfl rfl fun X => ?_
 unfold Z3h at h
 refine zz ?_
 refine Ops.h (ns := []) rfl rfl (op_boxA rfl rfl) ?_
 rintro _ _ ⟨b1, rfl, rfl⟩
 refine zz ?_
 refine ob' h fun r2 g3 h => ?_
 refine Ops.h (ns := []) rfl rfl (op_call (Zdj _ _ g3) rfl rfl) ?_
 rintro _ _ ⟨_, ⟨v4, rfl, rfl⟩, rfl⟩
 refine zz ?_
 refine Ops.v rfl (op_loadA (p := 1) (ds := [C.int p1.kind, C.int p1.key, C.int p1.id]) ld_99.h rfl rfl rfl rfl rfl) ?_
 refine ob' h fun r5 g6 h => ?_
 refine Ops.hd (ns := [0]) rfl rfl (op_callE (Ok.lendE (Zbz r2 p1 _ g6) (FrzT.cons (os := [_]) Frz.arr (FrzT.cons (os := []) (Frz.same _) (FrzT.nil))) (PlainC.tup (PlainCs.cons (PlainC.val _) (PlainCs.cons (PlainC.val _) (PlainCs.nil))))) rfl rfl) ?_
 refine zz ?_
 iterate 2 refine Ops.v rfl (op_extract rfl rfl rfl) ?_
 refine Ops.v rfl (op_assign rfl rfl) ?_
 refine Ops.v rfl (op_assign rfl rfl) ?_
 refine Ops.nil ?_
 refine AW.seq ?_
 refine AW.block ?_
 refine AW.seq ?_
 refine AW.cut (τ := Bool) (fun x8 => ⟨[(3, C.val (.pointer (some ⟨b1, 0, none⟩))), (5, C.val v4), (6, C.int r5.1), (7, C.bool r5.2), (16, C.bool x8)], [Obj.box b1 99 [C.int p1.kind, C.int p1.key, C.int p1.id], Obj.arr v4 99 kEntry 3 r2]⟩) (fun x8 => Z5m p1 r2 r5 x8 = some r) ?_ ?_
 ·
  refine zz ?_
  refine cnd h (fun hb7 h => ?_) fun hb7 h => ?_
  ·
   refine zz ?_
   exact ⟨r5.2, h, Ghost.both (ns := [1, 0]) rfl rfl⟩
  refine zz ?_
  exact ⟨false, h, Ghost.both (ns := [1, 0]) rfl rfl⟩
 intro x8 h
 replace h : Z5m p1 r2 r5 x8 = some r := h
 unfold Z5m at h
 refine cnd h (fun hb9 h => ?_) fun hb9 h => ?_
 ·
  refine AW.ct hb9 rfl ?_
  refine zz ?_
  refine ob' h fun r10 g11 h => ?_
  refine Ops.h (ns := [1]) rfl rfl (op_call (Zdr r2 r5.1 (IntKind.i64.wrap (r5.1 + 1)) _ g11) rfl rfl) ?_
  rintro _ _ ⟨_, ⟨v12, rfl, rfl⟩, rfl⟩
  refine zz ?_
  refine AW.ret ?_
  rw [← Option.some.inj h]
  exact ⟨[C.val v12], _, Ghost.refl _, (.cons (.tmp rfl) .nil), [0], _, _, rfl, ⟨v12, rfl, rfl⟩⟩
 refine AW.cf hb9 rfl ?_
 refine zz ?_
 refine cnd h (fun hb13 h => ?_) fun hb13 h => ?_
 ·
  refine AW.ct hb13 rfl ?_
  refine zz ?_
  refine AW.ret ?_
  rw [← Option.some.inj h]
  exact ⟨[C.val v4], _, Ghost.refl _, (.cons (.tmp rfl) .nil), [1], _, _, rfl, ⟨v4, rfl, rfl⟩⟩
 refine AW.cf hb13 rfl ?_
 refine zz ?_
 refine cnd h (fun hb14 h => ?_) fun hb14 h => ?_
 ·
  refine AW.ct hb14 rfl ?_
  refine zz ?_
  refine Ops.v rfl (op_loadA (p := 0) (ds := [C.int p1.kind, C.int p1.key, C.int p1.id]) ld_99.h rfl rfl rfl rfl rfl) ?_
  refine ob' h fun e15 g16 h => ?_
  refine Ops.v rfl (op_indexAddr_arr (p := 1) sl_49.h rfl rfl rfl g16 rfl) ?_
  refine Ops.hd (ns := [1]) rfl rfl (op_storeA_arr (e' := p1) ld_99.h rfl rfl rfl (getI_lt g16).2.2 rfl rfl) ?_
  refine zz ?_
  refine AW.ret ?_
  rw [← Option.some.inj h]
  exact ⟨[C.val v4], _, Ghost.refl _, (.cons (.tmp rfl) .nil), [0], _, _, rfl, ⟨v4, rfl, rfl⟩⟩
 refine AW.cf hb14 rfl ?_
 refine zz ?_
 refine Ops.v rfl (op_loadA (p := 0) (ds := [C.int p1.kind, C.int p1.key, C.int p1.id]) ld_99.h rfl rfl rfl rfl rfl) ?_
 refine Ops.h (ns := []) rfl rfl (op_buildSlice (k := kEntry) (ys := [p1]) ar_49 (.agg rfl rfl .nil) rfl rfl rfl) ?_
 rintro _ _ ⟨b17, rfl, rfl⟩
 refine ob' h fun r18 g19 h => ?_
 refine Ops.h (ns := [2, 0]) rfl rfl (op_call (Zdz r2 r5.1 [p1] _ g19) rfl rfl) ?_
 rintro _ _ ⟨_, ⟨v20, rfl, rfl⟩, rfl⟩
 refine zz ?_
 refine AW.ret ?_
 rw [← Option.some.inj h]
 exact ⟨[C.val v20], _, Ghost.refl _, (.cons (.tmp rfl) .nil), [0], _, _, rfl, ⟨v20, rfl, rfl⟩⟩
theorem Za4' (p0 : List TEntry) (p1 : TEntry) (r : List TEntry) (h : Z3h p0 p1 = some r) : Ok Tryz.prog 143 [C.im kEntry 3 p0, C.agg [C.int p1.kind, C.int p1.key, C.int p1.id]] [] (fun c qs => c = C.im kEntry 3 r ∧ qs = []) :=
  Ok.freeze (Za4 p0 p1 r h) (by rintro c qs ⟨v21, rfl, rfl⟩; exact Frz.arr)

def Z9u (p0 : List TEntry) (q0 : TEntry) : Option Bool := (Z8f p0 q0).bind fun r1 => some (!r1)
theorem Zd2 {b00 : Nat} (p0 : List TEntry) (q0 : TEntry) (r : Bool) (h : Z9u p0 q0 = some r) : Ok Tryz.prog 135 [C.im kEntry 3 p0, C.val (.pointer (some ⟨b00, 0, none⟩))] [Obj.box b00 99 [C.int q0.kind, C.int q0.key, C.int q0.id]] (fun c qs => c = C.bool r ∧ qs = [Obj.box b00 99 [C.int q0.kind, C.int q0.key, C.int q0.id]]) := by
 refine Ok.of_body (rs := [.tmp 3]) Tryz.func135 rfl rfl rfl rfl rfl fun X => ?_
 unfold Z9u at h
 refine zz ?_
 refine Ops.v rfl (op_loadA (p := 0) (ds := [C.int q0.kind, C.int q0.key, C.int q0.id]) ld_99.h rfl rfl rfl rfl rfl) ?_
 refine ob' h fun r1 g2 h => ?_
 refine Ops.hd (ns := []) rfl rfl (op_callE (Zdp _ _ _ g2) rfl rfl) ?_
 refine zz ?_
 refine AW.ret ?_
 rw [← Option.some.inj h]
 exact ⟨[C.bool (!r1)], _, Ghost.refl _, (.cons (.tmp rfl) .nil), [0], _, _, rfl, ⟨rfl, rfl⟩⟩

def Zaf : Option Int := some (-1)
def Z1x (p0 : List (List TEntry)) (p1_0 : TEntry) (x7 : Int) : Option (Int ⊕ (Int ⊕ Unit)) := cond (decide (x7 < (p0.length : Int))) ((getI p0 x7).bind fun e9 => (Z9u e9 p1_0).bind fun r11 => cond r11 (some (.inr (.inl x7))) (some (.inl (IntKind.i64.wrap (x7 + 1))))) (some (.inr (.inr ())))
def Zae (p0 : List (List TEntry)) (p1_0 : TEntry) : Option Int := (iter (Z1x p0 p1_0) big 0).bind (fun z15 => match z15 with | .inl y14 => some y14 | .inr () => Zaf)
theorem Zds {b00 : Nat} (p0 : List (List TEntry)) (p1_0 : TEntry) (r : Int) (h : Zae p0 p1_0 = some r) : Ok Tryz.prog 132 [C.im kEntryS 1 p0, C.clo 135 [C.val (.pointer (some ⟨b00, 0, none⟩))]] [Obj.box b00 99 [C.int p1_0.kind, C.int p1_0.key, C.int p1_0.id]] (fun c qs => c = C.int r ∧ qs = [Obj.box b00 99 [C.int p1_0.kind, C.int p1_0.key, C.int p1_0.id]]) := by
 refine Ok.of_body (rs := [.tmp 4]) Tryz.func132 rfl rfl rfl rfl rfl fun X => ?_
 unfold Zae at h
 refine AW.seq ?_
 refine AW.region ?_
 refine Ops.v rfl (op_assign rfl rfl) ?_
 refine Ops.nil ?_
 refine AW.seq ?_
 refine AW.cut (τ := Unit) (fun (_ : Unit) => ⟨[], [Obj.box b00 99 [C.int p1_0.kind, C.int p1_0.key, C.int p1_0.id]]⟩) (fun (_ : Unit) => Zaf = some r) ?_ ?_
 ·
  refine zz ?_
  refine ob' h fun o16 g17 q18 => ?_
  refine AW.loop (τ := Int) (x := 0) (fun x7 => ⟨[(0, C.im kEntryS 1 p0), (1, C.clo 135 [C.val (.pointer (some ⟨b00, 0, none⟩))]), (7, C.int (p0.length : Int)), (8, C.int x7)], [Obj.box b00 99 [C.int p1_0.kind, C.int p1_0.key, C.int p1_0.id]]⟩) (fun k x7 => iter (Z1x p0 p1_0) k x7 = some o16) g17 (Ghost.both (ns := [0]) rfl rfl) ?_
  intro k x7 i20
  refine iter_succ' (show iter (Z1x p0 p1_0) k x7 = some o16 from i20) fun k19 y21 hlt_k19 h h22 => ?_
  replace h : Z1x p0 p1_0 x7 = some y21 := h
  unfold Z1x at h
  refine zz ?_
  refine cnd h (fun hb8 h => ?_) fun hb8 h => ?_
  ·
   refine AW.ct hb8 rfl ?_
   refine zz ?_
   refine ob' h fun e9 g10 h => ?_
   refine Ops.v rfl (op_indexAddr_im sl_46.h rfl rfl g10 rfl) ?_
   refine Ops.v rfl (op_load_ip ld_49.h rfl rfl) ?_
   refine ob' h fun r11 g12 h => ?_
   refine Ops.hd (ns := [0]) rfl rfl (op_callCE (cs := [_]) (ds := [_]) rfl (Zd2 e9 p1_0 _ g12) rfl rfl) ?_
   refine zz ?_
   refine cnd h (fun hb13 h => ?_) fun hb13 h => ?_
   ·
    refine AW.ct hb13 rfl ?_
    refine zz ?_
    refine AW.ret ?_
    obtain rfl := Option.some.inj h
    obtain rfl := Option.some.inj h22
    replace h := q18
    rw [← Option.some.inj h]
    exact ⟨[C.int x7], _, Ghost.refl _, (.cons (.tmp rfl) .nil), [0], _, _, rfl, ⟨rfl, rfl⟩⟩
   refine AW.cf hb13 rfl ?_
   refine zz ?_
   obtain rfl := Option.some.inj h
   exact ⟨k19, (IntKind.i64.wrap (x7 + 1)), hlt_k19, h22, Ghost.both (ns := [0]) rfl rfl⟩
  refine AW.cf hb8 rfl ?_
  refine AW.exit ?_
  obtain rfl := Option.some.inj h
  obtain rfl := Option.some.inj h22
  replace h := q18
  exact ⟨(), h, Ghost.both (ns := [0]) rfl rfl⟩
 rintro ⟨⟩ h
 replace h : Zaf = some r := h
 unfold Zaf at h
 refine zz ?_
 refine AW.ret ?_
 rw [← Option.some.inj h]
 exact ⟨[C.int (-1)], _, Ghost.refl _, (.cons (.tmp rfl) .nil), [0], _, _, rfl, ⟨rfl, rfl⟩⟩

def Z8e (p0 : List (List TEntry)) (p1_0 : TEntry) : Option Bool := (Zae p0 p1_0).bind fun r1 => some (decide (r1 ≥ 0))
theorem Zdl {b00 : Nat} (p0 : List (List TEntry)) (p1_0 : TEntry) (r : Bool) (h : Z8e p0 p1_0 = some r) : Ok Tryz.prog 81 [C.im kEntryS 1 p0, C.clo 135 [C.val (.pointer (some ⟨b00, 0, none⟩))]] [Obj.box b00 99 [C.int p1_0.kind, C.int p1_0.key, C.int p1_0.id]] (fun c qs => c = C.bool r ∧ qs = [Obj.box b00 99 [C.int p1_0.kind, C.int p1_0.key, C.int p1_0.id]]) := by
 refine Ok.of_body (rs := [.tmp 4]) Tryz.func81 rfl rfl rfl rfl rfl fun X => ?_
 unfold Z8e at h
 refine zz ?_
 refine ob' h fun r1 g2 h => ?_
 refine Ops.hd (ns := [0]) rfl rfl (op_callE (Zds p0 p1_0 _ g2) rfl rfl) ?_
 refine zz ?_
 refine AW.ret ?_
 rw [← Option.some.inj h]
 exact ⟨[C.bool (decide (r1 ≥ 0))], _, Ghost.refl _, (.cons (.tmp rfl) .nil), [0], _, _, rfl, ⟨rfl, rfl⟩⟩

def Za (p0 : TEvent) (p1 : TEvent) (q0 : THistory) : Option Int := (Z31 p0).bind fun r3 => (Z31 p1).bind fun r5 => cond (r3 == r5) ((Zb (Option.getD (mget q0.depth p0.id) 0) (Option.getD (mget q0.depth p1.id) 0)).bind fun r11 => (Zb p0.time p1.time).bind fun r13 => (Zb p0.id p1.id).bind fun r15 => (Z4q [r11, r13, r15]).bind fun r18 => some r18) ((Z31 p0).bind fun r8 => cond r8 (some (-1)) (some 1))
theorem Zd3 (p0 : TEvent) (p1 : TEvent) (q0 : THistory) (r : Int) (h : Za p0 p1 q0 = some r) : Ok Tryz.prog 138 [C.agg [C.int p0.id, C.int p0.room, C.int p0.author, C.int p0.kind, C.int p0.key, C.int p0.n, C.str p0.text, C.im kI64 1 p0.prev, C.int p0.time], C.agg [C.int p1.id, C.int p1.room, C.int p1.author, C.int p1.kind, C.int p1.key, C.int p1.n, C.str p1.text, C.im kI64 1 p1.prev, C.int p1.time], C.ip [C.ip [C.int q0.graph.room, C.im kEvent 9 q0.graph.events, C.im kEvent 9 q0.graph.parked, C.imap .i64 mcI64 q0.depth, C.imap .i64 mcEntryS q0.before, C.imap .i64 mcEntryS q0.after, C.imap .i64 mcI64 q0.refused]]] [] (fun c qs => c = C.int r ∧ qs = []) := by
 refine Ok.of_body (rs := [.tmp 5]) Tryz.func138 rfl rfl rfl rfl rfl fun X => ?_
 unfold Za at h
 refine zz ?_
 refine Ops.h (ns := []) rfl rfl (op_boxA rfl rfl) ?_
 rintro _ _ ⟨b1, rfl, rfl⟩
 refine Ops.h (ns := []) rfl rfl (op_boxA rfl rfl) ?_
 rintro _ _ ⟨b2, rfl, rfl⟩
 refine zz ?_
 refine AW.regionD (L := [0, 2]) (Lt := []) (k := .light 0 true (.light 2 true (.one 1 (.one 3 (.light 4 false .done))))) (ns := [0, 0]) (by kernel_rfl) (by kernel_rfl) (by kernel_rfl) (by kernel_rfl) rfl ?_
 refine OpsD.v rfl rfl (op_loadA (p := 1) (ds := [C.int p0.id, C.int p0.room, C.int p0.author, C.int p0.kind, C.int p0.key, C.int p0.n, C.str p0.text, C.im kI64 1 p0.prev, C.int p0.time]) ld_38.h rfl rfl rfl rfl rfl) ?_
 refine OpsD.v rfl rfl (op_loadA (p := 0) (ds := [C.int p1.id, C.int p1.room, C.int p1.author, C.int p1.kind, C.int p1.key, C.int p1.n, C.str p1.text, C.im kI64 1 p1.prev, C.int p1.time]) ld_38.h rfl rfl rfl rfl rfl) ?_
 refine zz ?_
 refine ob' h fun r3 g4 h => ?_
 refine StepD.h (ns := []) rfl rfl rfl (op_callE (Zb7 _ _ g4) rfl rfl) ?_
 rintro _ _ ⟨rfl, rfl⟩
 refine zz ?_
 refine ob' h fun r5 g6 h => ?_
 refine StepD.h (ns := []) rfl rfl rfl (op_callE (Zb7 _ _ g6) rfl rfl) ?_
 rintro _ _ ⟨rfl, rfl⟩
 refine OpsD.v rfl rfl (op_bool_neq un_4 rfl rfl rfl) ?_
 refine zz ?_
 refine cnd h (fun hb7 h => ?_) fun hb7 h => ?_
 ·
  refine AW.cond rfl (fun hn => absurd ((not_t hb7).symm.trans hn) (by decide)) (fun _ => ?_)
  refine zz ?_
  refine AW.regionD (L := [0, 3, 5, 6, 7, 10, 12, 13, 16, 18, 21, 23]) (Lt := []) (k := .light 0 true (.light 1 false (.light 2 false (.light 3 true (.light 4 false (.light 5 true (.light 6 true (.light 7 true (.light 8 false (.light 9 false (.light 10 true (.light 11 false (.light 12 true (.light 13 true (.light 15 false (.light 16 true (.light 17 false (.light 18 true (.light 20 false (.light 21 true (.light 22 false (.light 23 true (.one 14 (.one 19 (.one 24 (.one 25 (.one 26 (.light 27 false .done)))))))))))))))))))))))))))) (ns := [0, 0]) (by kernel_rfl) (by kernel_rfl) (by kernel_rfl) (by kernel_rfl) rfl ?_
  refine OpsD.v rfl rfl (op_load_ip ld_75.h rfl rfl) ?_
  refine OpsD.v rfl rfl (op_nilCheck_ip rfl rfl) ?_
  refine OpsD.v rfl rfl (op_fieldAddr_ip fo_84_1.h rfl rfl rfl) ?_
  refine OpsD.v rfl rfl (op_load_ip ld_81.h rfl rfl) ?_
  refine zz ?_
  refine OpsD.v rfl rfl (op_lookupI (kc := mcI64) (z0 := 0) mi_81 zv_2 (fun _ _ => rfl) rfl rfl rfl) ?_
  refine OpsD.v rfl rfl (op_load_ip ld_75.h rfl rfl) ?_
  refine OpsD.v rfl rfl (op_nilCheck_ip rfl rfl) ?_
  refine OpsD.v rfl rfl (op_fieldAddr_ip fo_84_1.h rfl rfl rfl) ?_
  refine OpsD.v rfl rfl (op_load_ip ld_81.h rfl rfl) ?_
  refine zz ?_
  refine OpsD.v rfl rfl (op_lookupI (kc := mcI64) (z0 := 0) mi_81 zv_2 (fun _ _ => rfl) rfl rfl rfl) ?_
  refine zz ?_
  refine ob' h fun r11 g12 h => ?_
  refine StepD.h (ns := []) rfl rfl rfl (op_callE (Z3m _ _ _ g12) rfl rfl) ?_
  rintro _ _ ⟨rfl, rfl⟩
  refine zz ?_
  refine ob' h fun r13 g14 h => ?_
  refine StepD.h (ns := []) rfl rfl rfl (op_callE (Z3m _ _ _ g14) rfl rfl) ?_
  rintro _ _ ⟨rfl, rfl⟩
  refine zz ?_
  refine ob' h fun r15 g16 h => ?_
  refine StepD.h (ns := []) rfl rfl rfl (op_callE (Z3m _ _ _ g16) rfl rfl) ?_
  rintro _ _ ⟨rfl, rfl⟩
  refine OpsD.one ?_
  refine StepD.h (ns := []) rfl rfl rfl (op_buildSlice (k := kI64) (ys := [r11, r13, r15]) ar_170 (.one rfl (One.val rfl) rfl rfl (.one rfl (One.val rfl) rfl rfl (.one rfl (One.val rfl) rfl rfl .nil))) rfl rfl rfl) ?_
  rintro _ _ ⟨b17, rfl, rfl⟩
  refine zz ?_
  refine ob' h fun r18 g19 h => ?_
  refine StepD.h (ns := [0]) rfl rfl rfl (op_callE (Ok.lendE (Zbk [r11, r13, r15] _ g19) (FrzT.cons (os := [_]) Frz.arr (FrzT.nil)) (PlainC.val _)) rfl rfl) ?_
  rintro _ _ ⟨rfl, rfl⟩
  refine zz ?_
  refine AW.ret ?_
  rw [← Option.some.inj h]
  exact ⟨[C.int r18], _, Ghost.refl _, (.cons (.tmp rfl) .nil), [], _, _, rfl, ⟨rfl, rfl⟩⟩
 refine AW.cond rfl (fun _ => ?_) (fun hn => absurd ((not_f hb7).symm.trans hn) (by decide))
 refine zz ?_
 refine Ops.v rfl (op_loadA (p := 1) (ds := [C.int p0.id, C.int p0.room, C.int p0.author, C.int p0.kind, C.int p0.key, C.int p0.n, C.str p0.text, C.im kI64 1 p0.prev, C.int p0.time]) ld_38.h rfl rfl rfl rfl rfl) ?_
 refine ob' h fun r8 g9 h => ?_
 refine Ops.hd (ns := []) rfl rfl (op_callE (Zb7 _ _ g9) rfl rfl) ?_
 refine zz ?_
 refine cnd h (fun hb10 h => ?_) fun hb10 h => ?_
 ·
  refine AW.ct hb10 rfl ?_
  refine zz ?_
  refine AW.ret ?_
  rw [← Option.some.inj h]
  exact ⟨[C.int (-1)], _, Ghost.refl _, (.cons (.tmp rfl) .nil), [], _, _, rfl, ⟨rfl, rfl⟩⟩
 refine AW.cf hb10 rfl ?_
 refine zz ?_
 refine AW.ret ?_
 rw [← Option.some.inj h]
 exact ⟨[C.int 1], _, Ghost.refl _, (.cons (.tmp rfl) .nil), [], _, _, rfl, ⟨rfl, rfl⟩⟩

def Z9v (l205 : List TEntry) : Option (List TEntry) := some l205
def Z5g (x194 : Int) (l204 : List TEntry) : Option ((List TEntry × Int) ⊕ ((List TEntry))) := some (.inl (l204, (IntKind.i64.wrap (x194 + 1))))
def Zn (p0 : THistory) (r176 : List TEvent) (l193 : List TEntry) (x194 : Int) : Option ((List TEntry × Int) ⊕ ((List TEntry))) := cond (decide (x194 < (r176.length : Int))) ((getI r176 x194).bind fun e196 => (Z33 p0.graph l193 e196).bind fun r199 => cond (r199 == 0) ((Z3h l193 (TEntry.mk e196.kind e196.key e196.id)).bind fun r202 => Z5g x194 r202) (Z5g x194 l193)) (some (.inr l193))
def Z7l (p0 : THistory) (l37 : List TEntry) (l175 : List TEvent) : Option (List TEntry) := (sortF (fun z1 z2 => Za z1 z2 p0) l175).bind fun r176 => (iter (fun z206 => Zn p0 r176 z206.1 z206.2) big (l37, 0)).bind fun y207 => Z9v y207
def Z7m (x113 : Int) (l172 : List TEvent) (m173 : List (Int × Bool)) : Option ((List TEvent × (List (Int × Bool)) × Int) ⊕ ((List TEvent))) := some (.inl (l172, m173, (IntKind.i64.wrap (x113 + 1))))
def Z5h (x145 : Int) (l169 : List TEvent) (m170 : List (Int × Bool)) : Option ((List TEvent × (List (Int × Bool)) × Int) ⊕ ((List TEvent × (List (Int × Bool))))) := some (.inl (l169, m170, (IntKind.i64.wrap (x145 + 1))))
def Z7n (l143 : List TEvent) (m144 : List (Int × Bool)) (x145 : Int) (e147 : TEntry) (x155 : Int) (x156 : Int) (x157 : Int) (x158 : Int) (x159 : Int) (x160 : Int) (x161 : ByteArray) (l162 : List Int) (x163 : Int) : Option ((List TEvent × (List (Int × Bool)) × Int) ⊕ ((List TEvent × (List (Int × Bool))))) := (chk (decide ((l143.length + [(TEvent.mk x155 x156 x157 x158 x159 x160 x161 l162 x163)].length) * 96 ≤ 140737488355328))).bind fun u166 => Z5h x145 (l143 ++ [(TEvent.mk x155 x156 x157 x158 x159 x160 x161 l162 x163)]) (mset m144 e147.id true)
def Z1q (p0 : THistory) (e115 : List TEntry) (l143 : List TEvent) (m144 : List (Int × Bool)) (x145 : Int) : Option ((List TEvent × (List (Int × Bool)) × Int) ⊕ ((List TEvent × (List (Int × Bool))))) := cond (decide (x145 < (e115.length : Int))) ((getI e115 x145).bind fun e147 => cond (Option.getD (mget m144 e147.id) false) (Z5h x145 l143 m144) ((Zf p0.graph e147.id).bind fun r151 => Z7n l143 m144 x145 e147 r151.1.id r151.1.room r151.1.author r151.1.kind r151.1.key r151.1.n r151.1.text r151.1.prev r151.1.time)) (some (.inr (l143, m144)))
def Z1r (p0 : THistory) (p1 : List (List TEntry)) (l111 : List TEvent) (m112 : List (Int × Bool)) (x113 : Int) : Option ((List TEvent × (List (Int × Bool)) × Int) ⊕ ((List TEvent))) := cond (decide (x113 < (p1.length : Int))) ((getI p1 x113).bind fun e115 => (iter (fun z208 => Z1q p0 e115 z208.1 z208.2.1 z208.2.2) big (l111, m112, 0)).bind fun (y209, y210) => Z7m x113 y209 y210) (some (.inr l111))
def Z7k (p0 : THistory) (p1 : List (List TEntry)) (l37 : List TEntry) (m49 : List (Int × Bool)) : Option (List TEntry) := (iter (fun z211 => Z1r p0 p1 z211.1 z211.2.1 z211.2.2) big (([] : List TEvent), m49, 0)).bind fun y212 => Z7l p0 l37 y212
def Z1o (l37 : List TEntry) (m43 : List (Int × Bool)) (x44 : Int) : Option (((List (Int × Bool)) × Int) ⊕ ((List (Int × Bool)))) := cond (decide (x44 < (l37.length : Int))) ((getI l37 x44).bind fun e46 => some (.inl ((mset m43 e46.id true), (IntKind.i64.wrap (x44 + 1))))) (some (.inr m43))
def Z3d (p0 : THistory) (p1 : List (List TEntry)) (l37 : List TEntry) : Option (List TEntry) := (iter (fun z213 => Z1o l37 z213.1 z213.2) big (([] : List (Int × Bool)), 0)).bind fun y214 => Z7k p0 p1 l37 y214
def Z5f (x22 : Int) (l35 : List TEntry) : Option ((List TEntry × Int) ⊕ ((List TEntry))) := some (.inl (l35, (IntKind.i64.wrap (x22 + 1))))
def Z1p (p1 : List (List TEntry)) (e5 : List TEntry) (l21 : List TEntry) (x22 : Int) : Option ((List TEntry × Int) ⊕ ((List TEntry))) := cond (decide (x22 < (e5.length : Int))) ((getI e5 x22).bind fun e24 => (Z8e p1 e24).bind fun r27 => cond r27 (Z5f x22 l21) ((chk (decide ((l21.length + [e24].length) * 24 ≤ 140737488355328))).bind fun u32 => Z5f x22 (l21 ++ [e24]))) (some (.inr l21))
def Z1n (p0 : THistory) (p1 : List (List TEntry)) : Option (List TEntry) := cond (decide ((p1.length : Int) > 0)) ((getI p1 0).bind fun e5 => (iter (fun z215 => Z1p p1 e5 z215.1 z215.2) big (([] : List TEntry), 0)).bind fun y216 => Z3d p0 p1 y216) (Z3d p0 p1 ([] : List TEntry))
set_option maxHeartbeats 1000000 in
theorem Zbu {b00 : Nat} {b01 : Nat} {b02 : Nat} {b03 : Nat} {b04 : Nat} (p0 : THistory) (p1 : List (List TEntry)) (r : List TEntry) (h : Z1n p0 p1 = some r) : Ok Tryz.prog 84 [C.val (.pointer (some ⟨b00, 0, none⟩)), C.im kEntryS 1 p1] [Obj.box b00 84 [C.int p0.graph.room, C.im kEvent 9 p0.graph.events, C.im kEvent 9 p0.graph.parked, C.val (.map (some b01)), C.val (.map (some b02)), C.val (.map (some b03)), C.val (.map (some b04))], Abs.Obj.map b01 .i64 mcI64 p0.depth, Abs.Obj.map b02 .i64 mcEntryS p0.before, Abs.Obj.map b03 .i64 mcEntryS p0.after, Abs.Obj.map b04 .i64 mcI64 p0.refused] (fun c qs => c = C.im kEntry 3 r ∧ qs = [Obj.box b00 84 [C.int p0.graph.room, C.im kEvent 9 p0.graph.events, C.im kEvent 9 p0.graph.parked, C.val (.map (some b01)), C.val (.map (some b02)), C.val (.map (some b03)), C.val (.map (some b04))], Abs.Obj.map b01 .i64 mcI64 p0.depth, Abs.Obj.map b02 .i64 mcEntryS p0.before, Abs.Obj.map b03 .i64 mcEntryS p0.after, Abs.Obj.map b04 .i64 mcI64 p0.refused]) := by
 refine Ok.of_body (rs := [.tmp 4]) Tryz.func84 rfl rfl rfl rfl rfl fun X => ?_
 unfold Z1n at h
 refine zz ?_
 refine Ops.h (ns := []) rfl rfl (op_box rfl (One.val rfl) rfl) ?_
 rintro _ _ ⟨b1, rfl, rfl⟩
 refine zz ?_
 refine Ops.h (ns := []) rfl rfl (op_buildSlice (k := kEntry) (ys := ([] : List TEntry)) ar_49 .nil rfl rfl rfl) ?_
 rintro _ _ ⟨b2, rfl, rfl⟩
 refine Ops.h (ns := []) rfl rfl (op_buildSlice (k := kEvent) (ys := ([] : List TEvent)) ar_28 .nil rfl rfl rfl) ?_
 rintro _ _ ⟨b3, rfl, rfl⟩
 refine Ops.v rfl (op_assign rfl rfl) ?_
 refine Ops.v rfl (op_assign rfl rfl) ?_
 refine Ops.nil ?_
 refine AW.seq ?_
 refine AW.cut (τ := List TEntry × Value) (fun (l37, v36) => ⟨[(1, C.im kEntryS 1 p1), (2, C.val (.pointer (some ⟨b1, 0, none⟩))), (5, C.val v36), (6, C.val (.slice (some ⟨b3, 0, none⟩) 0 0))], [Obj.box b1 75 [C.val (.pointer (some ⟨b00, 0, none⟩))], Obj.box b00 84 [C.int p0.graph.room, C.im kEvent 9 p0.graph.events, C.im kEvent 9 p0.graph.parked, C.val (.map (some b01)), C.val (.map (some b02)), C.val (.map (some b03)), C.val (.map (some b04))], Abs.Obj.map b01 .i64 mcI64 p0.depth, Abs.Obj.map b02 .i64 mcEntryS p0.before, Abs.Obj.map b03 .i64 mcEntryS p0.after, Abs.Obj.map b04 .i64 mcI64 p0.refused, Obj.arr v36 99 kEntry 3 l37, Obj.arr (.slice (some ⟨b3, 0, none⟩) 0 0) 38 kEvent 9 ([] : List TEvent)]⟩) (fun (l37, v36) => Z3d p0 p1 l37 = some r) ?_ ?_
 ·
  refine zz ?_
  refine cnd h (fun hb4 h => ?_) fun hb4 h => ?_
  ·
   refine AW.ct hb4 rfl ?_
   refine zz ?_
   refine ob' h fun e5 g6 h => ?_
   refine Ops.v rfl (op_indexAddr_im sl_46.h rfl rfl g6 rfl) ?_
   refine Ops.v rfl (op_load_ip ld_49.h rfl rfl) ?_
   refine zz ?_
   refine ob' h fun o245 g246 q247 => ?_
   refine AW.loop (τ := List TEntry × Int × Value) (x := (([] : List TEntry), 0, (.slice (some ⟨b2, 0, none⟩) 0 0))) (fun (l21, x22, v20) => ⟨[(1, C.im kEntryS 1 p1), (2, C.val (.pointer (some ⟨b1, 0, none⟩))), (5, C.val v20), (6, C.val (.slice (some ⟨b3, 0, none⟩) 0 0)), (27, C.im kEntry 3 e5), (28, C.int (e5.length : Int)), (29, C.int x22)], [Obj.box b1 75 [C.val (.pointer (some ⟨b00, 0, none⟩))], Obj.box b00 84 [C.int p0.graph.room, C.im kEvent 9 p0.graph.events, C.im kEvent 9 p0.graph.parked, C.val (.map (some b01)), C.val (.map (some b02)), C.val (.map (some b03)), C.val (.map (some b04))], Abs.Obj.map b01 .i64 mcI64 p0.depth, Abs.Obj.map b02 .i64 mcEntryS p0.before, Abs.Obj.map b03 .i64 mcEntryS p0.after, Abs.Obj.map b04 .i64 mcI64 p0.refused, Obj.arr v20 99 kEntry 3 l21, Obj.arr (.slice (some ⟨b3, 0, none⟩) 0 0) 38 kEvent 9 ([] : List TEvent)]⟩) (fun k (l21, x22, v20) => iter (fun z215 => Z1p p1 e5 z215.1 z215.2) k (l21, x22) = some o245) g246 (Ghost.both (ns := [2, 2, 2, 2, 2, 2, 1, 0]) rfl rfl) ?_
   rintro k ⟨l21, x22, v20⟩ i249
   refine iter_succ' (show iter (fun z215 => Z1p p1 e5 z215.1 z215.2) k (l21, x22) = some o245 from i249) fun k248 y250 hlt_k248 h h251 => ?_
   replace h : Z1p p1 e5 l21 x22 = some y250 := h
   unfold Z1p at h
   refine zz ?_
   refine cnd h (fun hb23 h => ?_) fun hb23 h => ?_
   ·
    refine AW.ct hb23 rfl ?_
    refine AW.skip ?_
    refine AW.seq ?_
    refine AW.cut (τ := List TEntry × Value) (fun (l35, v34) => ⟨[(1, C.im kEntryS 1 p1), (2, C.val (.pointer (some ⟨b1, 0, none⟩))), (5, C.val v34), (6, C.val (.slice (some ⟨b3, 0, none⟩) 0 0)), (27, C.im kEntry 3 e5), (28, C.int (e5.length : Int)), (29, C.int x22)], [Obj.box b1 75 [C.val (.pointer (some ⟨b00, 0, none⟩))], Obj.box b00 84 [C.int p0.graph.room, C.im kEvent 9 p0.graph.events, C.im kEvent 9 p0.graph.parked, C.val (.map (some b01)), C.val (.map (some b02)), C.val (.map (some b03)), C.val (.map (some b04))], Abs.Obj.map b01 .i64 mcI64 p0.depth, Abs.Obj.map b02 .i64 mcEntryS p0.before, Abs.Obj.map b03 .i64 mcEntryS p0.after, Abs.Obj.map b04 .i64 mcI64 p0.refused, Obj.arr v34 99 kEntry 3 l35, Obj.arr (.slice (some ⟨b3, 0, none⟩) 0 0) 38 kEvent 9 ([] : List TEvent)]⟩) (fun (l35, v34) => Z5f x22 l35 = some y250) ?_ ?_
    ·
     refine zz ?_
     refine ob' h fun e24 g25 h => ?_
     refine Ops.v rfl (op_indexAddr_im sl_49.h rfl rfl g25 rfl) ?_
     refine Ops.v rfl (op_load_ipA ld_99.h rfl rfl rfl rfl) ?_
     refine Ops.h (ns := []) rfl rfl (op_alloc (cs := [C.int 0, C.int 0, C.int 0]) ze_99 (cells_zero rfl rfl) rfl) ?_
     rintro _ _ ⟨b26, rfl, rfl⟩
     refine Ops.hd (ns := [0]) rfl rfl (op_storeA (gs := [C.int e24.kind, C.int e24.key, C.int e24.id]) ld_99.h rfl rfl rfl rfl rfl) ?_
     refine zz ?_
     refine Ops.v rfl (op_makeFunc rfl rfl) ?_
     refine ob' h fun r27 g28 h => ?_
     refine Ops.hd (ns := [0]) rfl rfl (op_callE (Zdl p1 e24 _ g28) rfl rfl) ?_
     refine zz ?_
     refine cnd h (fun hb29 h => ?_) fun hb29 h => ?_
     ·
      refine AW.cond rfl (fun hn => absurd ((not_t hb29).symm.trans hn) (by decide)) (fun _ => ?_)
      refine zz ?_
      exact ⟨(l21, v20), h, Ghost.both (ns := [1, 1, 1, 1, 1, 1, 1, 1]) rfl rfl⟩
     refine AW.cond rfl (fun _ => ?_) (fun hn => absurd ((not_f hb29).symm.trans hn) (by decide))
     refine zz ?_
     refine Ops.v rfl (op_loadA (p := 0) (ds := [C.int e24.kind, C.int e24.key, C.int e24.id]) ld_99.h rfl rfl rfl rfl rfl) ?_
     refine Ops.h (ns := []) rfl rfl (op_buildSlice (k := kEntry) (ys := [e24]) ar_49 (.agg rfl rfl .nil) rfl rfl rfl) ?_
     rintro _ _ ⟨b30, rfl, rfl⟩
     refine ob' h fun u32 c31 h => ?_
     refine Ops.h (ns := [8, 0]) rfl rfl (op_append ar_49 rfl rfl (of_decide_eq_true (chk_some c31)) (app63 (by decide) c31) rfl) ?_
     rintro _ _ ⟨v33, rfl, rfl⟩
     refine zz ?_
     exact ⟨((l21 ++ [e24]), v33), h, Ghost.both (ns := [2, 2, 2, 2, 2, 2, 0, 1]) rfl rfl⟩
    rintro ⟨l35, v34⟩ h
    replace h : Z5f x22 l35 = some y250 := h
    unfold Z5f at h
    refine zz ?_
    obtain rfl := Option.some.inj h
    exact ⟨k248, (l35, (IntKind.i64.wrap (x22 + 1)), v34), hlt_k248, h251, Ghost.both (ns := [0, 0, 0, 0, 0, 0, 0, 0]) rfl rfl⟩
   refine AW.cf hb23 rfl ?_
   refine AW.exit ?_
   obtain rfl := Option.some.inj h
   obtain rfl := Option.some.inj h251
   replace h := q247
   exact ⟨(l21, v20), h, Ghost.both (ns := [0, 0, 0, 0, 0, 0, 0, 0]) rfl rfl⟩
  refine AW.cf hb4 rfl ?_
  refine zz ?_
  exact ⟨(([] : List TEntry), (.slice (some ⟨b2, 0, none⟩) 0 0)), h, Ghost.both (ns := [2, 2, 2, 2, 2, 2, 1, 0]) rfl rfl⟩
 rintro ⟨l37, v36⟩ h
 replace h : Z3d p0 p1 l37 = some r := h
 unfold Z3d at h
 refine zz ?_
 refine Ops.h (ns := []) rfl rfl (op_makeMap (kd := .i64) (kc := mcBool) rfl) ?_
 rintro _ _ ⟨b38, rfl, rfl⟩
 refine Ops.v rfl (op_assign rfl rfl) ?_
 refine Ops.nil ?_
 refine AW.seq ?_
 refine AW.cut (τ := (List (Int × Bool))) (fun m49 => ⟨[(1, C.im kEntryS 1 p1), (2, C.val (.pointer (some ⟨b1, 0, none⟩))), (5, C.val v36), (6, C.val (.slice (some ⟨b3, 0, none⟩) 0 0)), (9, C.val (.map (some b38)))], [Obj.box b1 75 [C.val (.pointer (some ⟨b00, 0, none⟩))], Obj.box b00 84 [C.int p0.graph.room, C.im kEvent 9 p0.graph.events, C.im kEvent 9 p0.graph.parked, C.val (.map (some b01)), C.val (.map (some b02)), C.val (.map (some b03)), C.val (.map (some b04))], Abs.Obj.map b01 .i64 mcI64 p0.depth, Abs.Obj.map b02 .i64 mcEntryS p0.before, Abs.Obj.map b03 .i64 mcEntryS p0.after, Abs.Obj.map b04 .i64 mcI64 p0.refused, Obj.arr v36 99 kEntry 3 l37, Obj.arr (.slice (some ⟨b3, 0, none⟩) 0 0) 38 kEvent 9 ([] : List TEvent), Abs.Obj.map b38 .i64 mcBool m49]⟩) (fun m49 => Z7k p0 p1 l37 m49 = some r) ?_ ?_
 ·
  refine zz ?_
  refine Ops.v rfl (op_len_arr (p := 7) sl_49.h rfl rfl rfl) ?_
  refine zz ?_
  refine ob' h fun o238 g239 q240 => ?_
  refine AW.loop (τ := (List (Int × Bool)) × Int) (x := (([] : List (Int × Bool)), 0)) (fun (m43, x44) => ⟨[(1, C.im kEntryS 1 p1), (2, C.val (.pointer (some ⟨b1, 0, none⟩))), (5, C.val v36), (6, C.val (.slice (some ⟨b3, 0, none⟩) 0 0)), (9, C.val (.map (some b38))), (43, C.val v36), (44, C.int (l37.length : Int)), (45, C.int x44)], [Obj.box b1 75 [C.val (.pointer (some ⟨b00, 0, none⟩))], Obj.box b00 84 [C.int p0.graph.room, C.im kEvent 9 p0.graph.events, C.im kEvent 9 p0.graph.parked, C.val (.map (some b01)), C.val (.map (some b02)), C.val (.map (some b03)), C.val (.map (some b04))], Abs.Obj.map b01 .i64 mcI64 p0.depth, Abs.Obj.map b02 .i64 mcEntryS p0.before, Abs.Obj.map b03 .i64 mcEntryS p0.after, Abs.Obj.map b04 .i64 mcI64 p0.refused, Obj.arr v36 99 kEntry 3 l37, Obj.arr (.slice (some ⟨b3, 0, none⟩) 0 0) 38 kEvent 9 ([] : List TEvent), Abs.Obj.map b38 .i64 mcBool m43]⟩) (fun k (m43, x44) => iter (fun z213 => Z1o l37 z213.1 z213.2) k (m43, x44) = some o238) g239 (Ghost.both (ns := [1, 1, 1, 1, 1, 1, 1, 1, 0]) rfl rfl) ?_
  rintro k ⟨m43, x44⟩ i242
  refine iter_succ' (show iter (fun z213 => Z1o l37 z213.1 z213.2) k (m43, x44) = some o238 from i242) fun k241 y243 hlt_k241 h h244 => ?_
  replace h : Z1o l37 m43 x44 = some y243 := h
  unfold Z1o at h
  refine zz ?_
  refine cnd h (fun hb45 h => ?_) fun hb45 h => ?_
  ·
   refine AW.ct hb45 rfl ?_
   refine zz ?_
   refine ob' h fun e46 g47 h => ?_
   refine Ops.v rfl (op_indexAddr_arr (p := 6) sl_49.h rfl rfl rfl g47 rfl) ?_
   refine Ops.v rfl (op_loadA_arr (p := 6) ld_99.h rfl rfl (getI_lt g47).2.2 rfl rfl rfl) ?_
   refine Ops.h (ns := []) rfl rfl (op_alloc (cs := [C.int 0, C.int 0, C.int 0]) ze_99 (cells_zero rfl rfl) rfl) ?_
   rintro _ _ ⟨b48, rfl, rfl⟩
   refine Ops.hd (ns := [0]) rfl rfl (op_storeA (gs := [C.int e46.kind, C.int e46.key, C.int e46.id]) ld_99.h rfl rfl rfl rfl rfl) ?_
   refine zz ?_
   refine Ops.hd (ns := [9]) rfl rfl (op_mapUpdate (kc := mcBool) (v := true) mi_147 rfl rfl rfl rfl) ?_
   refine zz ?_
   obtain rfl := Option.some.inj h
   exact ⟨k241, ((mset m43 e46.id true), (IntKind.i64.wrap (x44 + 1))), hlt_k241, h244, Ghost.both (ns := [2, 2, 2, 2, 2, 2, 2, 2, 0]) rfl rfl⟩
  refine AW.cf hb45 rfl ?_
  refine AW.exit ?_
  obtain rfl := Option.some.inj h
  obtain rfl := Option.some.inj h244
  replace h := q240
  exact ⟨m43, h, Ghost.both (ns := [0, 0, 0, 0, 0, 0, 0, 0, 0]) rfl rfl⟩
 intro m49 h
 replace h : Z7k p0 p1 l37 m49 = some r := h
 unfold Z7k at h
 refine AW.seq ?_
 refine AW.cut (τ := List TEvent × Value) (fun (l175, v174) => ⟨[(2, C.val (.pointer (some ⟨b1, 0, none⟩))), (5, C.val v36), (6, C.val v174)], [Obj.box b1 75 [C.val (.pointer (some ⟨b00, 0, none⟩))], Obj.box b00 84 [C.int p0.graph.room, C.im kEvent 9 p0.graph.events, C.im kEvent 9 p0.graph.parked, C.val (.map (some b01)), C.val (.map (some b02)), C.val (.map (some b03)), C.val (.map (some b04))], Abs.Obj.map b01 .i64 mcI64 p0.depth, Abs.Obj.map b02 .i64 mcEntryS p0.before, Abs.Obj.map b03 .i64 mcEntryS p0.after, Abs.Obj.map b04 .i64 mcI64 p0.refused, Obj.arr v36 99 kEntry 3 l37, Obj.arr v174 38 kEvent 9 l175]⟩) (fun (l175, v174) => Z7l p0 l37 l175 = some r) ?_ ?_
 ·
  refine zz ?_
  refine ob' h fun o224 g225 q226 => ?_
  refine AW.loop (τ := List TEvent × (List (Int × Bool)) × Int × Value) (x := (([] : List TEvent), m49, 0, (.slice (some ⟨b3, 0, none⟩) 0 0))) (fun (l111, m112, x113, v110) => ⟨[(2, C.val (.pointer (some ⟨b1, 0, none⟩))), (5, C.val v36), (6, C.val v110), (9, C.val (.map (some b38))), (53, C.im kEntryS 1 p1), (54, C.int (p1.length : Int)), (55, C.int x113)], [Obj.box b1 75 [C.val (.pointer (some ⟨b00, 0, none⟩))], Obj.box b00 84 [C.int p0.graph.room, C.im kEvent 9 p0.graph.events, C.im kEvent 9 p0.graph.parked, C.val (.map (some b01)), C.val (.map (some b02)), C.val (.map (some b03)), C.val (.map (some b04))], Abs.Obj.map b01 .i64 mcI64 p0.depth, Abs.Obj.map b02 .i64 mcEntryS p0.before, Abs.Obj.map b03 .i64 mcEntryS p0.after, Abs.Obj.map b04 .i64 mcI64 p0.refused, Obj.arr v36 99 kEntry 3 l37, Obj.arr v110 38 kEvent 9 l111, Abs.Obj.map b38 .i64 mcBool m112]⟩) (fun k (l111, m112, x113, v110) => iter (fun z211 => Z1r p0 p1 z211.1 z211.2.1 z211.2.2) k (l111, m112, x113) = some o224) g225 (Ghost.both (ns := [0, 0, 0, 0, 0, 0, 0, 0, 0]) rfl rfl) ?_
  rintro k ⟨l111, m112, x113, v110⟩ i228
  refine iter_succ' (show iter (fun z211 => Z1r p0 p1 z211.1 z211.2.1 z211.2.2) k (l111, m112, x113) = some o224 from i228) fun k227 y229 hlt_k227 h h230 => ?_
  replace h : Z1r p0 p1 l111 m112 x113 = some y229 := h
  unfold Z1r at h
  refine zz ?_
  refine cnd h (fun hb114 h => ?_) fun hb114 h => ?_
  ·
   refine AW.ct hb114 rfl ?_
   refine AW.skip ?_
   refine AW.seq ?_
   refine AW.cut (τ := List TEvent × (List (Int × Bool)) × Value) (fun (l172, m173, v171) => ⟨[(2, C.val (.pointer (some ⟨b1, 0, none⟩))), (5, C.val v36), (6, C.val v171), (9, C.val (.map (some b38))), (53, C.im kEntryS 1 p1), (54, C.int (p1.length : Int)), (55, C.int x113)], [Obj.box b1 75 [C.val (.pointer (some ⟨b00, 0, none⟩))], Obj.box b00 84 [C.int p0.graph.room, C.im kEvent 9 p0.graph.events, C.im kEvent 9 p0.graph.parked, C.val (.map (some b01)), C.val (.map (some b02)), C.val (.map (some b03)), C.val (.map (some b04))], Abs.Obj.map b01 .i64 mcI64 p0.depth, Abs.Obj.map b02 .i64 mcEntryS p0.before, Abs.Obj.map b03 .i64 mcEntryS p0.after, Abs.Obj.map b04 .i64 mcI64 p0.refused, Obj.arr v36 99 kEntry 3 l37, Obj.arr v171 38 kEvent 9 l172, Abs.Obj.map b38 .i64 mcBool m173]⟩) (fun (l172, m173, v171) => Z7m x113 l172 m173 = some y229) ?_ ?_
   ·
    refine zz ?_
    refine ob' h fun e115 g116 h => ?_
    refine Ops.v rfl (op_indexAddr_im sl_46.h rfl rfl g116 rfl) ?_
    refine Ops.v rfl (op_load_ip ld_49.h rfl rfl) ?_
    refine zz ?_
    refine ob' h fun o231 g232 q233 => ?_
    refine AW.loop (τ := List TEvent × (List (Int × Bool)) × Int × Value) (x := (l111, m112, 0, v110)) (fun (l143, m144, x145, v142) => ⟨[(2, C.val (.pointer (some ⟨b1, 0, none⟩))), (5, C.val v36), (6, C.val v142), (9, C.val (.map (some b38))), (53, C.im kEntryS 1 p1), (54, C.int (p1.length : Int)), (55, C.int x113), (59, C.im kEntry 3 e115), (60, C.int (e115.length : Int)), (61, C.int x145)], [Obj.box b1 75 [C.val (.pointer (some ⟨b00, 0, none⟩))], Obj.box b00 84 [C.int p0.graph.room, C.im kEvent 9 p0.graph.events, C.im kEvent 9 p0.graph.parked, C.val (.map (some b01)), C.val (.map (some b02)), C.val (.map (some b03)), C.val (.map (some b04))], Abs.Obj.map b01 .i64 mcI64 p0.depth, Abs.Obj.map b02 .i64 mcEntryS p0.before, Abs.Obj.map b03 .i64 mcEntryS p0.after, Abs.Obj.map b04 .i64 mcI64 p0.refused, Obj.arr v36 99 kEntry 3 l37, Obj.arr v142 38 kEvent 9 l143, Abs.Obj.map b38 .i64 mcBool m144]⟩) (fun k (l143, m144, x145, v142) => iter (fun z208 => Z1q p0 e115 z208.1 z208.2.1 z208.2.2) k (l143, m144, x145) = some o231) g232 (Ghost.both (ns := [0, 0, 0, 0, 0, 0, 0, 0, 0]) rfl rfl) ?_
    rintro k ⟨l143, m144, x145, v142⟩ i235
    refine iter_succ' (show iter (fun z208 => Z1q p0 e115 z208.1 z208.2.1 z208.2.2) k (l143, m144, x145) = some o231 from i235) fun k234 y236 hlt_k234 h h237 => ?_
    replace h : Z1q p0 e115 l143 m144 x145 = some y236 := h
    unfold Z1q at h
    refine zz ?_
    refine cnd h (fun hb146 h => ?_) fun hb146 h => ?_
    ·
     refine AW.ct hb146 rfl ?_
     refine AW.skip ?_
     refine AW.seq ?_
     refine AW.cut (τ := List TEvent × (List (Int × Bool)) × Value) (fun (l169, m170, v168) => ⟨[(2, C.val (.pointer (some ⟨b1, 0, none⟩))), (5, C.val v36), (6, C.val v168), (9, C.val (.map (some b38))), (53, C.im kEntryS 1 p1), (54, C.int (p1.length : Int)), (55, C.int x113), (59, C.im kEntry 3 e115), (60, C.int (e115.length : Int)), (61, C.int x145)], [Obj.box b1 75 [C.val (.pointer (some ⟨b00, 0, none⟩))], Obj.box b00 84 [C.int p0.graph.room, C.im kEvent 9 p0.graph.events, C.im kEvent 9 p0.graph.parked, C.val (.map (some b01)), C.val (.map (some b02)), C.val (.map (some b03)), C.val (.map (some b04))], Abs.Obj.map b01 .i64 mcI64 p0.depth, Abs.Obj.map b02 .i64 mcEntryS p0.before, Abs.Obj.map b03 .i64 mcEntryS p0.after, Abs.Obj.map b04 .i64 mcI64 p0.refused, Obj.arr v36 99 kEntry 3 l37, Obj.arr v168 38 kEvent 9 l169, Abs.Obj.map b38 .i64 mcBool m170]⟩) (fun (l169, m170, v168) => Z5h x145 l169 m170 = some y236) ?_ ?_
     ·
      refine zz ?_
      refine ob' h fun e147 g148 h => ?_
      refine Ops.v rfl (op_indexAddr_im sl_49.h rfl rfl g148 rfl) ?_
      refine Ops.v rfl (op_load_ipA ld_99.h rfl rfl rfl rfl) ?_
      refine Ops.h (ns := []) rfl rfl (op_alloc (cs := [C.int 0, C.int 0, C.int 0]) ze_99 (cells_zero rfl rfl) rfl) ?_
      rintro _ _ ⟨b149, rfl, rfl⟩
      refine Ops.hd (ns := [0]) rfl rfl (op_storeA (gs := [C.int e147.kind, C.int e147.key, C.int e147.id]) ld_99.h rfl rfl rfl rfl rfl) ?_
      refine zz ?_
      refine Ops.v rfl (op_lookup (p := 9) (kc := mcBool) (z0 := false) mi_147 zv_4 (fun _ _ => rfl) rfl rfl rfl rfl) ?_
      refine zz ?_
      refine cnd h (fun hb150 h => ?_) fun hb150 h => ?_
      ·
       refine AW.cond rfl (fun hn => absurd ((not_t hb150).symm.trans hn) (by decide)) (fun _ => ?_)
       refine zz ?_
       exact ⟨(l143, m144, v142), h, Ghost.both (ns := [1, 1, 1, 1, 1, 1, 1, 1, 1]) rfl rfl⟩
      refine AW.cond rfl (fun _ => ?_) (fun hn => absurd ((not_f hb150).symm.trans hn) (by decide))
      refine zz ?_
      refine Ops.hd (ns := [9]) rfl rfl (op_mapUpdate (kc := mcBool) (v := true) mi_147 rfl rfl rfl rfl) ?_
      refine Ops.nil ?_
      refine AW.seq ?_
      refine AW.cut (τ := Int × Int × Int × Int × Int × Int × ByteArray × List Int × Int × Nat) (fun (x155, x156, x157, x158, x159, x160, x161, l162, x163, b154) => ⟨[(2, C.val (.pointer (some ⟨b1, 0, none⟩))), (5, C.val v36), (6, C.val v142), (9, C.val (.map (some b38))), (16, C.val (.pointer (some ⟨b154, 0, none⟩))), (53, C.im kEntryS 1 p1), (54, C.int (p1.length : Int)), (55, C.int x113), (59, C.im kEntry 3 e115), (60, C.int (e115.length : Int)), (61, C.int x145)], [Obj.box b1 75 [C.val (.pointer (some ⟨b00, 0, none⟩))], Obj.box b00 84 [C.int p0.graph.room, C.im kEvent 9 p0.graph.events, C.im kEvent 9 p0.graph.parked, C.val (.map (some b01)), C.val (.map (some b02)), C.val (.map (some b03)), C.val (.map (some b04))], Abs.Obj.map b01 .i64 mcI64 p0.depth, Abs.Obj.map b02 .i64 mcEntryS p0.before, Abs.Obj.map b03 .i64 mcEntryS p0.after, Abs.Obj.map b04 .i64 mcI64 p0.refused, Obj.arr v36 99 kEntry 3 l37, Obj.arr v142 38 kEvent 9 l143, Abs.Obj.map b38 .i64 mcBool (mset m144 e147.id true), Obj.box b154 38 [C.int x155, C.int x156, C.int x157, C.int x158, C.int x159, C.int x160, C.str x161, C.im kI64 1 l162, C.int x163]]⟩) (fun (x155, x156, x157, x158, x159, x160, x161, l162, x163, b154) => Z7n l143 m144 x145 e147 x155 x156 x157 x158 x159 x160 x161 l162 x163 = some y236) ?_ ?_
      ·
       refine AW.regionD (L := [0, 3, 5]) (Lt := [11]) (k := .light 0 true (.light 1 false (.light 2 false (.light 3 true (.light 4 false (.light 5 true (.two 6 10 (.light 7 false (.light 8 false (.light 9 false (.one 10 (.late 11 (.light 12 false .done)))))) (.one 6 (.light 7 false (.light 8 false (.light 9 false (.late 11 (.light 12 false .done))))))))))))) (ns := [0, 0, 0, 0, 0, 0, 0, 0, 0, 0]) (by kernel_rfl) (by kernel_rfl) (by kernel_rfl) (by kernel_rfl) rfl ?_
       refine zz ?_
       refine OpsD.v rfl rfl (op_nilCheck rfl rfl) ?_
       refine zz ?_
       refine OpsD.v rfl rfl (op_loadA (p := 3) (ds := [C.int p0.graph.room, C.im kEvent 9 p0.graph.events, C.im kEvent 9 p0.graph.parked]) ld_30.h rfl rfl rfl rfl rfl) ?_
       refine zz ?_
       refine ob' h fun r151 g152 h => ?_
       refine OpsD.two ?_ ?_
       ·
        refine StepD.h (ns := []) rfl rfl rfl (op_callE (Z3n _ _ _ g152) rfl rfl) ?_
        rintro _ _ ⟨rfl, rfl⟩
        refine zz ?_
        iterate 2 refine OpsD.v rfl rfl (op_extract rfl rfl rfl) ?_
        refine OpsD.one ?_
        refine StepD.h (ns := []) rfl rfl rfl (op_alloc (cs := [C.int 0, C.int 0, C.int 0, C.int 0, C.int 0, C.int 0, C.str ByteArray.empty, C.val (.slice none 0 0), C.int 0]) ze_38 (cells_zero rfl rfl) rfl) ?_
        rintro _ _ ⟨b153, rfl, rfl⟩
        refine OpsD.late (ns := [10]) rfl rfl rfl (op_storeA (gs := [C.int r151.1.id, C.int r151.1.room, C.int r151.1.author, C.int r151.1.kind, C.int r151.1.key, C.int r151.1.n, C.str r151.1.text, C.im kI64 1 r151.1.prev, C.int r151.1.time]) ld_38.h rfl rfl rfl rfl rfl) ?_
        rintro _ _ ⟨rfl, rfl⟩
        refine zz ?_
        exact ⟨(r151.1.id, r151.1.room, r151.1.author, r151.1.kind, r151.1.key, r151.1.n, r151.1.text, r151.1.prev, r151.1.time, b153), h, Ghost.both (ns := [3, 3, 3, 3, 3, 3, 3, 3, 1, 0]) rfl rfl⟩
       refine StepD.h (ns := []) rfl rfl rfl (op_alloc (cs := [C.int 0, C.int 0, C.int 0, C.int 0, C.int 0, C.int 0, C.str ByteArray.empty, C.val (.slice none 0 0), C.int 0]) ze_38 (cells_zero rfl rfl) rfl) ?_
       rintro _ _ ⟨b153, rfl, rfl⟩
       refine OpsD.one ?_
       refine StepD.h (ns := []) rfl rfl rfl (op_callE (Z3n _ _ _ g152) rfl rfl) ?_
       rintro _ _ ⟨rfl, rfl⟩
       refine zz ?_
       iterate 2 refine OpsD.v rfl rfl (op_extract rfl rfl rfl) ?_
       refine OpsD.late (ns := [10]) rfl rfl rfl (op_storeA (gs := [C.int r151.1.id, C.int r151.1.room, C.int r151.1.author, C.int r151.1.kind, C.int r151.1.key, C.int r151.1.n, C.str r151.1.text, C.im kI64 1 r151.1.prev, C.int r151.1.time]) ld_38.h rfl rfl rfl rfl rfl) ?_
       rintro _ _ ⟨rfl, rfl⟩
       refine zz ?_
       exact ⟨(r151.1.id, r151.1.room, r151.1.author, r151.1.kind, r151.1.key, r151.1.n, r151.1.text, r151.1.prev, r151.1.time, b153), h, Ghost.both (ns := [3, 3, 3, 3, 3, 3, 3, 3, 1, 0]) rfl rfl⟩
      rintro ⟨x155, x156, x157, x158, x159, x160, x161, l162, x163, b154⟩ h
      replace h : Z7n l143 m144 x145 e147 x155 x156 x157 x158 x159 x160 x161 l162 x163 = some y236 := h
      unfold Z7n at h
      refine zz ?_
      refine Ops.v rfl (op_loadA (p := 9) (ds := [C.int x155, C.int x156, C.int x157, C.int x158, C.int x159, C.int x160, C.str x161, C.im kI64 1 l162, C.int x163]) ld_38.h rfl rfl rfl rfl rfl) ?_
      refine Ops.h (ns := []) rfl rfl (op_buildSlice (k := kEvent) (ys := [(TEvent.mk x155 x156 x157 x158 x159 x160 x161 l162 x163)]) ar_28 (.agg rfl rfl .nil) rfl rfl rfl) ?_
      rintro _ _ ⟨b164, rfl, rfl⟩
      refine ob' h fun u166 c165 h => ?_
      refine Ops.h (ns := [8, 0]) rfl rfl (op_append ar_28 rfl rfl (of_decide_eq_true (chk_some c165)) (app63 (by decide) c165) rfl) ?_
      rintro _ _ ⟨v167, rfl, rfl⟩
      refine zz ?_
      exact ⟨((l143 ++ [(TEvent.mk x155 x156 x157 x158 x159 x160 x161 l162 x163)]), (mset m144 e147.id true), v167), h, Ghost.both (ns := [1, 1, 1, 1, 1, 1, 1, 0, 0]) rfl rfl⟩
     rintro ⟨l169, m170, v168⟩ h
     replace h : Z5h x145 l169 m170 = some y236 := h
     unfold Z5h at h
     refine zz ?_
     obtain rfl := Option.some.inj h
     exact ⟨k234, (l169, m170, (IntKind.i64.wrap (x145 + 1)), v168), hlt_k234, h237, Ghost.both (ns := [0, 0, 0, 0, 0, 0, 0, 0, 0]) rfl rfl⟩
    refine AW.cf hb146 rfl ?_
    refine AW.exit ?_
    obtain rfl := Option.some.inj h
    obtain rfl := Option.some.inj h237
    replace h := q233
    exact ⟨(l143, m144, v142), h, Ghost.both (ns := [0, 0, 0, 0, 0, 0, 0, 0, 0]) rfl rfl⟩
   rintro ⟨l172, m173, v171⟩ h
   replace h : Z7m x113 l172 m173 = some y229 := h
   unfold Z7m at h
   refine zz ?_
   obtain rfl := Option.some.inj h
   exact ⟨k227, (l172, m173, (IntKind.i64.wrap (x113 + 1)), v171), hlt_k227, h230, Ghost.both (ns := [0, 0, 0, 0, 0, 0, 0, 0, 0]) rfl rfl⟩
  refine AW.cf hb114 rfl ?_
  refine AW.exit ?_
  obtain rfl := Option.some.inj h
  obtain rfl := Option.some.inj h230
  replace h := q226
  exact ⟨(l111, v110), h, Ghost.both (ns := [0, 0, 0, 0, 0, 0, 0, 0]) rfl rfl⟩
 rintro ⟨l175, v174⟩ h
 replace h : Z7l p0 l37 l175 = some r := h
 unfold Z7l at h
 refine zz ?_
 refine Ops.v rfl (op_makeFunc rfl rfl) ?_
 refine ob' h fun r176 g177 h => ?_
 refine Ops.hd (ns := [7, 0, 0, 0, 0, 0, 0]) rfl rfl (op_sortFunc (k := kEvent) sorter_137 rfl rfl (CloOp.clo rfl) (FrzT.cons (os := [_, _, _, _, _, _]) (Frz.box (FrzL.cons (os := [_, _, _, _, _]) (Frz.box (FrzL.cons (os := []) (Frz.same _) (FrzL.cons (os := []) (Frz.same _) (FrzL.cons (os := []) (Frz.same _) (FrzL.cons (os := [_]) Frz.map (FrzL.cons (os := [_]) Frz.map (FrzL.cons (os := [_]) Frz.map (FrzL.cons (os := [_]) Frz.map FrzL.nil)))))))) FrzL.nil)) FrzT.nil) (fun z1 z2 r_ h_ => Zd3 z1 z2 p0 r_ h_) g177 rfl) ?_
 refine Ops.nil ?_
 refine AW.seq ?_
 refine AW.cut (τ := List TEntry) (fun l205 => ⟨[(5, C.im kEntry 3 l205)], [Obj.box b00 84 [C.int p0.graph.room, C.im kEvent 9 p0.graph.events, C.im kEvent 9 p0.graph.parked, C.val (.map (some b01)), C.val (.map (some b02)), C.val (.map (some b03)), C.val (.map (some b04))], Abs.Obj.map b01 .i64 mcI64 p0.depth, Abs.Obj.map b02 .i64 mcEntryS p0.before, Abs.Obj.map b03 .i64 mcEntryS p0.after, Abs.Obj.map b04 .i64 mcI64 p0.refused]⟩) (fun l205 => Z9v l205 = some r) ?_ ?_
 ·
  refine zz ?_
  refine Ops.v rfl (op_len_arr (p := 0) sl_28.h rfl rfl rfl) ?_
  refine zz ?_
  refine ob' h fun o217 g218 q219 => ?_
  refine AW.loop (τ := List TEntry × Int) (x := (l37, 0)) (fun (l193, x194) => ⟨[(2, C.val (.pointer (some ⟨b1, 0, none⟩))), (5, C.im kEntry 3 l193), (92, C.val v174), (93, C.int (r176.length : Int)), (94, C.int x194)], [Obj.box b1 75 [C.val (.pointer (some ⟨b00, 0, none⟩))], Obj.box b00 84 [C.int p0.graph.room, C.im kEvent 9 p0.graph.events, C.im kEvent 9 p0.graph.parked, C.val (.map (some b01)), C.val (.map (some b02)), C.val (.map (some b03)), C.val (.map (some b04))], Abs.Obj.map b01 .i64 mcI64 p0.depth, Abs.Obj.map b02 .i64 mcEntryS p0.before, Abs.Obj.map b03 .i64 mcEntryS p0.after, Abs.Obj.map b04 .i64 mcI64 p0.refused, Obj.arr v174 38 kEvent 9 r176]⟩) (fun k (l193, x194) => iter (fun z206 => Zn p0 r176 z206.1 z206.2) k (l193, x194) = some o217) g218 ((Ghost.freeze (p := 7) (t := 5) rfl rfl).trans (Ghost.both (ns := [1, 1, 1, 1, 1, 1, 0]) rfl rfl)) ?_
  rintro k ⟨l193, x194⟩ i221
  refine iter_succ' (show iter (fun z206 => Zn p0 r176 z206.1 z206.2) k (l193, x194) = some o217 from i221) fun k220 y222 hlt_k220 h h223 => ?_
  replace h : Zn p0 r176 l193 x194 = some y222 := h
  unfold Zn at h
  refine zz ?_
  refine cnd h (fun hb195 h => ?_) fun hb195 h => ?_
  ·
   refine AW.ct hb195 rfl ?_
   refine AW.skip ?_
   refine AW.seq ?_
   refine AW.cut (τ := List TEntry) (fun l204 => ⟨[(2, C.val (.pointer (some ⟨b1, 0, none⟩))), (5, C.im kEntry 3 l204), (92, C.val v174), (93, C.int (r176.length : Int)), (94, C.int x194)], [Obj.box b1 75 [C.val (.pointer (some ⟨b00, 0, none⟩))], Obj.box b00 84 [C.int p0.graph.room, C.im kEvent 9 p0.graph.events, C.im kEvent 9 p0.graph.parked, C.val (.map (some b01)), C.val (.map (some b02)), C.val (.map (some b03)), C.val (.map (some b04))], Abs.Obj.map b01 .i64 mcI64 p0.depth, Abs.Obj.map b02 .i64 mcEntryS p0.before, Abs.Obj.map b03 .i64 mcEntryS p0.after, Abs.Obj.map b04 .i64 mcI64 p0.refused, Obj.arr v174 38 kEvent 9 r176]⟩) (fun l204 => Z5g x194 l204 = some y222) ?_ ?_
   ·
    refine zz ?_
    refine ob' h fun e196 g197 h => ?_
    refine Ops.v rfl (op_indexAddr_arr (p := 6) sl_28.h rfl rfl rfl g197 rfl) ?_
    refine Ops.v rfl (op_loadA_arr (p := 6) ld_38.h rfl rfl (getI_lt g197).2.2 rfl rfl rfl) ?_
    refine Ops.h (ns := []) rfl rfl (op_alloc (cs := [C.int 0, C.int 0, C.int 0, C.int 0, C.int 0, C.int 0, C.str ByteArray.empty, C.val (.slice none 0 0), C.int 0]) ze_38 (cells_zero rfl rfl) rfl) ?_
    rintro _ _ ⟨b198, rfl, rfl⟩
    refine Ops.hd (ns := [0]) rfl rfl (op_storeA (gs := [C.int e196.id, C.int e196.room, C.int e196.author, C.int e196.kind, C.int e196.key, C.int e196.n, C.str e196.text, C.im kI64 1 e196.prev, C.int e196.time]) ld_38.h rfl rfl rfl rfl rfl) ?_
    refine zz ?_
    refine AW.regionD (L := [0, 3, 5]) (Lt := []) (k := .light 0 true (.light 1 false (.light 2 false (.light 3 true (.light 4 false (.light 5 true (.one 6 (.light 7 false .done)))))))) (ns := [0, 0, 0, 0, 0, 0, 0, 0]) (by kernel_rfl) (by kernel_rfl) (by kernel_rfl) (by kernel_rfl) rfl ?_
    refine zz ?_
    refine OpsD.v rfl rfl (op_nilCheck rfl rfl) ?_
    refine zz ?_
    refine OpsD.v rfl rfl (op_loadA (p := 2) (ds := [C.int p0.graph.room, C.im kEvent 9 p0.graph.events, C.im kEvent 9 p0.graph.parked]) ld_30.h rfl rfl rfl rfl rfl) ?_
    refine zz ?_
    refine OpsD.v rfl rfl (op_loadA (p := 0) (ds := [C.int e196.id, C.int e196.room, C.int e196.author, C.int e196.kind, C.int e196.key, C.int e196.n, C.str e196.text, C.im kI64 1 e196.prev, C.int e196.time]) ld_38.h rfl rfl rfl rfl rfl) ?_
    refine zz ?_
    refine ob' h fun r199 g200 h => ?_
    refine StepD.h (ns := []) rfl rfl rfl (op_callE (Zbn _ _ _ _ g200) rfl rfl) ?_
    rintro _ _ ⟨rfl, rfl⟩
    refine zz ?_
    refine cnd h (fun hb201 h => ?_) fun hb201 h => ?_
    ·
     refine AW.ct hb201 rfl ?_
     refine zz ?_
     refine Ops.v rfl (op_build (ds := [C.int e196.kind, C.int e196.key, C.int e196.id]) pl_99 ze_99 (cells_zero rfl rfl) (.one rfl (One.val rfl) rfl rfl (.one rfl (One.val rfl) rfl rfl (.one rfl (One.val rfl) rfl rfl .nil))) rfl) ?_
     refine ob' h fun r202 g203 h => ?_
     refine Ops.hd (ns := []) rfl rfl (op_callE (Za4' _ _ _ g203) rfl rfl) ?_
     refine zz ?_
     exact ⟨r202, h, Ghost.both (ns := [1, 1, 1, 1, 1, 1, 1]) rfl rfl⟩
    refine AW.cf hb201 rfl ?_
    refine zz ?_
    exact ⟨l193, h, Ghost.both (ns := [1, 1, 1, 1, 1, 1, 1]) rfl rfl⟩
   intro l204 h
   replace h : Z5g x194 l204 = some y222 := h
   unfold Z5g at h
   refine zz ?_
   obtain rfl := Option.some.inj h
   exact ⟨k220, (l204, (IntKind.i64.wrap (x194 + 1))), hlt_k220, h223, Ghost.both (ns := [0, 0, 0, 0, 0, 0, 0]) rfl rfl⟩
  refine AW.cf hb195 rfl ?_
  refine AW.exit ?_
  obtain rfl := Option.some.inj h
  obtain rfl := Option.some.inj h223
  replace h := q219
  exact ⟨l193, h, Ghost.both (ns := [1, 1, 1, 1, 1]) rfl rfl⟩
 intro l205 h
 replace h : Z9v l205 = some r := h
 unfold Z9v at h
 refine zz ?_
 refine AW.ret ?_
 rw [← Option.some.inj h]
 exact ⟨[C.im kEntry 3 l205], _, Ghost.refl _, (.cons (.tmp rfl) .nil), [0, 0, 0, 0, 0], _, _, rfl, ⟨rfl, rfl⟩⟩

def Z3q (p0 : List Int) : Option (List Int) := (chk (decide (p0.length * 8 ≤ 140737488355328))).bind fun _ => some p0
theorem Zc3 (p0 : List Int) (r : List Int) (h : Z3q p0 = some r) : Ok Tryz.prog 194 [C.im kI64 1 p0] [] (fun c qs => ∃ (v : Value), c = C.val v ∧ qs = [Obj.arr v 2 kI64 1 r]) := by
 refine ob' h fun u hc h => ?_
 obtain rfl := Option.some.inj h
 have hc := of_decide_eq_true (chk_some hc)
 refine Ok.of_body (rs := [.tmp 2]) Tryz.func194 rfl rfl rfl rfl rfl fun X => ?_
 refine zz ?_
 refine Ops.h (ns := []) rfl rfl (op_nil_im sl_26.h rfl rfl) ?_
 rintro _ _ ⟨b, hb, rfl, rfl⟩
 refine zz ?_
 refine tf' b (fun hq => ?_) (fun hq => ?_)
 ·
  refine AW.cond rfl (fun _ => ?_) (fun hn => absurd (hq.symm.trans hn) (by decide))
  refine zz ?_
  refine AW.ret ?_
  obtain rfl := hb hq
  exact ⟨[C.val (.slice none 0 0)], _, Ghost.nil 2 kI64 1, .cons (.tmp rfl) .nil, [0], _, _, rfl, ⟨_, rfl, rfl⟩⟩
 refine AW.cond rfl (fun hn => absurd (hq.symm.trans hn) (by decide)) (fun _ => ?_)
 refine zz ?_
 refine Ops.h (ns := []) rfl rfl (op_buildSlice (k := kI64) (ys := ([] : List Int)) ar_26 .nil rfl rfl rfl) ?_
 rintro _ _ ⟨b1, rfl, rfl⟩
 refine zz ?_
 refine Ops.h (ns := [0]) rfl rfl (op_append_im ar_26 rfl rfl (by simpa using hc) (by simp; omega) rfl) ?_
 rintro _ _ ⟨v, rfl, rfl⟩
 refine zz ?_
 refine AW.ret ?_
 exact ⟨[C.val v], _, Ghost.refl _, .cons (.tmp rfl) .nil, [0], _, _, rfl, ⟨v, rfl, rfl⟩⟩
def Z9p : Option Bool := some false
def Z4v (x24 : Int) (m36 : List (Int × Bool)) (l38 : List Int) : Option (((List (Int × Bool)) × List Int × Int) ⊕ (Bool ⊕ Unit)) := some (.inl (m36, l38, (IntKind.i64.wrap (x24 + 1))))
def Z32 (p0 : TGraph') (p1 : Int) (m21 : List (Int × Bool)) (l23 : List Int) (x24 : Int) : Option (((List (Int × Bool)) × List Int × Int) ⊕ (Bool ⊕ Unit)) := cond (decide (x24 < (l23.length : Int))) ((getI l23 x24).bind fun e26 => cond (e26 == p1) (some (.inr (.inl true))) (cond (Option.getD (mget m21 e26) false) (Z4v x24 m21 l23) ((Zf p0 e26).bind fun r30 => (chk (decide ((l23.length + r30.1.prev.length) * 8 ≤ 140737488355328))).bind fun u34 => Z4v x24 (mset m21 e26 true) (l23 ++ r30.1.prev)))) (some (.inr (.inr ())))
def Z1d (p0 : TGraph') (p1 : Int) (p2 : TEvent) : Option Bool := (Z3q p2.prev).bind fun r4 => (iter (fun z39 => Z32 p0 p1 z39.1 z39.2.1 z39.2.2) big (([] : List (Int × Bool)), r4, 0)).bind (fun z41 => match z41 with | .inl y40 => some y40 | .inr () => Z9p)
set_option maxHeartbeats 1000000 in
theorem Zcs (p0 : TGraph') (p1 : Int) (p2 : TEvent) (r : Bool) (h : Z1d p0 p1 p2 = some r) : Ok Tryz.prog 172 [C.agg [C.int p0.room, C.im kEvent 9 p0.events, C.im kEvent 9 p0.parked], C.int p1, C.agg [C.int p2.id, C.int p2.room, C.int p2.author, C.int p2.kind, C.int p2.key, C.int p2.n, C.str p2.text, C.im kI64 1 p2.prev, C.int p2.time]] [] (fun c qs => c = C.bool r ∧ qs = []) := by
 refine Ok.of_body (rs := [.tmp 6]) Tryz.func172 rfl rfl rfl rfl rfl fun X => ?_
 unfold Z1d at h
 refine zz ?_
 refine Ops.h (ns := []) rfl rfl (op_boxA rfl rfl) ?_
 rintro _ _ ⟨b1, rfl, rfl⟩
 refine Ops.h (ns := []) rfl rfl (op_boxA rfl rfl) ?_
 rintro _ _ ⟨b2, rfl, rfl⟩
 refine zz ?_
 refine Ops.h (ns := []) rfl rfl (op_makeMap (kd := .i64) (kc := mcBool) rfl) ?_
 rintro _ _ ⟨b3, rfl, rfl⟩
 refine zz ?_
 refine ob' h fun r4 g5 h => ?_
 refine Ops.h (ns := []) rfl rfl (op_call (Zc3 _ _ g5) rfl rfl) ?_
 rintro _ _ ⟨_, ⟨v6, rfl, rfl⟩, rfl⟩
 refine Ops.v rfl (op_assign rfl rfl) ?_
 refine Ops.v rfl (op_assign rfl rfl) ?_
 refine Ops.nil ?_
 refine AW.seq ?_
 refine AW.cut (τ := Unit) (fun (_ : Unit) => ⟨[], []⟩) (fun (_ : Unit) => Z9p = some r) ?_ ?_
 ·
  refine zz ?_
  refine ob' h fun o42 g43 q44 => ?_
  refine AW.loop (τ := (List (Int × Bool)) × List Int × Int × Value) (x := (([] : List (Int × Bool)), r4, 0, v6)) (fun (m21, l23, x24, v22) => ⟨[(1, C.int p1), (3, C.val (.pointer (some ⟨b1, 0, none⟩))), (7, C.val (.map (some b3))), (8, C.val v22), (9, C.int x24)], [Obj.box b1 30 [C.int p0.room, C.im kEvent 9 p0.events, C.im kEvent 9 p0.parked], Abs.Obj.map b3 .i64 mcBool m21, Obj.arr v22 2 kI64 1 l23]⟩) (fun k (m21, l23, x24, v22) => iter (fun z39 => Z32 p0 p1 z39.1 z39.2.1 z39.2.2) k (m21, l23, x24) = some o42) g43 (Ghost.both (ns := [3, 1, 0]) rfl rfl) ?_
  rintro k ⟨m21, l23, x24, v22⟩ i46
  refine iter_succ' (show iter (fun z39 => Z32 p0 p1 z39.1 z39.2.1 z39.2.2) k (m21, l23, x24) = some o42 from i46) fun k45 y47 hlt_k45 h h48 => ?_
  replace h : Z32 p0 p1 m21 l23 x24 = some y47 := h
  unfold Z32 at h
  refine zz ?_
  refine Ops.v rfl (op_len_arr (p := 2) sl_26.h rfl rfl rfl) ?_
  refine zz ?_
  refine cnd h (fun hb25 h => ?_) fun hb25 h => ?_
  ·
   refine AW.ct hb25 rfl ?_
   refine AW.skip ?_
   refine AW.seq ?_
   refine AW.cut (τ := (List (Int × Bool)) × List Int × Value) (fun (m36, l38, v37) => ⟨[(1, C.int p1), (3, C.val (.pointer (some ⟨b1, 0, none⟩))), (7, C.val (.map (some b3))), (8, C.val v37), (9, C.int x24)], [Obj.box b1 30 [C.int p0.room, C.im kEvent 9 p0.events, C.im kEvent 9 p0.parked], Abs.Obj.map b3 .i64 mcBool m36, Obj.arr v37 2 kI64 1 l38]⟩) (fun (m36, l38, v37) => Z4v x24 m36 l38 = some y47) ?_ ?_
   ·
    refine zz ?_
    refine ob' h fun e26 g27 h => ?_
    refine Ops.v rfl (op_indexAddr_arr (p := 2) sl_26.h rfl rfl rfl g27 rfl) ?_
    refine Ops.v rfl (op_load_arr (p := 2) ld_2.h rfl rfl (getI_lt g27).2.2 rfl rfl) ?_
    refine zz ?_
    refine cnd h (fun hb28 h => ?_) fun hb28 h => ?_
    ·
     refine AW.ct hb28 rfl ?_
     refine zz ?_
     refine AW.ret ?_
     obtain rfl := Option.some.inj h
     obtain rfl := Option.some.inj h48
     replace h := q44
     rw [← Option.some.inj h]
     exact ⟨[C.bool true], _, Ghost.refl _, (.cons (.tmp rfl) .nil), [], _, _, rfl, ⟨rfl, rfl⟩⟩
    refine AW.cf hb28 rfl ?_
    refine zz ?_
    refine Ops.v rfl (op_lookup (p := 1) (kc := mcBool) (z0 := false) mi_147 zv_4 (fun _ _ => rfl) rfl rfl rfl rfl) ?_
    refine zz ?_
    refine cnd h (fun hb29 h => ?_) fun hb29 h => ?_
    ·
     refine AW.cond rfl (fun hn => absurd ((not_t hb29).symm.trans hn) (by decide)) (fun _ => ?_)
     refine zz ?_
     exact ⟨(m21, l23, v22), h, Ghost.both (ns := [0, 0, 0]) rfl rfl⟩
    refine AW.cond rfl (fun _ => ?_) (fun hn => absurd ((not_f hb29).symm.trans hn) (by decide))
    refine zz ?_
    refine Ops.hd (ns := [1]) rfl rfl (op_mapUpdate (kc := mcBool) (v := true) mi_147 rfl rfl rfl rfl) ?_
    refine zz ?_
    refine Ops.v rfl (op_loadA (p := 1) (ds := [C.int p0.room, C.im kEvent 9 p0.events, C.im kEvent 9 p0.parked]) ld_30.h rfl rfl rfl rfl rfl) ?_
    refine zz ?_
    refine ob' h fun r30 g31 h => ?_
    refine Ops.hd (ns := []) rfl rfl (op_callE (Z3n _ _ _ g31) rfl rfl) ?_
    refine zz ?_
    iterate 2 refine Ops.v rfl (op_extract rfl rfl rfl) ?_
    refine Ops.h (ns := []) rfl rfl (op_alloc (cs := [C.int 0, C.int 0, C.int 0, C.int 0, C.int 0, C.int 0, C.str ByteArray.empty, C.val (.slice none 0 0), C.int 0]) ze_38 (cells_zero rfl rfl) rfl) ?_
    rintro _ _ ⟨b32, rfl, rfl⟩
    refine Ops.hd (ns := [0]) rfl rfl (op_storeA (gs := [C.int r30.1.id, C.int r30.1.room, C.int r30.1.author, C.int r30.1.kind, C.int r30.1.key, C.int r30.1.n, C.str r30.1.text, C.im kI64 1 r30.1.prev, C.int r30.1.time]) ld_38.h rfl rfl rfl rfl rfl) ?_
    refine zz ?_
    refine ob' h fun u34 c33 h => ?_
    refine Ops.h (ns := [3]) rfl rfl (op_append_im ar_26 rfl rfl (of_decide_eq_true (chk_some c33)) (app63 (by decide) c33) rfl) ?_
    rintro _ _ ⟨v35, rfl, rfl⟩
    refine zz ?_
    exact ⟨((mset m21 e26 true), (l23 ++ r30.1.prev), v35), h, Ghost.both (ns := [3, 2, 0]) rfl rfl⟩
   rintro ⟨m36, l38, v37⟩ h
   replace h : Z4v x24 m36 l38 = some y47 := h
   unfold Z4v at h
   refine zz ?_
   obtain rfl := Option.some.inj h
   exact ⟨k45, (m36, l38, (IntKind.i64.wrap (x24 + 1)), v37), hlt_k45, h48, Ghost.both (ns := [0, 0, 0]) rfl rfl⟩
  refine AW.cf hb25 rfl ?_
  refine AW.exit ?_
  obtain rfl := Option.some.inj h
  obtain rfl := Option.some.inj h48
  replace h := q44
  exact ⟨(), h, Ghost.both (ns := []) rfl rfl⟩
 rintro ⟨⟩ h
 replace h : Z9p = some r := h
 unfold Z9p at h
 refine zz ?_
 refine AW.ret ?_
 rw [← Option.some.inj h]
 exact ⟨[C.bool false], _, Ghost.refl _, (.cons (.tmp rfl) .nil), [], _, _, rfl, ⟨rfl, rfl⟩⟩

end Go.Proofs.YtnndihmamfomcaaGreat
