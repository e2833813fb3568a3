/- Printed by gen.py: plain functions for Go functions, and that the walks keep to them. -/
import Derived.Test.YtnndihmamfomcaaGreatCQ4
set_option autoImplicit false
set_option linter.unusedVariables false
set_option linter.unusedSimpArgs false
set_option maxRecDepth 100000
namespace Go.Proofs.YtnndihmamfomcaaGreat
open Go Go.Abs
attribute [local irreducible] AW Ops OpsD StepD
def Z7a (l34 : List TEvent) : Option (List TEvent) := some l34
def Z5e (x19 : Int) (l32 : List TEvent) : Option ((List TEvent × Int) ⊕ ((List TEvent))) := some (.inl (l32, (IntKind.i64.wrap (x19 + 1))))
def Z1j (p0 : THistory) (r2 : List Int) (l18 : List TEvent) (x19 : Int) : Option ((List TEvent × Int) ⊕ ((List TEvent))) := cond (decide (x19 < (r2.length : Int))) ((getI r2 x19).bind fun e21 => (Ze p0.graph e21).bind fun r23 => cond ((Option.getD (mget p0.refused e21) 0) == 0) ((chk (decide ((l18.length + [r23.1].length) * 96 ≤ 140737488355328))).bind fun u29 => Z5e x19 (l18 ++ [r23.1])) (Z5e x19 l18)) (some (.inr l18))
def Z79 (p0 : THistory) : Option (List TEvent) := (Z38 p0.graph).bind fun r2 => (iter (fun z36 => Z1j p0 r2 z36.1 z36.2) big (([] : List TEvent), 0)).bind fun y37 => Z7a y37
theorem Zcd {b00 : Nat} {b01 : Nat} {b02 : Nat} {b03 : Nat} {b04 : Nat} (p0 : THistory) (r : List TEvent) (h : Z79 p0 = some r) : Ok Tryz.prog 63 [C.val (.pointer (some ⟨b00, 0, none⟩))] [Obj.box b00 84 [C.int p0.graph.room, C.im kEvent 9 p0.graph.events, C.im kEvent 9 p0.graph.parked, C.val (.map (some b01)), C.val (.map (some b02)), C.val (.map (some b03)), C.val (.map (some b04))], Abs.Obj.map b01 .i64 mcI64 p0.depth, Abs.Obj.map b02 .i64 mcEntryS p0.before, Abs.Obj.map b03 .i64 mcEntryS p0.after, Abs.Obj.map b04 .i64 mcI64 p0.refused] (fun c qs => ∃ (v35 : Value), c = C.val v35 ∧ qs = [Obj.arr v35 38 kEvent 9 r, Obj.box b00 84 [C.int p0.graph.room, C.im kEvent 9 p0.graph.events, C.im kEvent 9 p0.graph.parked, C.val (.map (some b01)), C.val (.map (some b02)), C.val (.map (some b03)), C.val (.map (some b04))], Abs.Obj.map b01 .i64 mcI64 p0.depth, Abs.Obj.map b02 .i64 mcEntryS p0.before, Abs.Obj.map b03 .i64 mcEntryS p0.after, Abs.Obj.map b04 .i64 mcI64 p0.refused]) := by
 refine Ok.of_body (rs := [.tmp 2]) Tryz.func63 rfl rfl rfl rfl rfl fun X => ?_
 unfold Z79 at h
 refine zz ?_
 refine Ops.h (ns := []) rfl rfl (op_buildSlice (k := kEvent) (ys := ([] : List TEvent)) ar_28 .nil rfl rfl rfl) ?_
 rintro _ _ ⟨b1, rfl, rfl⟩
 refine Ops.v rfl (op_assign rfl rfl) ?_
 refine Ops.nil ?_
 refine AW.seq ?_
 refine AW.cut (τ := List TEvent × Value) (fun (l34, v33) => ⟨[(3, C.val v33)], [Obj.arr v33 38 kEvent 9 l34, Obj.box b00 84 [C.int p0.graph.room, C.im kEvent 9 p0.graph.events, C.im kEvent 9 p0.graph.parked, C.val (.map (some b01)), C.val (.map (some b02)), C.val (.map (some b03)), C.val (.map (some b04))], Abs.Obj.map b01 .i64 mcI64 p0.depth, Abs.Obj.map b02 .i64 mcEntryS p0.before, Abs.Obj.map b03 .i64 mcEntryS p0.after, Abs.Obj.map b04 .i64 mcI64 p0.refused]⟩) (fun (l34, v33) => Z7a l34 = some r) ?_ ?_
 ·
  refine zz ?_
  refine Ops.v rfl (op_nilCheck rfl rfl) ?_
  refine zz ?_
  refine Ops.v rfl (op_loadA (p := 1) (ds := [C.int p0.graph.room, C.im kEvent 9 p0.graph.events, C.im kEvent 9 p0.graph.parked]) ld_30.h rfl rfl rfl rfl rfl) ?_
  refine ob' h fun r2 g3 h => ?_
  refine Ops.hd (ns := []) rfl rfl (op_callE (Z9p' _ _ g3) rfl rfl) ?_
  refine zz ?_
  refine ob' h fun o38 g39 q40 => ?_
  refine AW.loop (τ := List TEvent × Int × Value) (x := (([] : List TEvent), 0, (.slice (some ⟨b1, 0, none⟩) 0 0))) (fun (l18, x19, v17) => ⟨[(0, C.val (.pointer (some ⟨b00, 0, none⟩))), (3, C.val v17), (13, C.im kI64 1 r2), (14, C.int (r2.length : Int)), (15, C.int x19)], [Obj.box b00 84 [C.int p0.graph.room, C.im kEvent 9 p0.graph.events, C.im kEvent 9 p0.graph.parked, C.val (.map (some b01)), C.val (.map (some b02)), C.val (.map (some b03)), C.val (.map (some b04))], Abs.Obj.map b01 .i64 mcI64 p0.depth, Abs.Obj.map b02 .i64 mcEntryS p0.before, Abs.Obj.map b03 .i64 mcEntryS p0.after, Abs.Obj.map b04 .i64 mcI64 p0.refused, Obj.arr v17 38 kEvent 9 l18]⟩) (fun k (l18, x19, v17) => iter (fun z36 => Z1j p0 r2 z36.1 z36.2) k (l18, x19) = some o38) g39 (Ghost.both (ns := [1, 1, 1, 1, 1, 0]) rfl rfl) ?_
  rintro k ⟨l18, x19, v17⟩ i42
  refine iter_succ' (show iter (fun z36 => Z1j p0 r2 z36.1 z36.2) k (l18, x19) = some o38 from i42) fun k41 y43 hlt_k41 h h44 => ?_
  replace h : Z1j p0 r2 l18 x19 = some y43 := h
  unfold Z1j at h
  refine zz ?_
  refine cnd h (fun hb20 h => ?_) fun hb20 h => ?_
  ·
   refine AW.ct hb20 rfl ?_
   refine AW.skip ?_
   refine AW.seq ?_
   refine AW.cut (τ := List TEvent × Value) (fun (l32, v31) => ⟨[(0, C.val (.pointer (some ⟨b00, 0, none⟩))), (3, C.val v31), (13, C.im kI64 1 r2), (14, C.int (r2.length : Int)), (15, C.int x19)], [Obj.box b00 84 [C.int p0.graph.room, C.im kEvent 9 p0.graph.events, C.im kEvent 9 p0.graph.parked, C.val (.map (some b01)), C.val (.map (some b02)), C.val (.map (some b03)), C.val (.map (some b04))], Abs.Obj.map b01 .i64 mcI64 p0.depth, Abs.Obj.map b02 .i64 mcEntryS p0.before, Abs.Obj.map b03 .i64 mcEntryS p0.after, Abs.Obj.map b04 .i64 mcI64 p0.refused, Obj.arr v31 38 kEvent 9 l32]⟩) (fun (l32, v31) => Z5e x19 l32 = some y43) ?_ ?_
   ·
    refine zz ?_
    refine ob' h fun e21 g22 h => ?_
    refine Ops.v rfl (op_indexAddr_im sl_26.h rfl rfl g22 rfl) ?_
    refine Ops.v rfl (op_load_ip ld_2.h rfl rfl) ?_
    refine zz ?_
    refine Ops.v rfl (op_nilCheck rfl rfl) ?_
    refine zz ?_
    refine Ops.v rfl (op_loadA (p := 0) (ds := [C.int p0.graph.room, C.im kEvent 9 p0.graph.events, C.im kEvent 9 p0.graph.parked]) ld_30.h rfl rfl rfl rfl rfl) ?_
    refine zz ?_
    refine ob' h fun r23 g24 h => ?_
    refine Ops.hd (ns := []) rfl rfl (op_callE (Z3p _ _ _ g24) rfl rfl) ?_
    refine zz ?_
    iterate 2 refine Ops.v rfl (op_extract rfl rfl rfl) ?_
    refine Ops.h (ns := []) rfl rfl (op_alloc (cs := [C.int 0, C.int 0, C.int 0, C.int 0, C.int 0, C.int 0, C.str ByteArray.empty, C.val (.slice none 0 0), C.int 0]) ze_38 (cells_zero rfl rfl) rfl) ?_
    rintro _ _ ⟨b25, rfl, rfl⟩
    refine Ops.hd (ns := [0]) rfl rfl (op_storeA (gs := [C.int r23.1.id, C.int r23.1.room, C.int r23.1.author, C.int r23.1.kind, C.int r23.1.key, C.int r23.1.n, C.str r23.1.text, C.im kI64 1 r23.1.prev, C.int r23.1.time]) ld_38.h rfl rfl rfl rfl rfl) ?_
    refine zz ?_
    refine Ops.v rfl (op_nilCheck rfl rfl) ?_
    refine zz ?_
    refine Ops.v rfl (op_lookup (p := 5) (kc := mcI64) (z0 := 0) mi_81 zv_2 (fun _ _ => rfl) rfl rfl rfl rfl) ?_
    refine zz ?_
    refine cnd h (fun hb26 h => ?_) fun hb26 h => ?_
    ·
     refine AW.ct hb26 rfl ?_
     refine zz ?_
     refine Ops.v rfl (op_loadA (p := 0) (ds := [C.int r23.1.id, C.int r23.1.room, C.int r23.1.author, C.int r23.1.kind, C.int r23.1.key, C.int r23.1.n, C.str r23.1.text, C.im kI64 1 r23.1.prev, C.int r23.1.time]) ld_38.h rfl rfl rfl rfl rfl) ?_
     refine Ops.h (ns := []) rfl rfl (op_buildSlice (k := kEvent) (ys := [r23.1]) ar_28 (.agg rfl rfl .nil) rfl rfl rfl) ?_
     rintro _ _ ⟨b27, rfl, rfl⟩
     refine ob' h fun u29 c28 h => ?_
     refine Ops.h (ns := [7, 0]) rfl rfl (op_append ar_28 rfl rfl (of_decide_eq_true (chk_some c28)) (app63 (by decide) c28) rfl) ?_
     rintro _ _ ⟨v30, rfl, rfl⟩
     refine zz ?_
     exact ⟨((l18 ++ [r23.1]), v30), h, Ghost.both (ns := [2, 2, 2, 2, 2, 0]) rfl rfl⟩
    refine AW.cf hb26 rfl ?_
    refine zz ?_
    exact ⟨(l18, v17), h, Ghost.both (ns := [1, 1, 1, 1, 1, 1]) rfl rfl⟩
   rintro ⟨l32, v31⟩ h
   replace h : Z5e x19 l32 = some y43 := h
   unfold Z5e at h
   refine zz ?_
   obtain rfl := Option.some.inj h
   exact ⟨k41, (l32, (IntKind.i64.wrap (x19 + 1)), v31), hlt_k41, h44, Ghost.both (ns := [0, 0, 0, 0, 0, 0]) rfl rfl⟩
  refine AW.cf hb20 rfl ?_
  refine AW.exit ?_
  obtain rfl := Option.some.inj h
  obtain rfl := Option.some.inj h44
  replace h := q40
  exact ⟨(l18, v17), h, Ghost.both (ns := [5, 0, 0, 0, 0, 0]) rfl rfl⟩
 rintro ⟨l34, v33⟩ h
 replace h : Z7a l34 = some r := h
 unfold Z7a at h
 refine zz ?_
 refine AW.ret ?_
 rw [← Option.some.inj h]
 exact ⟨[C.val v33], _, Ghost.refl _, (.cons (.tmp rfl) .nil), [0, 0, 0, 0, 0, 0], _, _, rfl, ⟨v33, rfl, rfl⟩⟩

def Z9c (l53 : List Int) : Option (List Int) := some l53
def Z5a (x37 : Int) (x49 : Int) (l51 : List Int) : Option ((Int × List Int × Int) ⊕ ((List Int))) := some (.inl (x49, l51, (IntKind.i64.wrap (x37 + 1))))
def Z1i (p1 : Int) (r9 : THistory) (r17 : List TEvent) (x34 : Int) (l36 : List Int) (x37 : Int) : Option ((Int × List Int × Int) ⊕ ((List Int))) := cond (decide (x37 < (r17.length : Int))) ((getI r17 x37).bind fun e39 => (Zl r9.graph (Option.getD (mget r9.after e39.id) ([] : List TEntry)) p1).bind fun r42 => cond (r42 != x34) ((chk (decide ((l36.length + [r42].length) * 8 ≤ 140737488355328))).bind fun u47 => Z5a x37 r42 (l36 ++ [r42])) (Z5a x37 x34 l36)) (some (.inr l36))
def Z3a (p0 : TGraph') (p1 : Int) (x7 : Bool) : Option (List Int) := cond x7 (some []) ((Z7j p0).bind fun r9 => (Z79 r9).bind fun r17 => (iter (fun z55 => Z1i p1 r9 r17 z55.1 z55.2.1 z55.2.2) big (0, ([] : List Int), 0)).bind fun y56 => Z9c y56)
def Z39 (p0 : TGraph') (p1 : Int) : Option (List Int) := (Z71 p0).bind fun r2 => cond r2 ((Z1p p1).bind fun r5 => Z3a p0 p1 (!r5)) (Z3a p0 p1 true)
set_option maxHeartbeats 1000000 in
theorem Z9r (p0 : TGraph') (p1 : Int) (r : List Int) (h : Z39 p0 p1 = some r) : Ok Tryz.prog 19 [C.agg [C.int p0.room, C.im kEvent 9 p0.events, C.im kEvent 9 p0.parked], C.int p1] [] (fun c qs => ∃ (v54 : Value), c = C.val v54 ∧ qs = [Obj.arr v54 2 kI64 1 r]) := by
 refine Ok.of_body (rs := [.tmp 4]) Tryz.func19 rfl rfl rfl rfl rfl fun X => ?_
 unfold Z39 at h
 refine zz ?_
 refine Ops.h (ns := []) rfl rfl (op_boxA rfl rfl) ?_
 rintro _ _ ⟨b1, rfl, rfl⟩
 refine Ops.v rfl (op_assign rfl rfl) ?_
 refine Ops.nil ?_
 refine AW.seq ?_
 refine AW.seq ?_
 refine AW.cut (τ := Bool) (fun x7 => ⟨[(1, C.int p1), (2, C.val (.pointer (some ⟨b1, 0, none⟩))), (18, C.bool x7)], [Obj.box b1 30 [C.int p0.room, C.im kEvent 9 p0.events, C.im kEvent 9 p0.parked]]⟩) (fun x7 => Z3a p0 p1 x7 = some r) ?_ ?_
 ·
  refine zz ?_
  refine Ops.v rfl (op_loadA (p := 0) (ds := [C.int p0.room, C.im kEvent 9 p0.events, C.im kEvent 9 p0.parked]) ld_30.h rfl rfl rfl rfl rfl) ?_
  refine ob' h fun r2 g3 h => ?_
  refine Ops.hd (ns := []) rfl rfl (op_callE (Zc5 _ _ g3) rfl rfl) ?_
  refine zz ?_
  refine cnd h (fun hb4 h => ?_) fun hb4 h => ?_
  ·
   refine Ops.gv rfl rfl rfl rfl (not_t hb4) (op_move rfl rfl) ?_
   refine ob' h fun r5 g6 h => ?_
   refine Ops.ghd (ns := []) rfl rfl rfl rfl (not_t hb4) rfl (op_callE (Z9s _ _ g6) rfl rfl) ?_
   refine Ops.gv rfl rfl rfl rfl (not_t hb4) (op_not rfl rfl) ?_
   refine Ops.v rfl (op_pick_f rfl (not_t hb4) rfl rfl) ?_
   refine zz ?_
   exact ⟨(!r5), h, Ghost.both (ns := [0]) rfl rfl⟩
  iterate 3 refine Ops.gs rfl rfl rfl (.b rfl (not_f hb4)) rfl rfl ?_
  refine Ops.v rfl (op_pick_t rfl (not_f hb4) rfl rfl) ?_
  refine zz ?_
  exact ⟨true, h, Ghost.both (ns := [0]) rfl rfl⟩
 intro x7 h
 replace h : Z3a p0 p1 x7 = some r := h
 unfold Z3a at h
 refine cnd h (fun hb8 h => ?_) fun hb8 h => ?_
 ·
  refine AW.ct hb8 rfl ?_
  refine zz ?_
  refine AW.ret ?_
  rw [← Option.some.inj h]
  exact ⟨[C.val (.slice none 0 0)], _, Ghost.nil 2 kI64 1, (.cons (.tmp rfl) .nil), [0], _, _, rfl, ⟨(.slice none 0 0), rfl, rfl⟩⟩
 refine AW.cf hb8 rfl ?_
 refine zz ?_
 refine Ops.v rfl (op_loadA (p := 0) (ds := [C.int p0.room, C.im kEvent 9 p0.events, C.im kEvent 9 p0.parked]) ld_30.h rfl rfl rfl rfl rfl) ?_
 refine ob' h fun r9 g10 h => ?_
 refine Ops.h (ns := []) rfl rfl (op_call (Zcl _ _ g10) rfl rfl) ?_
 rintro _ _ ⟨_, ⟨b11, b12, b13, b14, b15, rfl, rfl⟩, rfl⟩
 refine Ops.h (ns := []) rfl rfl (op_buildSlice (k := kI64) (ys := ([] : List Int)) ar_26 .nil rfl rfl rfl) ?_
 rintro _ _ ⟨b16, rfl, rfl⟩
 refine Ops.v rfl (op_assign rfl rfl) ?_
 refine Ops.v rfl (op_assign rfl rfl) ?_
 refine Ops.v rfl (op_assign rfl rfl) ?_
 refine Ops.nil ?_
 refine AW.seq ?_
 refine AW.cut (τ := List Int × Value) (fun (l53, v52) => ⟨[(7, C.val v52)], [Obj.arr v52 2 kI64 1 l53]⟩) (fun (l53, v52) => Z9c l53 = some r) ?_ ?_
 ·
  refine zz ?_
  refine ob' h fun r17 g18 h => ?_
  refine Ops.h (ns := [1, 1, 1, 1, 1]) rfl rfl (op_call (Zcd r9 _ g18) rfl rfl) ?_
  rintro _ _ ⟨_, ⟨v19, rfl, rfl⟩, rfl⟩
  refine Ops.v rfl (op_len_arr (p := 0) sl_28.h rfl rfl rfl) ?_
  refine zz ?_
  refine ob' h fun o57 g58 q59 => ?_
  refine AW.loop (τ := Int × List Int × Int × Value) (x := (0, ([] : List Int), 0, (.slice (some ⟨b16, 0, none⟩) 0 0))) (fun (x34, l36, x37, v35) => ⟨[(1, C.int p1), (5, C.val (.pointer (some ⟨b11, 0, none⟩))), (6, C.int x34), (7, C.val v35), (23, C.val v19), (24, C.int (r17.length : Int)), (25, C.int x37)], [Obj.box b11 84 [C.int r9.graph.room, C.im kEvent 9 r9.graph.events, C.im kEvent 9 r9.graph.parked, C.val (.map (some b12)), C.val (.map (some b13)), C.val (.map (some b14)), C.val (.map (some b15))], Abs.Obj.map b12 .i64 mcI64 r9.depth, Abs.Obj.map b13 .i64 mcEntryS r9.before, Abs.Obj.map b14 .i64 mcEntryS r9.after, Abs.Obj.map b15 .i64 mcI64 r9.refused, Obj.arr v35 2 kI64 1 l36, Obj.arr v19 38 kEvent 9 r17]⟩) (fun k (x34, l36, x37, v35) => iter (fun z55 => Z1i p1 r9 r17 z55.1 z55.2.1 z55.2.2) k (x34, l36, x37) = some o57) g58 (Ghost.both (ns := [1, 1, 1, 1, 1, 1, 0]) rfl rfl) ?_
  rintro k ⟨x34, l36, x37, v35⟩ i61
  refine iter_succ' (show iter (fun z55 => Z1i p1 r9 r17 z55.1 z55.2.1 z55.2.2) k (x34, l36, x37) = some o57 from i61) fun k60 y62 hlt_k60 h h63 => ?_
  replace h : Z1i p1 r9 r17 x34 l36 x37 = some y62 := h
  unfold Z1i at h
  refine zz ?_
  refine cnd h (fun hb38 h => ?_) fun hb38 h => ?_
  ·
   refine AW.ct hb38 rfl ?_
   refine AW.skip ?_
   refine AW.seq ?_
   refine AW.cut (τ := Int × List Int × Value) (fun (x49, l51, v50) => ⟨[(1, C.int p1), (5, C.val (.pointer (some ⟨b11, 0, none⟩))), (6, C.int x49), (7, C.val v50), (23, C.val v19), (24, C.int (r17.length : Int)), (25, C.int x37)], [Obj.box b11 84 [C.int r9.graph.room, C.im kEvent 9 r9.graph.events, C.im kEvent 9 r9.graph.parked, C.val (.map (some b12)), C.val (.map (some b13)), C.val (.map (some b14)), C.val (.map (some b15))], Abs.Obj.map b12 .i64 mcI64 r9.depth, Abs.Obj.map b13 .i64 mcEntryS r9.before, Abs.Obj.map b14 .i64 mcEntryS r9.after, Abs.Obj.map b15 .i64 mcI64 r9.refused, Obj.arr v50 2 kI64 1 l51, Obj.arr v19 38 kEvent 9 r17]⟩) (fun (x49, l51, v50) => Z5a x37 x49 l51 = some y62) ?_ ?_
   ·
    refine zz ?_
    refine ob' h fun e39 g40 h => ?_
    refine Ops.v rfl (op_indexAddr_arr (p := 6) sl_28.h rfl rfl rfl g40 rfl) ?_
    refine Ops.v rfl (op_loadA_arr (p := 6) ld_38.h rfl rfl (getI_lt g40).2.2 rfl rfl rfl) ?_
    refine Ops.h (ns := []) rfl rfl (op_alloc (cs := [C.int 0, C.int 0, C.int 0, C.int 0, C.int 0, C.int 0, C.str ByteArray.empty, C.val (.slice none 0 0), C.int 0]) ze_38 (cells_zero rfl rfl) rfl) ?_
    rintro _ _ ⟨b41, rfl, rfl⟩
    refine Ops.hd (ns := [0]) rfl rfl (op_storeA (gs := [C.int e39.id, C.int e39.room, C.int e39.author, C.int e39.kind, C.int e39.key, C.int e39.n, C.str e39.text, C.im kI64 1 e39.prev, C.int e39.time]) ld_38.h rfl rfl rfl rfl rfl) ?_
    refine zz ?_
    refine AW.regionD (L := [3, 7, 9, 10]) (Lt := []) (k := .light 0 false (.light 1 false (.light 2 false (.light 3 true (.light 4 false (.light 5 false (.light 6 false (.light 7 true (.light 8 false (.light 9 true (.light 10 true (.light 11 false (.one 12 (.light 13 false .done)))))))))))))) (ns := [0, 0, 0, 0, 0, 0, 0, 0]) (by kernel_rfl) (by kernel_rfl) (by kernel_rfl) (by kernel_rfl) rfl ?_
    refine zz ?_
    refine OpsD.v rfl rfl (op_nilCheck rfl rfl) ?_
    refine zz ?_
    refine OpsD.v rfl rfl (op_loadA (p := 1) (ds := [C.int r9.graph.room, C.im kEvent 9 r9.graph.events, C.im kEvent 9 r9.graph.parked]) ld_30.h rfl rfl rfl rfl rfl) ?_
    refine zz ?_
    refine OpsD.v rfl rfl (op_nilCheck rfl rfl) ?_
    refine zz ?_
    refine OpsD.v rfl rfl (op_lookup (p := 4) (kc := mcEntryS) (z0 := ([] : List TEntry)) mi_82 zv_49 (fun w F => Imp.nil kEntry 3 w F _ rfl) rfl rfl rfl rfl) ?_
    refine zz ?_
    refine ob' h fun r42 g43 h => ?_
    refine StepD.h (ns := []) rfl rfl rfl (op_callE (Z9o _ _ _ _ g43) rfl rfl) ?_
    rintro _ _ ⟨rfl, rfl⟩
    refine zz ?_
    refine cnd h (fun hb44 h => ?_) fun hb44 h => ?_
    ·
     refine AW.ct hb44 rfl ?_
     refine zz ?_
     refine Ops.h (ns := []) rfl rfl (op_buildSlice (k := kI64) (ys := [r42]) ar_26 (.one rfl (One.val rfl) rfl rfl .nil) rfl rfl rfl) ?_
     rintro _ _ ⟨b45, rfl, rfl⟩
     refine ob' h fun u47 c46 h => ?_
     refine Ops.h (ns := [7, 0]) rfl rfl (op_append ar_26 rfl rfl (of_decide_eq_true (chk_some c46)) (app63 (by decide) c46) rfl) ?_
     rintro _ _ ⟨v48, rfl, rfl⟩
     refine zz ?_
     exact ⟨(r42, (l36 ++ [r42]), v48), h, Ghost.both (ns := [2, 2, 2, 2, 2, 0, 1]) rfl rfl⟩
    refine AW.cf hb44 rfl ?_
    refine zz ?_
    exact ⟨(x34, l36, v35), h, Ghost.both (ns := [1, 1, 1, 1, 1, 1, 1]) rfl rfl⟩
   rintro ⟨x49, l51, v50⟩ h
   replace h : Z5a x37 x49 l51 = some y62 := h
   unfold Z5a at h
   refine zz ?_
   obtain rfl := Option.some.inj h
   exact ⟨k60, (x49, l51, (IntKind.i64.wrap (x37 + 1)), v50), hlt_k60, h63, Ghost.both (ns := [0, 0, 0, 0, 0, 0, 0]) rfl rfl⟩
  refine AW.cf hb38 rfl ?_
  refine AW.exit ?_
  obtain rfl := Option.some.inj h
  obtain rfl := Option.some.inj h63
  replace h := q59
  exact ⟨(l36, v35), h, Ghost.both (ns := [5]) rfl rfl⟩
 rintro ⟨l53, v52⟩ h
 replace h : Z9c l53 = some r := h
 unfold Z9c at h
 refine zz ?_
 refine AW.ret ?_
 rw [← Option.some.inj h]
 exact ⟨[C.val v52], _, Ghost.refl _, (.cons (.tmp rfl) .nil), [0], _, _, rfl, ⟨v52, rfl, rfl⟩⟩
theorem Z9r' (p0 : TGraph') (p1 : Int) (r : List Int) (h : Z39 p0 p1 = some r) : Ok Tryz.prog 19 [C.agg [C.int p0.room, C.im kEvent 9 p0.events, C.im kEvent 9 p0.parked], C.int p1] [] (fun c qs => c = C.im kI64 1 r ∧ qs = []) :=
  Ok.freeze (Z9r p0 p1 r h) (by rintro c qs ⟨v54, rfl, rfl⟩; exact Frz.arr)

def Z9j : Option Bool := some true
def Z3k (p0 : List Int) (p1 : List Int) (x8 : Int) : Option (Int ⊕ (Bool ⊕ Unit)) := cond (decide (x8 < (p0.length : Int))) ((getI p0 x8).bind fun e10 => (getI p1 x8).bind fun e12 => cond (e10 != e12) (some (.inr (.inl false))) (some (.inl (IntKind.i64.wrap (x8 + 1))))) (some (.inr (.inr ())))
def Z1r (p0 : List Int) (p1 : List Int) : Option Bool := cond ((p0.length : Int) != (p1.length : Int)) (some false) ((iter (Z3k p0 p1) big 0).bind (fun z16 => match z16 with | .inl y15 => some y15 | .inr () => Z9j))
theorem Z9u (p0 : List Int) (p1 : List Int) (r : Bool) (h : Z1r p0 p1 = some r) : Ok Tryz.prog 13 [C.im kI64 1 p0, C.im kI64 1 p1] [] (fun c qs => c = C.bool r ∧ qs = []) := by
 refine Ok.of_body (rs := [.tmp 4]) Tryz.func13 rfl rfl rfl rfl rfl fun X => ?_
 unfold Z1r at h
 refine zz ?_
 refine cnd h (fun hb1 h => ?_) fun hb1 h => ?_
 ·
  refine AW.ct hb1 rfl ?_
  refine zz ?_
  refine AW.ret ?_
  rw [← Option.some.inj h]
  exact ⟨[C.bool false], _, Ghost.refl _, (.cons (.tmp rfl) .nil), [], _, _, rfl, ⟨rfl, rfl⟩⟩
 refine AW.cf hb1 rfl ?_
 refine AW.skip ?_
 refine AW.seq ?_
 refine AW.cut (τ := Unit) (fun (_ : Unit) => ⟨[], []⟩) (fun (_ : Unit) => Z9j = some r) ?_ ?_
 ·
  refine zz ?_
  refine ob' h fun o17 g18 q19 => ?_
  refine AW.loop (τ := Int) (x := 0) (fun x8 => ⟨[(0, C.im kI64 1 p0), (1, C.im kI64 1 p1), (5, C.int x8)], []⟩) (fun k x8 => iter (Z3k p0 p1) k x8 = some o17) g18 (Ghost.both (ns := []) rfl rfl) ?_
  intro k x8 i21
  refine iter_succ' (show iter (Z3k p0 p1) k x8 = some o17 from i21) fun k20 y22 hlt_k20 h h23 => ?_
  replace h : Z3k p0 p1 x8 = some y22 := h
  unfold Z3k at h
  refine zz ?_
  refine cnd h (fun hb9 h => ?_) fun hb9 h => ?_
  ·
   refine AW.ct hb9 rfl ?_
   refine zz ?_
   refine AW.regionD (L := [3, 7]) (Lt := []) (k := .light 0 false (.light 1 false (.light 2 false (.light 3 true (.light 4 false (.light 5 false (.light 6 false (.light 7 true (.light 8 false .done))))))))) (ns := []) (by kernel_rfl) (by kernel_rfl) (by kernel_rfl) (by kernel_rfl) rfl ?_
   refine zz ?_
   refine ob' h fun e10 g11 h => ?_
   refine OpsD.v rfl rfl (op_indexAddr_im sl_26.h rfl rfl g11 rfl) ?_
   refine OpsD.v rfl rfl (op_load_ip ld_2.h rfl rfl) ?_
   refine zz ?_
   refine ob' h fun e12 g13 h => ?_
   refine OpsD.v rfl rfl (op_indexAddr_im sl_26.h rfl rfl g13 rfl) ?_
   refine OpsD.v rfl rfl (op_load_ip ld_2.h rfl rfl) ?_
   refine zz ?_
   refine cnd h (fun hb14 h => ?_) fun hb14 h => ?_
   ·
    refine AW.ct hb14 rfl ?_
    refine zz ?_
    refine AW.ret ?_
    obtain rfl := Option.some.inj h
    obtain rfl := Option.some.inj h23
    replace h := q19
    rw [← Option.some.inj h]
    exact ⟨[C.bool false], _, Ghost.refl _, (.cons (.tmp rfl) .nil), [], _, _, rfl, ⟨rfl, rfl⟩⟩
   refine AW.cf hb14 rfl ?_
   refine zz ?_
   obtain rfl := Option.some.inj h
   exact ⟨k20, (IntKind.i64.wrap (x8 + 1)), hlt_k20, h23, Ghost.both (ns := []) rfl rfl⟩
  refine AW.cf hb9 rfl ?_
  refine AW.exit ?_
  obtain rfl := Option.some.inj h
  obtain rfl := Option.some.inj h23
  replace h := q19
  exact ⟨(), h, Ghost.both (ns := []) rfl rfl⟩
 rintro ⟨⟩ h
 replace h : Z9j = some r := h
 unfold Z9j at h
 refine zz ?_
 refine AW.ret ?_
 rw [← Option.some.inj h]
 exact ⟨[C.bool true], _, Ghost.refl _, (.cons (.tmp rfl) .nil), [], _, _, rfl, ⟨rfl, rfl⟩⟩

def Z7m (p0 : TEvent) (p1 : TEvent) : Option Bool := cond (p0.id != p1.id) (some false) (cond (p0.room != p1.room) (some false) (cond (p0.author != p1.author) (some false) (cond (p0.kind != p1.kind) (some false) (cond (p0.key != p1.key) (some false) (cond (p0.n != p1.n) (some false) (cond (p0.text.toList == p1.text.toList) ((Z1r p0.prev p1.prev).bind fun r10 => cond r10 (cond (p0.time != p1.time) (some false) (some true)) (some false)) (some false)))))))
set_option maxHeartbeats 1000000 in
theorem Zcn (p0 : TEvent) (p1 : TEvent) (r : Bool) (h : Z7m p0 p1 = some r) : Ok Tryz.prog 69 [C.agg [C.int p0.id, C.int p0.room, C.int p0.author, C.int p0.kind, C.int p0.key, C.int p0.n, C.str p0.text, C.im kI64 1 p0.prev, C.int p0.time], C.agg [C.int p1.id, C.int p1.room, C.int p1.author, C.int p1.kind, C.int p1.key, C.int p1.n, C.str p1.text, C.im kI64 1 p1.prev, C.int p1.time]] [] (fun c qs => c = C.bool r ∧ qs = []) := by
 refine Ok.of_body (rs := [.tmp 4]) Tryz.func69 rfl rfl rfl rfl rfl fun X => ?_
 unfold Z7m at h
 refine zz ?_
 refine Ops.h (ns := []) rfl rfl (op_boxA rfl rfl) ?_
 rintro _ _ ⟨b1, rfl, rfl⟩
 refine Ops.h (ns := []) rfl rfl (op_boxA rfl rfl) ?_
 rintro _ _ ⟨b2, rfl, rfl⟩
 refine zz ?_
 refine cnd h (fun hb3 h => ?_) fun hb3 h => ?_
 ·
  refine AW.ct hb3 rfl ?_
  refine zz ?_
  refine AW.ret ?_
  rw [← Option.some.inj h]
  exact ⟨[C.bool false], _, Ghost.refl _, (.cons (.tmp rfl) .nil), [], _, _, rfl, ⟨rfl, rfl⟩⟩
 refine AW.cf hb3 rfl ?_
 refine zz ?_
 refine cnd h (fun hb4 h => ?_) fun hb4 h => ?_
 ·
  refine AW.ct hb4 rfl ?_
  refine zz ?_
  refine AW.ret ?_
  rw [← Option.some.inj h]
  exact ⟨[C.bool false], _, Ghost.refl _, (.cons (.tmp rfl) .nil), [], _, _, rfl, ⟨rfl, rfl⟩⟩
 refine AW.cf hb4 rfl ?_
 refine zz ?_
 refine cnd h (fun hb5 h => ?_) fun hb5 h => ?_
 ·
  refine AW.ct hb5 rfl ?_
  refine zz ?_
  refine AW.ret ?_
  rw [← Option.some.inj h]
  exact ⟨[C.bool false], _, Ghost.refl _, (.cons (.tmp rfl) .nil), [], _, _, rfl, ⟨rfl, rfl⟩⟩
 refine AW.cf hb5 rfl ?_
 refine zz ?_
 refine cnd h (fun hb6 h => ?_) fun hb6 h => ?_
 ·
  refine AW.ct hb6 rfl ?_
  refine zz ?_
  refine AW.ret ?_
  rw [← Option.some.inj h]
  exact ⟨[C.bool false], _, Ghost.refl _, (.cons (.tmp rfl) .nil), [], _, _, rfl, ⟨rfl, rfl⟩⟩
 refine AW.cf hb6 rfl ?_
 refine zz ?_
 refine cnd h (fun hb7 h => ?_) fun hb7 h => ?_
 ·
  refine AW.ct hb7 rfl ?_
  refine zz ?_
  refine AW.ret ?_
  rw [← Option.some.inj h]
  exact ⟨[C.bool false], _, Ghost.refl _, (.cons (.tmp rfl) .nil), [], _, _, rfl, ⟨rfl, rfl⟩⟩
 refine AW.cf hb7 rfl ?_
 refine zz ?_
 refine cnd h (fun hb8 h => ?_) fun hb8 h => ?_
 ·
  refine AW.ct hb8 rfl ?_
  refine zz ?_
  refine AW.ret ?_
  rw [← Option.some.inj h]
  exact ⟨[C.bool false], _, Ghost.refl _, (.cons (.tmp rfl) .nil), [], _, _, rfl, ⟨rfl, rfl⟩⟩
 refine AW.cf hb8 rfl ?_
 refine zz ?_
 refine cnd h (fun hb9 h => ?_) fun hb9 h => ?_
 ·
  refine AW.cond rfl (fun hn => absurd ((not_t hb9).symm.trans hn) (by decide)) (fun _ => ?_)
  refine zz ?_
  refine ob' h fun r10 g11 h => ?_
  refine Ops.hd (ns := []) rfl rfl (op_callE (Z9u _ _ _ g11) rfl rfl) ?_
  refine zz ?_
  refine cnd h (fun hb12 h => ?_) fun hb12 h => ?_
  ·
   refine AW.cond rfl (fun hn => absurd ((not_t hb12).symm.trans hn) (by decide)) (fun _ => ?_)
   refine zz ?_
   refine cnd h (fun hb13 h => ?_) fun hb13 h => ?_
   ·
    refine AW.ct hb13 rfl ?_
    refine zz ?_
    refine AW.ret ?_
    rw [← Option.some.inj h]
    exact ⟨[C.bool false], _, Ghost.refl _, (.cons (.tmp rfl) .nil), [], _, _, rfl, ⟨rfl, rfl⟩⟩
   refine AW.cf hb13 rfl ?_
   refine zz ?_
   refine AW.ret ?_
   rw [← Option.some.inj h]
   exact ⟨[C.bool true], _, Ghost.refl _, (.cons (.tmp rfl) .nil), [], _, _, rfl, ⟨rfl, rfl⟩⟩
  refine AW.cond rfl (fun _ => ?_) (fun hn => absurd ((not_f hb12).symm.trans hn) (by decide))
  refine zz ?_
  refine AW.ret ?_
  rw [← Option.some.inj h]
  exact ⟨[C.bool false], _, Ghost.refl _, (.cons (.tmp rfl) .nil), [], _, _, rfl, ⟨rfl, rfl⟩⟩
 refine AW.cond rfl (fun _ => ?_) (fun hn => absurd ((not_f hb9).symm.trans hn) (by decide))
 refine zz ?_
 refine AW.ret ?_
 rw [← Option.some.inj h]
 exact ⟨[C.bool false], _, Ghost.refl _, (.cons (.tmp rfl) .nil), [], _, _, rfl, ⟨rfl, rfl⟩⟩

def Z9i : Option Bool := some true
def Z3j (p0 : List TEvent) (p1 : List TEvent) (x10 : Int) : Option (Int ⊕ (Bool ⊕ Unit)) := cond (decide (x10 < (p0.length : Int))) ((getI p0 x10).bind fun e12 => (getI p1 x10).bind fun e14 => (Z7m e12 e14).bind fun r16 => cond r16 (some (.inl (IntKind.i64.wrap (x10 + 1)))) (some (.inr (.inl false)))) (some (.inr (.inr ())))
def Z5n (p0 : List TEvent) (p1 : List TEvent) : Option Bool := cond ((p0.length : Int) != (p1.length : Int)) (some false) ((iter (Z3j p0 p1) big 0).bind (fun z20 => match z20 with | .inl y19 => some y19 | .inr () => Z9i))
theorem Zbh (p0 : List TEvent) (p1 : List TEvent) (r : Bool) (h : Z5n p0 p1 = some r) : Ok Tryz.prog 64 [C.im kEvent 9 p0, C.im kEvent 9 p1] [] (fun c qs => c = C.bool r ∧ qs = []) := by
 refine Ok.of_body (rs := [.tmp 4]) Tryz.func64 rfl rfl rfl rfl rfl fun X => ?_
 unfold Z5n at h
 refine zz ?_
 refine cnd h (fun hb1 h => ?_) fun hb1 h => ?_
 ·
  refine AW.ct hb1 rfl ?_
  refine zz ?_
  refine AW.ret ?_
  rw [← Option.some.inj h]
  exact ⟨[C.bool false], _, Ghost.refl _, (.cons (.tmp rfl) .nil), [], _, _, rfl, ⟨rfl, rfl⟩⟩
 refine AW.cf hb1 rfl ?_
 refine AW.skip ?_
 refine AW.seq ?_
 refine AW.cut (τ := Unit) (fun (_ : Unit) => ⟨[], []⟩) (fun (_ : Unit) => Z9i = some r) ?_ ?_
 ·
  refine zz ?_
  refine ob' h fun o21 g22 q23 => ?_
  refine AW.loop (τ := Int) (x := 0) (fun x10 => ⟨[(0, C.im kEvent 9 p0), (1, C.im kEvent 9 p1), (5, C.int x10)], []⟩) (fun k x10 => iter (Z3j p0 p1) k x10 = some o21) g22 (Ghost.both (ns := []) rfl rfl) ?_
  intro k x10 i25
  refine iter_succ' (show iter (Z3j p0 p1) k x10 = some o21 from i25) fun k24 y26 hlt_k24 h h27 => ?_
  replace h : Z3j p0 p1 x10 = some y26 := h
  unfold Z3j at h
  refine zz ?_
  refine cnd h (fun hb11 h => ?_) fun hb11 h => ?_
  ·
   refine AW.ct hb11 rfl ?_
   refine zz ?_
   refine AW.regionD (L := [3, 7]) (Lt := []) (k := .light 0 false (.light 1 false (.light 2 false (.light 3 true (.light 4 false (.light 5 false (.light 6 false (.light 7 true (.one 8 (.light 9 false .done)))))))))) (ns := []) (by kernel_rfl) (by kernel_rfl) (by kernel_rfl) (by kernel_rfl) rfl ?_
   refine zz ?_
   refine ob' h fun e12 g13 h => ?_
   refine OpsD.v rfl rfl (op_indexAddr_im sl_28.h rfl rfl g13 rfl) ?_
   refine OpsD.v rfl rfl (op_load_ipA ld_38.h rfl rfl rfl rfl) ?_
   refine zz ?_
   refine ob' h fun e14 g15 h => ?_
   refine OpsD.v rfl rfl (op_indexAddr_im sl_28.h rfl rfl g15 rfl) ?_
   refine OpsD.v rfl rfl (op_load_ipA ld_38.h rfl rfl rfl rfl) ?_
   refine zz ?_
   refine ob' h fun r16 g17 h => ?_
   refine StepD.h (ns := []) rfl rfl rfl (op_callE (Zcn _ _ _ g17) rfl rfl) ?_
   rintro _ _ ⟨rfl, rfl⟩
   refine zz ?_
   refine cnd h (fun hb18 h => ?_) fun hb18 h => ?_
   ·
    refine AW.cond rfl (fun hn => absurd ((not_t hb18).symm.trans hn) (by decide)) (fun _ => ?_)
    refine zz ?_
    obtain rfl := Option.some.inj h
    exact ⟨k24, (IntKind.i64.wrap (x10 + 1)), hlt_k24, h27, Ghost.both (ns := []) rfl rfl⟩
   refine AW.cond rfl (fun _ => ?_) (fun hn => absurd ((not_f hb18).symm.trans hn) (by decide))
   refine zz ?_
   refine AW.ret ?_
   obtain rfl := Option.some.inj h
   obtain rfl := Option.some.inj h27
   replace h := q23
   rw [← Option.some.inj h]
   exact ⟨[C.bool false], _, Ghost.refl _, (.cons (.tmp rfl) .nil), [], _, _, rfl, ⟨rfl, rfl⟩⟩
  refine AW.cf hb11 rfl ?_
  refine AW.exit ?_
  obtain rfl := Option.some.inj h
  obtain rfl := Option.some.inj h27
  replace h := q23
  exact ⟨(), h, Ghost.both (ns := []) rfl rfl⟩
 rintro ⟨⟩ h
 replace h : Z9i = some r := h
 unfold Z9i at h
 refine zz ?_
 refine AW.ret ?_
 rw [← Option.some.inj h]
 exact ⟨[C.bool true], _, Ghost.refl _, (.cons (.tmp rfl) .nil), [], _, _, rfl, ⟨rfl, rfl⟩⟩

def Z7n (p0 : TGraph') (p1 : TGraph') : Option Bool := cond (p0.room != p1.room) (some false) ((Z5n p0.events p1.events).bind fun r4 => cond r4 ((Z5n p0.parked p1.parked).bind fun r7 => cond r7 (some true) (some false)) (some false))
theorem Zco (p0 : TGraph') (p1 : TGraph') (r : Bool) (h : Z7n p0 p1 = some r) : Ok Tryz.prog 14 [C.agg [C.int p0.room, C.im kEvent 9 p0.events, C.im kEvent 9 p0.parked], C.agg [C.int p1.room, C.im kEvent 9 p1.events, C.im kEvent 9 p1.parked]] [] (fun c qs => c = C.bool r ∧ qs = []) := by
 refine Ok.of_body (rs := [.tmp 4]) Tryz.func14 rfl rfl rfl rfl rfl fun X => ?_
 unfold Z7n at h
 refine zz ?_
 refine Ops.h (ns := []) rfl rfl (op_boxA rfl rfl) ?_
 rintro _ _ ⟨b1, rfl, rfl⟩
 refine Ops.h (ns := []) rfl rfl (op_boxA rfl rfl) ?_
 rintro _ _ ⟨b2, rfl, rfl⟩
 refine zz ?_
 refine cnd h (fun hb3 h => ?_) fun hb3 h => ?_
 ·
  refine AW.ct hb3 rfl ?_
  refine zz ?_
  refine AW.ret ?_
  rw [← Option.some.inj h]
  exact ⟨[C.bool false], _, Ghost.refl _, (.cons (.tmp rfl) .nil), [], _, _, rfl, ⟨rfl, rfl⟩⟩
 refine AW.cf hb3 rfl ?_
 refine zz ?_
 refine ob' h fun r4 g5 h => ?_
 refine Ops.hd (ns := []) rfl rfl (op_callE (Zbh _ _ _ g5) rfl rfl) ?_
 refine zz ?_
 refine cnd h (fun hb6 h => ?_) fun hb6 h => ?_
 ·
  refine AW.cond rfl (fun hn => absurd ((not_t hb6).symm.trans hn) (by decide)) (fun _ => ?_)
  refine zz ?_
  refine ob' h fun r7 g8 h => ?_
  refine Ops.hd (ns := []) rfl rfl (op_callE (Zbh _ _ _ g8) rfl rfl) ?_
  refine zz ?_
  refine cnd h (fun hb9 h => ?_) fun hb9 h => ?_
  ·
   refine AW.cond rfl (fun hn => absurd ((not_t hb9).symm.trans hn) (by decide)) (fun _ => ?_)
   refine zz ?_
   refine AW.ret ?_
   rw [← Option.some.inj h]
   exact ⟨[C.bool true], _, Ghost.refl _, (.cons (.tmp rfl) .nil), [], _, _, rfl, ⟨rfl, rfl⟩⟩
  refine AW.cond rfl (fun _ => ?_) (fun hn => absurd ((not_f hb9).symm.trans hn) (by decide))
  refine zz ?_
  refine AW.ret ?_
  rw [← Option.some.inj h]
  exact ⟨[C.bool false], _, Ghost.refl _, (.cons (.tmp rfl) .nil), [], _, _, rfl, ⟨rfl, rfl⟩⟩
 refine AW.cond rfl (fun _ => ?_) (fun hn => absurd ((not_f hb6).symm.trans hn) (by decide))
 refine zz ?_
 refine AW.ret ?_
 rw [← Option.some.inj h]
 exact ⟨[C.bool false], _, Ghost.refl _, (.cons (.tmp rfl) .nil), [], _, _, rfl, ⟨rfl, rfl⟩⟩

def Z7q (x12 : ByteArray) : Option ByteArray := (chk (decide ((ByteArray.mk #[109]).size + x12.size ≤ 9223372036854775807))).bind fun u14 => some ((ByteArray.mk #[109]) ++ x12)
def Z3l (x6 : Int) (x7 : ByteArray) : Option ((Int × ByteArray) ⊕ (ByteArray)) := cond (decide (x6 > 0)) ((chk (decide ((strOf [(IntKind.u8.wrap (IntKind.i64.wrap (48 + (Int.tmod x6 10))))]).size + x7.size ≤ 9223372036854775807))).bind fun u11 => some (.inl ((IntKind.i64.wrap (Int.tdiv x6 10)), ((strOf [(IntKind.u8.wrap (IntKind.i64.wrap (48 + (Int.tmod x6 10))))]) ++ x7)))) (some (.inr x7))
def Z7p (p0 : Int) : Option ByteArray := cond (decide (p0 ≤ 0)) (some (ByteArray.mk #[109, 48])) ((iter (fun z15 => Z3l z15.1 z15.2) big (p0, ByteArray.empty)).bind fun y16 => Z7q y16)
theorem Zcq (p0 : Int) (r : ByteArray) (h : Z7p p0 = some r) : Ok Tryz.prog 121 [C.int p0] [] (fun c qs => c = C.str r ∧ qs = []) := by
 refine Ok.of_body (rs := [.tmp 2]) Tryz.func121 rfl rfl rfl rfl rfl fun X => ?_
 unfold Z7p at h
 refine zz ?_
 refine cnd h (fun hb1 h => ?_) fun hb1 h => ?_
 ·
  refine AW.ct hb1 rfl ?_
  refine zz ?_
  refine AW.ret ?_
  rw [← Option.some.inj h]
  exact ⟨[C.str (ByteArray.mk #[109, 48])], _, Ghost.refl _, (.cons (.tmp rfl) .nil), [], _, _, rfl, ⟨rfl, rfl⟩⟩
 refine AW.cf hb1 rfl ?_
 refine AW.skip ?_
 refine AW.seq ?_
 refine AW.region ?_
 refine Ops.v rfl (op_assign rfl rfl) ?_
 refine Ops.nil ?_
 refine AW.seq ?_
 refine AW.cut (τ := ByteArray) (fun x12 => ⟨[(3, C.str x12)], []⟩) (fun x12 => Z7q x12 = some r) ?_ ?_
 ·
  refine zz ?_
  refine ob' h fun o17 g18 q19 => ?_
  refine AW.loop (τ := Int × ByteArray) (x := (p0, ByteArray.empty)) (fun (x6, x7) => ⟨[(0, C.int x6), (3, C.str x7)], []⟩) (fun k (x6, x7) => iter (fun z15 => Z3l z15.1 z15.2) k (x6, x7) = some o17) g18 (Ghost.both (ns := []) rfl rfl) ?_
  rintro k ⟨x6, x7⟩ i21
  refine iter_succ' (show iter (fun z15 => Z3l z15.1 z15.2) k (x6, x7) = some o17 from i21) fun k20 y22 hlt_k20 h h23 => ?_
  replace h : Z3l x6 x7 = some y22 := h
  unfold Z3l at h
  refine zz ?_
  refine cnd h (fun hb8 h => ?_) fun hb8 h => ?_
  ·
   refine AW.ct hb8 rfl ?_
   refine zz ?_
   refine Ops.v rfl (op_rem rfl rfl (by decide) rfl) ?_
   refine zz ?_
   refine Ops.v rfl (op_conv un_3 un_5 rfl rfl) ?_
   refine Ops.h (ns := []) rfl rfl (op_buildSlice (k := kU8) (ys := [(IntKind.u8.wrap (IntKind.i64.wrap (48 + (Int.tmod x6 10))))]) ar_45 (.one rfl (One.val rfl) rfl rfl .nil) rfl rfl rfl) ?_
   rintro _ _ ⟨b9, rfl, rfl⟩
   refine Ops.v rfl (op_str_arr (p := 0) by_45 un_9 (fun _ => rfl) rfl rfl rfl) ?_
   refine zz ?_
   refine ob' h fun u11 c10 h => ?_
   refine Ops.v rfl (op_add_str rfl rfl (of_decide_eq_true (chk_some c10)) rfl) ?_
   refine zz ?_
   refine Ops.v rfl (op_quo rfl rfl (by decide) rfl) ?_
   refine zz ?_
   obtain rfl := Option.some.inj h
   exact ⟨k20, ((IntKind.i64.wrap (Int.tdiv x6 10)), ((strOf [(IntKind.u8.wrap (IntKind.i64.wrap (48 + (Int.tmod x6 10))))]) ++ x7)), hlt_k20, h23, Ghost.both (ns := []) rfl rfl⟩
  refine AW.cf hb8 rfl ?_
  refine AW.exit ?_
  obtain rfl := Option.some.inj h
  obtain rfl := Option.some.inj h23
  replace h := q19
  exact ⟨x7, h, Ghost.both (ns := []) rfl rfl⟩
 intro x12 h
 replace h : Z7q x12 = some r := h
 unfold Z7q at h
 refine zz ?_
 refine ob' h fun u14 c13 h => ?_
 refine Ops.v rfl (op_add_str rfl rfl (of_decide_eq_true (chk_some c13)) rfl) ?_
 refine zz ?_
 refine AW.ret ?_
 rw [← Option.some.inj h]
 exact ⟨[C.str ((ByteArray.mk #[109]) ++ x12)], _, Ghost.refl _, (.cons (.tmp rfl) .nil), [], _, _, rfl, ⟨rfl, rfl⟩⟩

def Z9m (x10 : Int) (l11 : List Int) : Option (Int × List Int) := some (x10, l11)
def Z1u (l4 : List Int) (x5 : Int) (x6 : Int) : Option ((List Int × Int × Int) ⊕ ((Int × List Int))) := cond (decide (x6 < (l4.length : Int))) ((getI l4 x6).bind fun e8 => some (.inl ((List.set l4 (Int.toNat x6) x5), (IntKind.i64.wrap (x5 + 1)), (IntKind.i64.wrap (x6 + 1))))) (some (.inr (x5, l4)))
def Z5q (p0 : List Int) (p1 : Int) : Option (Int × List Int) := (iter (fun z12 => Z1u z12.1 z12.2.1 z12.2.2) big (p0, p1, 0)).bind fun (y13, y14) => Z9m y13 y14
theorem Zbk {w00 : Value} (p0 : List Int) (p1 : Int) (r : Int × List Int) (h : Z5q p0 p1 = some r) : Ok Tryz.prog 16 [C.val w00, C.int p1] [Obj.arr w00 2 kI64 1 p0] (fun c qs => c = C.int r.1 ∧ qs = [Obj.arr w00 2 kI64 1 r.2]) := by
 refine Ok.of_body (rs := [.tmp 4]) Tryz.func16 rfl rfl rfl rfl rfl fun X => ?_
 unfold Z5q at h
 refine AW.seq ?_
 refine AW.region ?_
 refine Ops.v rfl (op_assign rfl rfl) ?_
 refine Ops.nil ?_
 refine AW.seq ?_
 refine AW.cut (τ := Int × List Int) (fun (x10, l11) => ⟨[(1, C.int x10)], [Obj.arr w00 2 kI64 1 l11]⟩) (fun (x10, l11) => Z9m x10 l11 = some r) ?_ ?_
 ·
  refine zz ?_
  refine ob' h fun o15 g16 q17 => ?_
  refine AW.loop (τ := List Int × Int × Int) (x := (p0, p1, 0)) (fun (l4, x5, x6) => ⟨[(0, C.val w00), (1, C.int x5), (5, C.int x6)], [Obj.arr w00 2 kI64 1 l4]⟩) (fun k (l4, x5, x6) => iter (fun z12 => Z1u z12.1 z12.2.1 z12.2.2) k (l4, x5, x6) = some o15) g16 (Ghost.both (ns := [0]) rfl rfl) ?_
  rintro k ⟨l4, x5, x6⟩ i19
  refine iter_succ' (show iter (fun z12 => Z1u z12.1 z12.2.1 z12.2.2) k (l4, x5, x6) = some o15 from i19) fun k18 y20 hlt_k18 h h21 => ?_
  replace h : Z1u l4 x5 x6 = some y20 := h
  unfold Z1u at h
  refine zz ?_
  refine Ops.v rfl (op_len_arr (p := 0) sl_26.h rfl rfl rfl) ?_
  refine zz ?_
  refine cnd h (fun hb7 h => ?_) fun hb7 h => ?_
  ·
   refine AW.ct hb7 rfl ?_
   refine zz ?_
   refine ob' h fun e8 g9 h => ?_
   refine Ops.v rfl (op_indexAddr_arr (p := 0) sl_26.h rfl rfl rfl g9 rfl) ?_
   refine Ops.hd (ns := [0]) rfl rfl (op_store_arr (e' := x5) ld_2.h rfl rfl (One.val rfl) (getI_lt g9).2.2 rfl rfl) ?_
   refine zz ?_
   obtain rfl := Option.some.inj h
   exact ⟨k18, ((List.set l4 (Int.toNat x6) x5), (IntKind.i64.wrap (x5 + 1)), (IntKind.i64.wrap (x6 + 1))), hlt_k18, h21, Ghost.both (ns := [0]) rfl rfl⟩
  refine AW.cf hb7 rfl ?_
  refine AW.exit ?_
  obtain rfl := Option.some.inj h
  obtain rfl := Option.some.inj h21
  replace h := q17
  exact ⟨(x5, l4), h, Ghost.both (ns := [0]) rfl rfl⟩
 rintro ⟨x10, l11⟩ h
 replace h : Z9m x10 l11 = some r := h
 unfold Z9m at h
 refine zz ?_
 refine AW.ret ?_
 rw [← Option.some.inj h]
 exact ⟨[C.int x10], _, Ghost.refl _, (.cons (.tmp rfl) .nil), [0], _, _, rfl, ⟨rfl, rfl⟩⟩

def Z9l (x52 : Int) (l53 : List TEvent) : Option (Int × List TEvent) := some (x52, l53)
def Z1t (l25 : List TEvent) (x26 : Int) (x27 : Int) : Option ((List TEvent × Int × Int) ⊕ ((Int × List TEvent))) := cond (decide (x27 < (l25.length : Int))) ((getI l25 x27).bind fun e29 => (getI (List.set l25 (Int.toNat x27) (TEvent.mk x26 e29.room e29.author e29.kind e29.key e29.n e29.text e29.prev e29.time)) x27).bind fun e31 => (getI (List.set (List.set l25 (Int.toNat x27) (TEvent.mk x26 e29.room e29.author e29.kind e29.key e29.n e29.text e29.prev e29.time)) (Int.toNat x27) (TEvent.mk e31.id (IntKind.i64.wrap (x26 + 1)) e31.author e31.kind e31.key e31.n e31.text e31.prev e31.time)) x27).bind fun e33 => (getI (List.set (List.set (List.set l25 (Int.toNat x27) (TEvent.mk x26 e29.room e29.author e29.kind e29.key e29.n e29.text e29.prev e29.time)) (Int.toNat x27) (TEvent.mk e31.id (IntKind.i64.wrap (x26 + 1)) e31.author e31.kind e31.key e31.n e31.text e31.prev e31.time)) (Int.toNat x27) (TEvent.mk e33.id e33.room (IntKind.i64.wrap ((IntKind.i64.wrap (x26 + 1)) + 1)) e33.kind e33.key e33.n e33.text e33.prev e33.time)) x27).bind fun e35 => (getI (List.set (List.set (List.set (List.set l25 (Int.toNat x27) (TEvent.mk x26 e29.room e29.author e29.kind e29.key e29.n e29.text e29.prev e29.time)) (Int.toNat x27) (TEvent.mk e31.id (IntKind.i64.wrap (x26 + 1)) e31.author e31.kind e31.key e31.n e31.text e31.prev e31.time)) (Int.toNat x27) (TEvent.mk e33.id e33.room (IntKind.i64.wrap ((IntKind.i64.wrap (x26 + 1)) + 1)) e33.kind e33.key e33.n e33.text e33.prev e33.time)) (Int.toNat x27) (TEvent.mk e35.id e35.room e35.author (IntKind.i64.wrap ((IntKind.i64.wrap ((IntKind.i64.wrap (x26 + 1)) + 1)) + 1)) e35.key e35.n e35.text e35.prev e35.time)) x27).bind fun e37 => (getI (List.set (List.set (List.set (List.set (List.set l25 (Int.toNat x27) (TEvent.mk x26 e29.room e29.author e29.kind e29.key e29.n e29.text e29.prev e29.time)) (Int.toNat x27) (TEvent.mk e31.id (IntKind.i64.wrap (x26 + 1)) e31.author e31.kind e31.key e31.n e31.text e31.prev e31.time)) (Int.toNat x27) (TEvent.mk e33.id e33.room (IntKind.i64.wrap ((IntKind.i64.wrap (x26 + 1)) + 1)) e33.kind e33.key e33.n e33.text e33.prev e33.time)) (Int.toNat x27) (TEvent.mk e35.id e35.room e35.author (IntKind.i64.wrap ((IntKind.i64.wrap ((IntKind.i64.wrap (x26 + 1)) + 1)) + 1)) e35.key e35.n e35.text e35.prev e35.time)) (Int.toNat x27) (TEvent.mk e37.id e37.room e37.author e37.kind (IntKind.i64.wrap ((IntKind.i64.wrap ((IntKind.i64.wrap ((IntKind.i64.wrap (x26 + 1)) + 1)) + 1)) + 1)) e37.n e37.text e37.prev e37.time)) x27).bind fun e39 => (Z7p (IntKind.i64.wrap ((IntKind.i64.wrap ((IntKind.i64.wrap ((IntKind.i64.wrap ((IntKind.i64.wrap ((IntKind.i64.wrap (x26 + 1)) + 1)) + 1)) + 1)) + 1)) + 1))).bind fun r41 => (getI (List.set (List.set (List.set (List.set (List.set (List.set l25 (Int.toNat x27) (TEvent.mk x26 e29.room e29.author e29.kind e29.key e29.n e29.text e29.prev e29.time)) (Int.toNat x27) (TEvent.mk e31.id (IntKind.i64.wrap (x26 + 1)) e31.author e31.kind e31.key e31.n e31.text e31.prev e31.time)) (Int.toNat x27) (TEvent.mk e33.id e33.room (IntKind.i64.wrap ((IntKind.i64.wrap (x26 + 1)) + 1)) e33.kind e33.key e33.n e33.text e33.prev e33.time)) (Int.toNat x27) (TEvent.mk e35.id e35.room e35.author (IntKind.i64.wrap ((IntKind.i64.wrap ((IntKind.i64.wrap (x26 + 1)) + 1)) + 1)) e35.key e35.n e35.text e35.prev e35.time)) (Int.toNat x27) (TEvent.mk e37.id e37.room e37.author e37.kind (IntKind.i64.wrap ((IntKind.i64.wrap ((IntKind.i64.wrap ((IntKind.i64.wrap (x26 + 1)) + 1)) + 1)) + 1)) e37.n e37.text e37.prev e37.time)) (Int.toNat x27) (TEvent.mk e39.id e39.room e39.author e39.kind e39.key (IntKind.i64.wrap ((IntKind.i64.wrap ((IntKind.i64.wrap ((IntKind.i64.wrap ((IntKind.i64.wrap (x26 + 1)) + 1)) + 1)) + 1)) + 1)) e39.text e39.prev e39.time)) x27).bind fun e43 => (getI (List.set (List.set (List.set (List.set (List.set (List.set (List.set l25 (Int.toNat x27) (TEvent.mk x26 e29.room e29.author e29.kind e29.key e29.n e29.text e29.prev e29.time)) (Int.toNat x27) (TEvent.mk e31.id (IntKind.i64.wrap (x26 + 1)) e31.author e31.kind e31.key e31.n e31.text e31.prev e31.time)) (Int.toNat x27) (TEvent.mk e33.id e33.room (IntKind.i64.wrap ((IntKind.i64.wrap (x26 + 1)) + 1)) e33.kind e33.key e33.n e33.text e33.prev e33.time)) (Int.toNat x27) (TEvent.mk e35.id e35.room e35.author (IntKind.i64.wrap ((IntKind.i64.wrap ((IntKind.i64.wrap (x26 + 1)) + 1)) + 1)) e35.key e35.n e35.text e35.prev e35.time)) (Int.toNat x27) (TEvent.mk e37.id e37.room e37.author e37.kind (IntKind.i64.wrap ((IntKind.i64.wrap ((IntKind.i64.wrap ((IntKind.i64.wrap (x26 + 1)) + 1)) + 1)) + 1)) e37.n e37.text e37.prev e37.time)) (Int.toNat x27) (TEvent.mk e39.id e39.room e39.author e39.kind e39.key (IntKind.i64.wrap ((IntKind.i64.wrap ((IntKind.i64.wrap ((IntKind.i64.wrap ((IntKind.i64.wrap (x26 + 1)) + 1)) + 1)) + 1)) + 1)) e39.text e39.prev e39.time)) (Int.toNat x27) (TEvent.mk e43.id e43.room e43.author e43.kind e43.key e43.n r41 e43.prev e43.time)) x27).bind fun e45 => (Z5q e45.prev (IntKind.i64.wrap ((IntKind.i64.wrap ((IntKind.i64.wrap ((IntKind.i64.wrap ((IntKind.i64.wrap ((IntKind.i64.wrap ((IntKind.i64.wrap (x26 + 1)) + 1)) + 1)) + 1)) + 1)) + 1)) + 1))).bind fun r48 => (getI (List.set (List.set (List.set (List.set (List.set (List.set (List.set (List.set l25 (Int.toNat x27) (TEvent.mk x26 e29.room e29.author e29.kind e29.key e29.n e29.text e29.prev e29.time)) (Int.toNat x27) (TEvent.mk e31.id (IntKind.i64.wrap (x26 + 1)) e31.author e31.kind e31.key e31.n e31.text e31.prev e31.time)) (Int.toNat x27) (TEvent.mk e33.id e33.room (IntKind.i64.wrap ((IntKind.i64.wrap (x26 + 1)) + 1)) e33.kind e33.key e33.n e33.text e33.prev e33.time)) (Int.toNat x27) (TEvent.mk e35.id e35.room e35.author (IntKind.i64.wrap ((IntKind.i64.wrap ((IntKind.i64.wrap (x26 + 1)) + 1)) + 1)) e35.key e35.n e35.text e35.prev e35.time)) (Int.toNat x27) (TEvent.mk e37.id e37.room e37.author e37.kind (IntKind.i64.wrap ((IntKind.i64.wrap ((IntKind.i64.wrap ((IntKind.i64.wrap (x26 + 1)) + 1)) + 1)) + 1)) e37.n e37.text e37.prev e37.time)) (Int.toNat x27) (TEvent.mk e39.id e39.room e39.author e39.kind e39.key (IntKind.i64.wrap ((IntKind.i64.wrap ((IntKind.i64.wrap ((IntKind.i64.wrap ((IntKind.i64.wrap (x26 + 1)) + 1)) + 1)) + 1)) + 1)) e39.text e39.prev e39.time)) (Int.toNat x27) (TEvent.mk e43.id e43.room e43.author e43.kind e43.key e43.n r41 e43.prev e43.time)) (Int.toNat x27) (TEvent.mk e45.id e45.room e45.author e45.kind e45.key e45.n e45.text r48.2 e45.time)) x27).bind fun e50 => some (.inl ((List.set (List.set (List.set (List.set (List.set (List.set (List.set (List.set (List.set l25 (Int.toNat x27) (TEvent.mk x26 e29.room e29.author e29.kind e29.key e29.n e29.text e29.prev e29.time)) (Int.toNat x27) (TEvent.mk e31.id (IntKind.i64.wrap (x26 + 1)) e31.author e31.kind e31.key e31.n e31.text e31.prev e31.time)) (Int.toNat x27) (TEvent.mk e33.id e33.room (IntKind.i64.wrap ((IntKind.i64.wrap (x26 + 1)) + 1)) e33.kind e33.key e33.n e33.text e33.prev e33.time)) (Int.toNat x27) (TEvent.mk e35.id e35.room e35.author (IntKind.i64.wrap ((IntKind.i64.wrap ((IntKind.i64.wrap (x26 + 1)) + 1)) + 1)) e35.key e35.n e35.text e35.prev e35.time)) (Int.toNat x27) (TEvent.mk e37.id e37.room e37.author e37.kind (IntKind.i64.wrap ((IntKind.i64.wrap ((IntKind.i64.wrap ((IntKind.i64.wrap (x26 + 1)) + 1)) + 1)) + 1)) e37.n e37.text e37.prev e37.time)) (Int.toNat x27) (TEvent.mk e39.id e39.room e39.author e39.kind e39.key (IntKind.i64.wrap ((IntKind.i64.wrap ((IntKind.i64.wrap ((IntKind.i64.wrap ((IntKind.i64.wrap (x26 + 1)) + 1)) + 1)) + 1)) + 1)) e39.text e39.prev e39.time)) (Int.toNat x27) (TEvent.mk e43.id e43.room e43.author e43.kind e43.key e43.n r41 e43.prev e43.time)) (Int.toNat x27) (TEvent.mk e45.id e45.room e45.author e45.kind e45.key e45.n e45.text r48.2 e45.time)) (Int.toNat x27) (TEvent.mk e50.id e50.room e50.author e50.kind e50.key e50.n e50.text e50.prev r48.1)), (IntKind.i64.wrap (r48.1 + 1)), (IntKind.i64.wrap (x27 + 1))))) (some (.inr (x26, l25)))
def Z5p (p0 : List TEvent) (p1 : Int) : Option (Int × List TEvent) := (iter (fun z54 => Z1t z54.1 z54.2.1 z54.2.2) big (p0, p1, 0)).bind fun (y55, y56) => Z9l y55 y56
set_option maxHeartbeats 1000000 in
theorem Zbj {w00 : Value} (p0 : List TEvent) (p1 : Int) (r : Int × List TEvent) (h : Z5p p0 p1 = some r) : Ok Tryz.prog 65 [C.val w00, C.int p1] [Obj.deep w00 38 kdEvent obEvent 9 p0] (fun c qs => c = C.int r.1 ∧ qs = [Obj.deep w00 38 kdEvent obEvent 9 r.2]) := by
 refine Ok.of_body (rs := [.tmp 4]) Tryz.func65 rfl rfl rfl rfl rfl fun X => ?_
 unfold Z5p at h
 refine AW.seq ?_
 refine AW.region ?_
 refine Ops.v rfl (op_assign rfl rfl) ?_
 refine Ops.nil ?_
 refine AW.seq ?_
 refine AW.cut (τ := Int × List TEvent) (fun (x52, l53) => ⟨[(1, C.int x52)], [Obj.deep w00 38 kdEvent obEvent 9 l53]⟩) (fun (x52, l53) => Z9l x52 l53 = some r) ?_ ?_
 ·
  refine zz ?_
  refine ob' h fun o57 g58 q59 => ?_
  refine AW.loop (τ := List TEvent × Int × Int) (x := (p0, p1, 0)) (fun (l25, x26, x27) => ⟨[(0, C.val w00), (1, C.int x26), (5, C.int x27)], [Obj.deep w00 38 kdEvent obEvent 9 l25]⟩) (fun k (l25, x26, x27) => iter (fun z54 => Z1t z54.1 z54.2.1 z54.2.2) k (l25, x26, x27) = some o57) g58 (Ghost.both (ns := [0]) rfl rfl) ?_
  rintro k ⟨l25, x26, x27⟩ i61
  refine iter_succ' (show iter (fun z54 => Z1t z54.1 z54.2.1 z54.2.2) k (l25, x26, x27) = some o57 from i61) fun k60 y62 hlt_k60 h h63 => ?_
  replace h : Z1t l25 x26 x27 = some y62 := h
  unfold Z1t at h
  refine zz ?_
  refine Ops.v rfl (op_len_deep (p := 0) sl_28.h rfl rfl rfl) ?_
  refine zz ?_
  refine cnd h (fun hb28 h => ?_) fun hb28 h => ?_
  ·
   refine AW.ct hb28 rfl ?_
   refine zz ?_
   refine ob' h fun e29 g30 h => ?_
   refine Ops.v rfl (op_indexAddr_deep (p := 0) sl_28.h rfl rfl rfl g30 rfl) ?_
   refine Ops.v rfl (op_fieldAddr_deep (p := 0) fo_38_0.h rfl rfl (getI_lt g30).2.2 rfl) ?_
   refine Ops.hd (ns := [0]) rfl rfl (op_store_deep (e' := (TEvent.mk x26 e29.room e29.author e29.kind e29.key e29.n e29.text e29.prev e29.time)) ld_2.h rfl rfl (One.val rfl) (getI_lt g30).2.2 (fun _ => rfl) (fun _ => rfl) (fun _ => rfl)) ?_
   refine zz ?_
   refine ob' h fun e31 g32 h => ?_
   refine Ops.v rfl (op_indexAddr_deep (p := 0) sl_28.h rfl rfl rfl g32 rfl) ?_
   refine Ops.v rfl (op_fieldAddr_deep (p := 0) fo_38_1.h rfl rfl (getI_lt g32).2.2 rfl) ?_
   refine Ops.hd (ns := [0]) rfl rfl (op_store_deep (e' := (TEvent.mk e31.id (IntKind.i64.wrap (x26 + 1)) e31.author e31.kind e31.key e31.n e31.text e31.prev e31.time)) ld_2.h rfl rfl (One.val rfl) (getI_lt g32).2.2 (fun _ => rfl) (fun _ => rfl) (fun _ => rfl)) ?_
   refine zz ?_
   refine ob' h fun e33 g34 h => ?_
   refine Ops.v rfl (op_indexAddr_deep (p := 0) sl_28.h rfl rfl rfl g34 rfl) ?_
   refine Ops.v rfl (op_fieldAddr_deep (p := 0) fo_38_2.h rfl rfl (getI_lt g34).2.2 rfl) ?_
   refine Ops.hd (ns := [0]) rfl rfl (op_store_deep (e' := (TEvent.mk e33.id e33.room (IntKind.i64.wrap ((IntKind.i64.wrap (x26 + 1)) + 1)) e33.kind e33.key e33.n e33.text e33.prev e33.time)) ld_2.h rfl rfl (One.val rfl) (getI_lt g34).2.2 (fun _ => rfl) (fun _ => rfl) (fun _ => rfl)) ?_
   refine zz ?_
   refine ob' h fun e35 g36 h => ?_
   refine Ops.v rfl (op_indexAddr_deep (p := 0) sl_28.h rfl rfl rfl g36 rfl) ?_
   refine Ops.v rfl (op_fieldAddr_deep (p := 0) fo_38_3.h rfl rfl (getI_lt g36).2.2 rfl) ?_
   refine Ops.hd (ns := [0]) rfl rfl (op_store_deep (e' := (TEvent.mk e35.id e35.room e35.author (IntKind.i64.wrap ((IntKind.i64.wrap ((IntKind.i64.wrap (x26 + 1)) + 1)) + 1)) e35.key e35.n e35.text e35.prev e35.time)) ld_2.h rfl rfl (One.val rfl) (getI_lt g36).2.2 (fun _ => rfl) (fun _ => rfl) (fun _ => rfl)) ?_
   refine zz ?_
   refine ob' h fun e37 g38 h => ?_
   refine Ops.v rfl (op_indexAddr_deep (p := 0) sl_28.h rfl rfl rfl g38 rfl) ?_
   refine Ops.v rfl (op_fieldAddr_deep (p := 0) fo_38_4.h rfl rfl (getI_lt g38).2.2 rfl) ?_
   refine Ops.hd (ns := [0]) rfl rfl (op_store_deep (e' := (TEvent.mk e37.id e37.room e37.author e37.kind (IntKind.i64.wrap ((IntKind.i64.wrap ((IntKind.i64.wrap ((IntKind.i64.wrap (x26 + 1)) + 1)) + 1)) + 1)) e37.n e37.text e37.prev e37.time)) ld_2.h rfl rfl (One.val rfl) (getI_lt g38).2.2 (fun _ => rfl) (fun _ => rfl) (fun _ => rfl)) ?_
   refine zz ?_
   refine ob' h fun e39 g40 h => ?_
   refine Ops.v rfl (op_indexAddr_deep (p := 0) sl_28.h rfl rfl rfl g40 rfl) ?_
   refine Ops.v rfl (op_fieldAddr_deep (p := 0) fo_38_5.h rfl rfl (getI_lt g40).2.2 rfl) ?_
   refine Ops.hd (ns := [0]) rfl rfl (op_store_deep (e' := (TEvent.mk e39.id e39.room e39.author e39.kind e39.key (IntKind.i64.wrap ((IntKind.i64.wrap ((IntKind.i64.wrap ((IntKind.i64.wrap ((IntKind.i64.wrap (x26 + 1)) + 1)) + 1)) + 1)) + 1)) e39.text e39.prev e39.time)) ld_2.h rfl rfl (One.val rfl) (getI_lt g40).2.2 (fun _ => rfl) (fun _ => rfl) (fun _ => rfl)) ?_
   refine zz ?_
   refine ob' h fun r41 g42 h => ?_
   refine Ops.hd (ns := []) rfl rfl (op_callE (Zcq _ _ g42) rfl rfl) ?_
   refine ob' h fun e43 g44 h => ?_
   refine Ops.v rfl (op_indexAddr_deep (p := 0) sl_28.h rfl rfl rfl g44 rfl) ?_
   refine Ops.v rfl (op_fieldAddr_deep (p := 0) fo_38_6.h rfl rfl (getI_lt g44).2.2 rfl) ?_
   refine Ops.hd (ns := [0]) rfl rfl (op_store_deep (e' := (TEvent.mk e43.id e43.room e43.author e43.kind e43.key e43.n r41 e43.prev e43.time)) ld_9.h rfl rfl (One.val rfl) (getI_lt g44).2.2 (fun _ => rfl) (fun _ => rfl) (fun _ => rfl)) ?_
   refine zz ?_
   refine ob' h fun e45 g46 h => ?_
   refine Ops.v rfl (op_indexAddr_deep (p := 0) sl_28.h rfl rfl rfl g46 rfl) ?_
   refine Ops.v rfl (op_fieldAddr_deep (p := 0) fo_38_7.h rfl rfl (getI_lt g46).2.2 rfl) ?_
   refine Ops.take (p := 0) rfl (getI_lt g46).2.2 fun q47 => ?_
   refine Ops.v rfl (op_load_hole (p := 1) ld_26.h rfl rfl (getI_lt g46).2.2 rfl rfl) ?_
   refine zz ?_
   refine ob' h fun r48 g49 h => ?_
   refine Ops.hd (ns := [0]) rfl rfl (op_callE (Zbk e45.prev (IntKind.i64.wrap ((IntKind.i64.wrap ((IntKind.i64.wrap ((IntKind.i64.wrap ((IntKind.i64.wrap ((IntKind.i64.wrap ((IntKind.i64.wrap (x26 + 1)) + 1)) + 1)) + 1)) + 1)) + 1)) + 1)) _ g49) rfl rfl) ?_
   refine Ops.ghost (Ghost.back (x' := (TEvent.mk e45.id e45.room e45.author e45.kind e45.key e45.n e45.text r48.2 e45.time)) (ns := [1, 0]) rfl (getI_lt g46).2.2 rfl rfl) ?_
   refine zz ?_
   refine ob' h fun e50 g51 h => ?_
   refine Ops.v rfl (op_indexAddr_deep (p := 0) sl_28.h rfl rfl rfl g51 rfl) ?_
   refine Ops.v rfl (op_fieldAddr_deep (p := 0) fo_38_8.h rfl rfl (getI_lt g51).2.2 rfl) ?_
   refine Ops.hd (ns := [0]) rfl rfl (op_store_deep (e' := (TEvent.mk e50.id e50.room e50.author e50.kind e50.key e50.n e50.text e50.prev r48.1)) ld_2.h rfl rfl (One.val rfl) (getI_lt g51).2.2 (fun _ => rfl) (fun _ => rfl) (fun _ => rfl)) ?_
   refine zz ?_
   obtain rfl := Option.some.inj h
   exact ⟨k60, ((List.set (List.set (List.set (List.set (List.set (List.set (List.set (List.set (List.set l25 (Int.toNat x27) (TEvent.mk x26 e29.room e29.author e29.kind e29.key e29.n e29.text e29.prev e29.time)) (Int.toNat x27) (TEvent.mk e31.id (IntKind.i64.wrap (x26 + 1)) e31.author e31.kind e31.key e31.n e31.text e31.prev e31.time)) (Int.toNat x27) (TEvent.mk e33.id e33.room (IntKind.i64.wrap ((IntKind.i64.wrap (x26 + 1)) + 1)) e33.kind e33.key e33.n e33.text e33.prev e33.time)) (Int.toNat x27) (TEvent.mk e35.id e35.room e35.author (IntKind.i64.wrap ((IntKind.i64.wrap ((IntKind.i64.wrap (x26 + 1)) + 1)) + 1)) e35.key e35.n e35.text e35.prev e35.time)) (Int.toNat x27) (TEvent.mk e37.id e37.room e37.author e37.kind (IntKind.i64.wrap ((IntKind.i64.wrap ((IntKind.i64.wrap ((IntKind.i64.wrap (x26 + 1)) + 1)) + 1)) + 1)) e37.n e37.text e37.prev e37.time)) (Int.toNat x27) (TEvent.mk e39.id e39.room e39.author e39.kind e39.key (IntKind.i64.wrap ((IntKind.i64.wrap ((IntKind.i64.wrap ((IntKind.i64.wrap ((IntKind.i64.wrap (x26 + 1)) + 1)) + 1)) + 1)) + 1)) e39.text e39.prev e39.time)) (Int.toNat x27) (TEvent.mk e43.id e43.room e43.author e43.kind e43.key e43.n r41 e43.prev e43.time)) (Int.toNat x27) (TEvent.mk e45.id e45.room e45.author e45.kind e45.key e45.n e45.text r48.2 e45.time)) (Int.toNat x27) (TEvent.mk e50.id e50.room e50.author e50.kind e50.key e50.n e50.text e50.prev r48.1)), (IntKind.i64.wrap (r48.1 + 1)), (IntKind.i64.wrap (x27 + 1))), hlt_k60, h63, Ghost.both (ns := [0]) rfl rfl⟩
  refine AW.cf hb28 rfl ?_
  refine AW.exit ?_
  obtain rfl := Option.some.inj h
  obtain rfl := Option.some.inj h63
  replace h := q59
  exact ⟨(x26, l25), h, Ghost.both (ns := [0]) rfl rfl⟩
 rintro ⟨x52, l53⟩ h
 replace h : Z9l x52 l53 = some r := h
 unfold Z9l at h
 refine zz ?_
 refine AW.ret ?_
 rw [← Option.some.inj h]
 exact ⟨[C.int x52], _, Ghost.refl _, (.cons (.tmp rfl) .nil), [0], _, _, rfl, ⟨rfl, rfl⟩⟩

def Z7o (p0 : TGraph') (p1 : Int) : Option (Int × List TEvent × List TEvent) := (Z5p p0.events p1).bind fun r2 => (Z5p p0.parked r2.1).bind fun r4 => some (r4.1, r2.2, r4.2)
theorem Zcp {w00 : Value} {w01 : Value} (p0 : TGraph') (p1 : Int) (r : Int × List TEvent × List TEvent) (h : Z7o p0 p1 = some r) : Ok Tryz.prog 15 [C.agg [C.int p0.room, C.val w00, C.val w01], C.int p1] [Obj.deep w00 38 kdEvent obEvent 9 p0.events, Obj.deep w01 38 kdEvent obEvent 9 p0.parked] (fun c qs => c = C.int r.1 ∧ qs = [Obj.deep w00 38 kdEvent obEvent 9 r.2.1, Obj.deep w01 38 kdEvent obEvent 9 r.2.2]) := by
 refine Ok.of_body (rs := [.tmp 4]) Tryz.func15 rfl rfl rfl rfl rfl fun X => ?_
 unfold Z7o at h
 refine zz ?_
 refine Ops.h (ns := []) rfl rfl (op_boxA rfl rfl) ?_
 rintro _ _ ⟨b1, rfl, rfl⟩
 refine zz ?_
 refine ob' h fun r2 g3 h => ?_
 refine Ops.hd (ns := [1]) rfl rfl (op_callE (Zbj p0.events p1 _ g3) rfl rfl) ?_
 refine zz ?_
 refine ob' h fun r4 g5 h => ?_
 refine Ops.hd (ns := [2]) rfl rfl (op_callE (Zbj p0.parked r2.1 _ g5) rfl rfl) ?_
 refine zz ?_
 refine AW.ret ?_
 rw [← Option.some.inj h]
 exact ⟨[C.int r4.1], _, Ghost.refl _, (.cons (.tmp rfl) .nil), [1, 0], _, _, rfl, ⟨rfl, rfl⟩⟩

def Z9k (x11 : Int) : Option Int := some x11
def Z1s (p0 : List Int) (x5 : Int) (x6 : Int) : Option ((Int × Int) ⊕ (Int ⊕ Int)) := cond (decide (x6 < (p0.length : Int))) ((getI p0 x6).bind fun e8 => cond (e8 != x5) (some (.inr (.inl (-1)))) (some (.inl ((IntKind.i64.wrap (x5 + 1)), (IntKind.i64.wrap (x6 + 1)))))) (some (.inr (.inr x5)))
def Z5o (p0 : List Int) (p1 : Int) : Option Int := (iter (fun z12 => Z1s p0 z12.1 z12.2) big (p1, 0)).bind (fun z15 => match z15 with | .inl y13 => some y13 | .inr y14 => Z9k y14)
theorem Zbi (p0 : List Int) (p1 : Int) (r : Int) (h : Z5o p0 p1 = some r) : Ok Tryz.prog 17 [C.im kI64 1 p0, C.int p1] [] (fun c qs => c = C.int r ∧ qs = []) := by
 refine Ok.of_body (rs := [.tmp 4]) Tryz.func17 rfl rfl rfl rfl rfl fun X => ?_
 unfold Z5o at h
 refine AW.seq ?_
 refine AW.region ?_
 refine Ops.v rfl (op_assign rfl rfl) ?_
 refine Ops.nil ?_
 refine AW.seq ?_
 refine AW.cut (τ := Int) (fun x11 => ⟨[(1, C.int x11)], []⟩) (fun x11 => Z9k x11 = some r) ?_ ?_
 ·
  refine zz ?_
  refine ob' h fun o16 g17 q18 => ?_
  refine AW.loop (τ := Int × Int) (x := (p1, 0)) (fun (x5, x6) => ⟨[(0, C.im kI64 1 p0), (1, C.int x5), (5, C.int x6)], []⟩) (fun k (x5, x6) => iter (fun z12 => Z1s p0 z12.1 z12.2) k (x5, x6) = some o16) g17 (Ghost.both (ns := []) rfl rfl) ?_
  rintro k ⟨x5, x6⟩ i20
  refine iter_succ' (show iter (fun z12 => Z1s p0 z12.1 z12.2) k (x5, x6) = some o16 from i20) fun k19 y21 hlt_k19 h h22 => ?_
  replace h : Z1s p0 x5 x6 = some y21 := h
  unfold Z1s at h
  refine zz ?_
  refine cnd h (fun hb7 h => ?_) fun hb7 h => ?_
  ·
   refine AW.ct hb7 rfl ?_
   refine zz ?_
   refine ob' h fun e8 g9 h => ?_
   refine Ops.v rfl (op_indexAddr_im sl_26.h rfl rfl g9 rfl) ?_
   refine Ops.v rfl (op_load_ip ld_2.h rfl rfl) ?_
   refine zz ?_
   refine cnd h (fun hb10 h => ?_) fun hb10 h => ?_
   ·
    refine AW.ct hb10 rfl ?_
    refine zz ?_
    refine AW.ret ?_
    obtain rfl := Option.some.inj h
    obtain rfl := Option.some.inj h22
    replace h := q18
    rw [← Option.some.inj h]
    exact ⟨[C.int (-1)], _, Ghost.refl _, (.cons (.tmp rfl) .nil), [], _, _, rfl, ⟨rfl, rfl⟩⟩
   refine AW.cf hb10 rfl ?_
   refine zz ?_
   obtain rfl := Option.some.inj h
   exact ⟨k19, ((IntKind.i64.wrap (x5 + 1)), (IntKind.i64.wrap (x6 + 1))), hlt_k19, h22, Ghost.both (ns := []) rfl rfl⟩
  refine AW.cf hb7 rfl ?_
  refine AW.exit ?_
  obtain rfl := Option.some.inj h
  obtain rfl := Option.some.inj h22
  replace h := q18
  exact ⟨x5, h, Ghost.both (ns := []) rfl rfl⟩
 intro x11 h
 replace h : Z9k x11 = some r := h
 unfold Z9k at h
 refine zz ?_
 refine AW.ret ?_
 rw [← Option.some.inj h]
 exact ⟨[C.int x11], _, Ghost.refl _, (.cons (.tmp rfl) .nil), [], _, _, rfl, ⟨rfl, rfl⟩⟩

def Z5m (p0 : TGraph) (p1 : Int) (r7 : List Int) (r14 : List Int) (x43 : Bool) : Option Bool := cond x43 (some false) ((Z5q r14 1).bind fun r45 => (Z5o r45.2 1).bind fun r47 => cond (decide (r47 < 0)) (some false) (cond (r47 != r45.1) (some false) ((Zo p0).bind fun r51 => (Z39 r51 p1).bind fun r53 => (Z1r r53 r7).bind fun r55 => cond r55 ((Z5o r45.2 1).bind fun r58 => cond (decide (r58 < 0)) (some false) (cond (r58 != r45.1) (some false) (some true))) (some false))))
def Z9h (p0 : TGraph) (p1 : Int) : Option Bool := (Z7s p0 1048576).bind fun r2 => cond (decide (r2 < 0)) (some true) ((Zo p0).bind fun r5 => (Z68 r5 p1).bind fun r7 => (Zo p0).bind fun r9 => (Z39 r9 p1).bind fun r14 => (Z1r r14 r7).bind fun r18 => cond r18 ((Zo p0).bind fun r33 => (Z7n r9 r33).bind fun r35 => cond r35 ((Z7o r9 1).bind fun r38 => cond (decide (r38.1 < 0)) (Z5m p0 p1 r7 r14 true) ((Z1r r14 r7).bind fun r41 => Z5m p0 p1 r7 r14 (!r41))) (some false)) (some false))
set_option maxHeartbeats 1000000 in
theorem Zcm (p0 : TGraph) (p1 : Int) (r : Bool) (h : Z9h p0 p1 = some r) : Ok Tryz.prog 4 [C.agg [C.int p0.room, C.im kEvent 9 p0.events, C.im kEvent 9 p0.parked], C.int p1] [] (fun c qs => c = C.bool r ∧ qs = []) := by
 refine Ok.of_body (rs := [.tmp 4]) Tryz.func4 rfl rfl rfl rfl rfl fun X => ?_
 unfold Z9h at h
 refine zz ?_
 refine Ops.h (ns := []) rfl rfl (op_boxA rfl rfl) ?_
 rintro _ _ ⟨b1, rfl, rfl⟩
 refine zz ?_
 refine Ops.v rfl (op_loadA (p := 0) (ds := [C.int p0.room, C.im kEvent 9 p0.events, C.im kEvent 9 p0.parked]) ld_24.h rfl rfl rfl rfl rfl) ?_
 refine zz ?_
 refine ob' h fun r2 g3 h => ?_
 refine Ops.hd (ns := []) rfl rfl (op_callE (Zcs _ _ _ g3) rfl rfl) ?_
 refine zz ?_
 refine cnd h (fun hb4 h => ?_) fun hb4 h => ?_
 ·
  refine AW.ct hb4 rfl ?_
  refine zz ?_
  refine AW.ret ?_
  rw [← Option.some.inj h]
  exact ⟨[C.bool true], _, Ghost.refl _, (.cons (.tmp rfl) .nil), [], _, _, rfl, ⟨rfl, rfl⟩⟩
 refine AW.cf hb4 rfl ?_
 refine zz ?_
 refine Ops.v rfl (op_loadA (p := 0) (ds := [C.int p0.room, C.im kEvent 9 p0.events, C.im kEvent 9 p0.parked]) ld_24.h rfl rfl rfl rfl rfl) ?_
 refine ob' h fun r5 g6 h => ?_
 refine Ops.hd (ns := []) rfl rfl (op_callE (Z5u' _ _ g6) rfl rfl) ?_
 refine zz ?_
 refine ob' h fun r7 g8 h => ?_
 refine Ops.hd (ns := []) rfl rfl (op_callE (Zaz' _ _ _ g8) rfl rfl) ?_
 refine zz ?_
 refine Ops.v rfl (op_loadA (p := 0) (ds := [C.int p0.room, C.im kEvent 9 p0.events, C.im kEvent 9 p0.parked]) ld_24.h rfl rfl rfl rfl rfl) ?_
 refine ob' h fun r9 g10 h => ?_
 refine Ops.h (ns := []) rfl rfl (op_call (Z5u _ _ g10) rfl rfl) ?_
 rintro _ _ ⟨_, ⟨v11, v12, rfl, rfl⟩, rfl⟩
 refine Ops.h (ns := []) rfl rfl (op_alloc (cs := [C.int 0, C.val (.slice none 0 0), C.val (.slice none 0 0)]) ze_30 (cells_zero rfl rfl) rfl) ?_
 rintro _ _ ⟨b13, rfl, rfl⟩
 refine Ops.hd (ns := [0]) rfl rfl (op_storeA (gs := [C.int r9.room, C.val v11, C.val v12]) ld_30.h rfl rfl rfl rfl rfl) ?_
 refine zz ?_
 refine Ops.v rfl (op_loadA (p := 0) (ds := [C.int r9.room, C.val v11, C.val v12]) ld_30.h rfl rfl rfl rfl rfl) ?_
 refine zz ?_
 refine ob' h fun r14 g15 h => ?_
 refine Ops.h (ns := [1, 1]) rfl rfl (op_call (Ok.lend (Z9r r9 p1 _ g15) (FrzT.cons (os := [_, _]) (Frz.agg (FrzL.cons (os := []) (Frz.same _) (FrzL.cons (os := [_]) (Frz.deep frz_kdEvent) (FrzL.cons (os := [_]) (Frz.deep frz_kdEvent) (FrzL.nil))))) (FrzT.cons (os := []) (Frz.same _) (FrzT.nil))) (by rintro _ _ ⟨_, rfl, rfl⟩; exact ⟨(PlainC.val _), plainO_cons (PlainO.arr plain_kI64) (plainO_nil)⟩)) rfl rfl) ?_
 rintro _ _ ⟨_, ⟨_, ⟨v16, rfl, rfl⟩, rfl⟩, rfl⟩
 refine zz ?_
 refine ob' h fun r18 g19 h => ?_
 refine Ops.hd (ns := [0]) rfl rfl (op_callE (Ok.lendE (Z9u r14 r7 _ g19) (FrzT.cons (os := [_]) Frz.arr (FrzT.cons (os := []) (Frz.same _) (FrzT.nil))) (PlainC.val _)) rfl rfl) ?_
 refine zz ?_
 refine cnd h (fun hb20 h => ?_) fun hb20 h => ?_
 ·
  refine AW.cond rfl (fun hn => absurd ((not_t hb20).symm.trans hn) (by decide)) (fun _ => ?_)
  refine zz ?_
  refine AW.regionD (L := [0, 1]) (Lt := []) (k := .light 0 true (.light 1 true (.one 2 (.one 3 (.light 4 false .done))))) (ns := [0, 2, 2]) (by kernel_rfl) (by kernel_rfl) (by kernel_rfl) (by kernel_rfl) rfl ?_
  refine OpsD.v rfl rfl (op_loadA (p := 1) (ds := [C.int r9.room, C.val v11, C.val v12]) ld_30.h rfl rfl rfl rfl rfl) ?_
  refine OpsD.v rfl rfl (op_loadA (p := 2) (ds := [C.int p0.room, C.im kEvent 9 p0.events, C.im kEvent 9 p0.parked]) ld_24.h rfl rfl rfl rfl rfl) ?_
  refine zz ?_
  refine ob' h fun r33 g34 h => ?_
  refine StepD.h (ns := []) rfl rfl rfl (op_callE (Z5u' _ _ g34) rfl rfl) ?_
  rintro _ _ ⟨rfl, rfl⟩
  refine zz ?_
  refine ob' h fun r35 g36 h => ?_
  refine StepD.h (ns := [0, 0]) rfl rfl rfl (op_callE (Ok.lendE (Zco r9 r33 _ g36) (FrzT.cons (os := [_, _]) (Frz.agg (FrzL.cons (os := []) (Frz.same _) (FrzL.cons (os := [_]) (Frz.deep frz_kdEvent) (FrzL.cons (os := [_]) (Frz.deep frz_kdEvent) (FrzL.nil))))) (FrzT.cons (os := []) (Frz.same _) (FrzT.nil))) (PlainC.val _)) rfl rfl) ?_
  rintro _ _ ⟨rfl, rfl⟩
  refine zz ?_
  refine cnd h (fun hb37 h => ?_) fun hb37 h => ?_
  ·
   refine AW.cond rfl (fun hn => absurd ((not_t hb37).symm.trans hn) (by decide)) (fun _ => ?_)
   refine zz ?_
   refine Ops.v rfl (op_loadA (p := 1) (ds := [C.int r9.room, C.val v11, C.val v12]) ld_30.h rfl rfl rfl rfl rfl) ?_
   refine zz ?_
   refine ob' h fun r38 g39 h => ?_
   refine Ops.hd (ns := [3, 3]) rfl rfl (op_callE (Zcp r9 1 _ g39) rfl rfl) ?_
   refine Ops.v rfl (op_assign rfl rfl) ?_
   refine Ops.nil ?_
   refine AW.seq ?_
   refine AW.seq ?_
   refine AW.cut (τ := Bool) (fun x43 => ⟨[(1, C.int p1), (2, C.val (.pointer (some ⟨b1, 0, none⟩))), (6, C.im kI64 1 r7), (8, C.val v16), (46, C.bool x43)], [Obj.box b1 24 [C.int p0.room, C.im kEvent 9 p0.events, C.im kEvent 9 p0.parked], Obj.arr v16 2 kI64 1 r14]⟩) (fun x43 => Z5m p0 p1 r7 r14 x43 = some r) ?_ ?_
   ·
    refine zz ?_
    refine cnd h (fun hb40 h => ?_) fun hb40 h => ?_
    ·
     refine zz ?_
     exact ⟨true, h, Ghost.both (ns := [4, 2]) rfl rfl⟩
    refine zz ?_
    refine ob' h fun r41 g42 h => ?_
    refine Ops.ghd (ns := [2]) rfl rfl rfl rfl hb40 rfl (op_callE (Ok.lendE (Z9u r14 r7 _ g42) (FrzT.cons (os := [_]) Frz.arr (FrzT.cons (os := []) (Frz.same _) (FrzT.nil))) (PlainC.val _)) rfl rfl) ?_
    refine zz ?_
    exact ⟨(!r41), h, Ghost.both (ns := [4, 0]) rfl rfl⟩
   intro x43 h
   replace h : Z5m p0 p1 r7 r14 x43 = some r := h
   unfold Z5m at h
   refine cnd h (fun hb44 h => ?_) fun hb44 h => ?_
   ·
    refine AW.ct hb44 rfl ?_
    refine zz ?_
    refine AW.ret ?_
    rw [← Option.some.inj h]
    exact ⟨[C.bool false], _, Ghost.refl _, (.cons (.tmp rfl) .nil), [], _, _, rfl, ⟨rfl, rfl⟩⟩
   refine AW.cf hb44 rfl ?_
   refine zz ?_
   refine ob' h fun r45 g46 h => ?_
   refine Ops.hd (ns := [1]) rfl rfl (op_callE (Zbk r14 1 _ g46) rfl rfl) ?_
   refine zz ?_
   refine ob' h fun r47 g48 h => ?_
   refine Ops.hd (ns := [0]) rfl rfl (op_callE (Ok.lendE (Zbi r45.2 1 _ g48) (FrzT.cons (os := [_]) Frz.arr (FrzT.cons (os := []) (Frz.same _) (FrzT.nil))) (PlainC.val _)) rfl rfl) ?_
   refine zz ?_
   refine cnd h (fun hb49 h => ?_) fun hb49 h => ?_
   ·
    refine AW.ct hb49 rfl ?_
    refine zz ?_
    refine AW.ret ?_
    rw [← Option.some.inj h]
    exact ⟨[C.bool false], _, Ghost.refl _, (.cons (.tmp rfl) .nil), [], _, _, rfl, ⟨rfl, rfl⟩⟩
   refine AW.cf hb49 rfl ?_
   refine zz ?_
   refine cnd h (fun hb50 h => ?_) fun hb50 h => ?_
   ·
    refine AW.ct hb50 rfl ?_
    refine zz ?_
    refine AW.ret ?_
    rw [← Option.some.inj h]
    exact ⟨[C.bool false], _, Ghost.refl _, (.cons (.tmp rfl) .nil), [], _, _, rfl, ⟨rfl, rfl⟩⟩
   refine AW.cf hb50 rfl ?_
   refine zz ?_
   refine Ops.v rfl (op_loadA (p := 1) (ds := [C.int p0.room, C.im kEvent 9 p0.events, C.im kEvent 9 p0.parked]) ld_24.h rfl rfl rfl rfl rfl) ?_
   refine ob' h fun r51 g52 h => ?_
   refine Ops.hd (ns := []) rfl rfl (op_callE (Z5u' _ _ g52) rfl rfl) ?_
   refine zz ?_
   refine ob' h fun r53 g54 h => ?_
   refine Ops.hd (ns := []) rfl rfl (op_callE (Z9r' _ _ _ g54) rfl rfl) ?_
   refine zz ?_
   refine ob' h fun r55 g56 h => ?_
   refine Ops.hd (ns := []) rfl rfl (op_callE (Z9u _ _ _ g56) rfl rfl) ?_
   refine zz ?_
   refine cnd h (fun hb57 h => ?_) fun hb57 h => ?_
   ·
    refine AW.cond rfl (fun hn => absurd ((not_t hb57).symm.trans hn) (by decide)) (fun _ => ?_)
    refine zz ?_
    refine ob' h fun r58 g59 h => ?_
    refine Ops.hd (ns := [0]) rfl rfl (op_callE (Ok.lendE (Zbi r45.2 1 _ g59) (FrzT.cons (os := [_]) Frz.arr (FrzT.cons (os := []) (Frz.same _) (FrzT.nil))) (PlainC.val _)) rfl rfl) ?_
    refine zz ?_
    refine cnd h (fun hb60 h => ?_) fun hb60 h => ?_
    ·
     refine AW.ct hb60 rfl ?_
     refine zz ?_
     refine AW.ret ?_
     rw [← Option.some.inj h]
     exact ⟨[C.bool false], _, Ghost.refl _, (.cons (.tmp rfl) .nil), [], _, _, rfl, ⟨rfl, rfl⟩⟩
    refine AW.cf hb60 rfl ?_
    refine zz ?_
    refine cnd h (fun hb61 h => ?_) fun hb61 h => ?_
    ·
     refine AW.ct hb61 rfl ?_
     refine zz ?_
     refine AW.ret ?_
     rw [← Option.some.inj h]
     exact ⟨[C.bool false], _, Ghost.refl _, (.cons (.tmp rfl) .nil), [], _, _, rfl, ⟨rfl, rfl⟩⟩
    refine AW.cf hb61 rfl ?_
    refine zz ?_
    refine AW.ret ?_
    rw [← Option.some.inj h]
    exact ⟨[C.bool true], _, Ghost.refl _, (.cons (.tmp rfl) .nil), [], _, _, rfl, ⟨rfl, rfl⟩⟩
   refine AW.cond rfl (fun _ => ?_) (fun hn => absurd ((not_f hb57).symm.trans hn) (by decide))
   refine zz ?_
   refine AW.ret ?_
   rw [← Option.some.inj h]
   exact ⟨[C.bool false], _, Ghost.refl _, (.cons (.tmp rfl) .nil), [], _, _, rfl, ⟨rfl, rfl⟩⟩
  refine AW.cond rfl (fun _ => ?_) (fun hn => absurd ((not_f hb37).symm.trans hn) (by decide))
  refine zz ?_
  refine AW.ret ?_
  rw [← Option.some.inj h]
  exact ⟨[C.bool false], _, Ghost.refl _, (.cons (.tmp rfl) .nil), [], _, _, rfl, ⟨rfl, rfl⟩⟩
 refine AW.cond rfl (fun _ => ?_) (fun hn => absurd ((not_f hb20).symm.trans hn) (by decide))
 refine zz ?_
 refine AW.ret ?_
 rw [← Option.some.inj h]
 exact ⟨[C.bool false], _, Ghost.refl _, (.cons (.tmp rfl) .nil), [], _, _, rfl, ⟨rfl, rfl⟩⟩

end Go.Proofs.YtnndihmamfomcaaGreat
