/- Printed by gen.py: plain functions for Go functions, and that the walks keep to them. -/
import Derived.Test.YtnndihmamfomcaaGreatCQ4
set_option autoImplicit false
set_option linter.unusedVariables false
set_option linter.unusedSimpArgs false
set_option maxRecDepth 100000
namespace Go.Proofs.YtnndihmamfomcaaGreat
open Go Go.Abs
attribute [local irreducible] AW Ops OpsD StepD
def Z5c (p0 : THistory) (p1 : TEvent) (r5 : List TEntry) (x15 : Int) (x29 : Bool) : Option ((List (Int × List TEntry)) × (List (Int × List TEntry)) × (List (Int × Int))) := cond x29 ((Z3h r5 (TEntry.mk p1.kind p1.key p1.id)).bind fun r31 => some ((mset p0.before p1.id r5), (mset (mset p0.after p1.id r5) p1.id r31), (mset p0.refused p1.id x15))) (some ((mset p0.before p1.id r5), (mset p0.after p1.id r5), (mset p0.refused p1.id x15)))
def Z5d (p0 : THistory) (p1 : TEvent) (r5 : List TEntry) (x15 : Int) : Option ((List (Int × List TEntry)) × (List (Int × List TEntry)) × (List (Int × Int))) := cond (x15 == 0) (Z5c p0 p1 r5 x15 (decide (p1.kind ≤ 6))) (Z5c p0 p1 r5 x15 false)
def Z3c (p0 : THistory) (p1 : TEvent) (r5 : List TEntry) (r7 : Int) (x13 : Bool) : Option ((List (Int × List TEntry)) × (List (Int × List TEntry)) × (List (Int × Int))) := cond x13 (Z5d p0 p1 r5 6) (Z5d p0 p1 r5 r7)
def Z7g (p0 : THistory) (p1 : TEvent) : Option ((List (Int × List TEntry)) × (List (Int × List TEntry)) × (List (Int × Int))) := (Z1s p0 p1.prev).bind fun r2 => (Z1n p0 r2).bind fun r5 => (Z33 p0.graph r5 p1).bind fun r7 => cond (r7 == 0) (cond (p1.kind == 8) ((Z1d p0.graph p1.key p1).bind fun r11 => Z3c p0 p1 r5 r7 (!r11)) (Z3c p0 p1 r5 r7 false)) (Z3c p0 p1 r5 r7 false)
set_option maxHeartbeats 1000000 in
theorem Zcy {b00 : Nat} {b01 : Nat} {b02 : Nat} {b03 : Nat} {b04 : Nat} (p0 : THistory) (p1 : TEvent) (r : (List (Int × List TEntry)) × (List (Int × List TEntry)) × (List (Int × Int))) (h : Z7g p0 p1 = some r) : Ok Tryz.prog 120 [C.val (.pointer (some ⟨b00, 0, none⟩)), C.agg [C.int p1.id, C.int p1.room, C.int p1.author, C.int p1.kind, C.int p1.key, C.int p1.n, C.str p1.text, C.im kI64 1 p1.prev, C.int p1.time]] [Obj.box b00 84 [C.int p0.graph.room, C.im kEvent 9 p0.graph.events, C.im kEvent 9 p0.graph.parked, C.val (.map (some b01)), C.val (.map (some b02)), C.val (.map (some b03)), C.val (.map (some b04))], Abs.Obj.map b01 .i64 mcI64 p0.depth, Abs.Obj.map b02 .i64 mcEntryS p0.before, Abs.Obj.map b03 .i64 mcEntryS p0.after, Abs.Obj.map b04 .i64 mcI64 p0.refused] (fun c qs => c = C.tup [] ∧ qs = [Obj.box b00 84 [C.int p0.graph.room, C.im kEvent 9 p0.graph.events, C.im kEvent 9 p0.graph.parked, C.val (.map (some b01)), C.val (.map (some b02)), C.val (.map (some b03)), C.val (.map (some b04))], Abs.Obj.map b01 .i64 mcI64 p0.depth, Abs.Obj.map b02 .i64 mcEntryS r.1, Abs.Obj.map b03 .i64 mcEntryS r.2.1, Abs.Obj.map b04 .i64 mcI64 r.2.2]) := by
 refine Ok.of_body (rs := []) Tryz.func120 rfl rfl rfl rfl rfl fun X => ?_
 unfold Z7g at h
 refine zz ?_
 refine Ops.h (ns := []) rfl rfl (op_boxA rfl rfl) ?_
 rintro _ _ ⟨b1, rfl, rfl⟩
 refine zz ?_
 refine ob' h fun r2 g3 h => ?_
 refine Ops.h (ns := [1, 1, 1, 1, 1]) rfl rfl (op_call (Zbv p0 p1.prev _ g3) rfl rfl) ?_
 rintro _ _ ⟨_, ⟨v4, rfl, rfl⟩, rfl⟩
 refine ob' h fun r5 g6 h => ?_
 refine Ops.hd (ns := [0, 0, 0, 0, 0, 0]) rfl rfl (HOp.frz (t := 10) rfl Frz.arr (op_callE (Zbu p0 r2 _ g6) rfl rfl)) ?_
 refine zz ?_
 refine AW.regionD (L := [3, 5]) (Lt := []) (k := .light 0 false (.light 1 false (.light 2 false (.light 3 true (.light 4 false (.light 5 true (.one 6 (.light 7 false .done)))))))) (ns := [0, 0, 0, 0, 0, 0]) (by kernel_rfl) (by kernel_rfl) (by kernel_rfl) (by kernel_rfl) rfl ?_
 refine zz ?_
 refine OpsD.v rfl rfl (op_nilCheck rfl rfl) ?_
 refine zz ?_
 refine OpsD.v rfl rfl (op_loadA (p := 0) (ds := [C.int p0.graph.room, C.im kEvent 9 p0.graph.events, C.im kEvent 9 p0.graph.parked]) ld_30.h rfl rfl rfl rfl rfl) ?_
 refine zz ?_
 refine OpsD.v rfl rfl (op_loadA (p := 5) (ds := [C.int p1.id, C.int p1.room, C.int p1.author, C.int p1.kind, C.int p1.key, C.int p1.n, C.str p1.text, C.im kI64 1 p1.prev, C.int p1.time]) ld_38.h rfl rfl rfl rfl rfl) ?_
 refine zz ?_
 refine ob' h fun r7 g8 h => ?_
 refine StepD.h (ns := []) rfl rfl rfl (op_callE (Zbn _ _ _ _ g8) rfl rfl) ?_
 rintro _ _ ⟨rfl, rfl⟩
 refine OpsD.v rfl rfl (op_assign rfl rfl) ?_
 refine OpsD.done ?_
 refine AW.seq ?_
 refine AW.cut (τ := Int) (fun x15 => ⟨[(0, C.val (.pointer (some ⟨b00, 0, none⟩))), (3, C.val (.pointer (some ⟨b1, 0, none⟩))), (4, C.im kEntry 3 r5), (5, C.int x15)], [Obj.box b00 84 [C.int p0.graph.room, C.im kEvent 9 p0.graph.events, C.im kEvent 9 p0.graph.parked, C.val (.map (some b01)), C.val (.map (some b02)), C.val (.map (some b03)), C.val (.map (some b04))], Abs.Obj.map b01 .i64 mcI64 p0.depth, Abs.Obj.map b02 .i64 mcEntryS p0.before, Abs.Obj.map b03 .i64 mcEntryS p0.after, Abs.Obj.map b04 .i64 mcI64 p0.refused, Obj.box b1 38 [C.int p1.id, C.int p1.room, C.int p1.author, C.int p1.kind, C.int p1.key, C.int p1.n, C.str p1.text, C.im kI64 1 p1.prev, C.int p1.time]]⟩) (fun x15 => Z5d p0 p1 r5 x15 = some r) ?_ ?_
 ·
  refine AW.seq ?_
  refine AW.cut (τ := Bool) (fun x13 => ⟨[(0, C.val (.pointer (some ⟨b00, 0, none⟩))), (3, C.val (.pointer (some ⟨b1, 0, none⟩))), (4, C.im kEntry 3 r5), (5, C.int r7), (36, C.bool x13)], [Obj.box b00 84 [C.int p0.graph.room, C.im kEvent 9 p0.graph.events, C.im kEvent 9 p0.graph.parked, C.val (.map (some b01)), C.val (.map (some b02)), C.val (.map (some b03)), C.val (.map (some b04))], Abs.Obj.map b01 .i64 mcI64 p0.depth, Abs.Obj.map b02 .i64 mcEntryS p0.before, Abs.Obj.map b03 .i64 mcEntryS p0.after, Abs.Obj.map b04 .i64 mcI64 p0.refused, Obj.box b1 38 [C.int p1.id, C.int p1.room, C.int p1.author, C.int p1.kind, C.int p1.key, C.int p1.n, C.str p1.text, C.im kI64 1 p1.prev, C.int p1.time]]⟩) (fun x13 => Z3c p0 p1 r5 r7 x13 = some r) ?_ ?_
  ·
   refine AW.regionD (L := [4, 11, 13, 14]) (Lt := []) (k := .light 0 false (.light 1 false (.light 2 false (.light 3 false (.light 4 true (.light 5 false (.light 6 false (.light 7 false (.light 8 false (.light 9 false (.light 10 false (.light 11 true (.light 12 false (.light 13 true (.light 14 true (.one 15 (.light 16 false (.light 17 false .done)))))))))))))))))) (ns := [0, 0, 0, 0, 0, 0]) (by kernel_rfl) (by kernel_rfl) (by kernel_rfl) (by kernel_rfl) rfl ?_
   refine zz ?_
   refine cnd h (fun hb9 h => ?_) fun hb9 h => ?_
   ·
    refine zz ?_
    refine OpsD.gv rfl rfl rfl rfl rfl hb9 (op_load (p := 5) ld_2.h rfl rfl rfl rfl) ?_
    refine zz ?_
    refine cnd h (fun hb10 h => ?_) fun hb10 h => ?_
    ·
     refine zz ?_
     refine OpsD.gv rfl rfl rfl rfl rfl hb10 (op_nilCheck rfl rfl) ?_
     refine zz ?_
     refine OpsD.gv rfl rfl rfl rfl rfl hb10 (op_loadA (p := 0) (ds := [C.int p0.graph.room, C.im kEvent 9 p0.graph.events, C.im kEvent 9 p0.graph.parked]) ld_30.h rfl rfl rfl rfl rfl) ?_
     refine zz ?_
     refine OpsD.gv rfl rfl rfl rfl rfl hb10 (op_load (p := 5) ld_2.h rfl rfl rfl rfl) ?_
     refine OpsD.gv rfl rfl rfl rfl rfl hb10 (op_loadA (p := 5) (ds := [C.int p1.id, C.int p1.room, C.int p1.author, C.int p1.kind, C.int p1.key, C.int p1.n, C.str p1.text, C.im kI64 1 p1.prev, C.int p1.time]) ld_38.h rfl rfl rfl rfl rfl) ?_
     refine zz ?_
     refine ob' h fun r11 g12 h => ?_
     refine StepD.gh (ns := []) rfl rfl rfl rfl rfl hb10 rfl (op_callE (Zcs _ _ _ _ g12) rfl rfl) ?_
     rintro _ _ ⟨rfl, rfl⟩
     refine zz ?_
     exact ⟨(!r11), h, Ghost.both (ns := [0, 0, 0, 0, 0, 0]) rfl rfl⟩
    refine OpsD.gs rfl rfl rfl rfl (.b rfl hb10) rfl rfl ?_
    refine OpsD.gs rfl rfl rfl rfl (.b rfl hb10) rfl rfl ?_
    refine OpsD.gs rfl rfl rfl rfl (.b rfl hb10) rfl rfl ?_
    refine OpsD.gs rfl rfl rfl rfl (.b rfl hb10) rfl rfl ?_
    refine OpsD.gs rfl rfl rfl rfl (.b rfl hb10) rfl rfl ?_
    refine OpsD.gs rfl rfl rfl rfl (.b rfl hb10) rfl rfl ?_
    refine OpsD.gs rfl rfl rfl rfl (.b rfl hb10) rfl rfl ?_
    refine OpsD.one ?_
    refine StepD.gs rfl rfl rfl rfl (.b rfl hb10) rfl rfl ?_
    refine zz ?_
    exact ⟨false, h, Ghost.both (ns := [0, 0, 0, 0, 0, 0]) rfl rfl⟩
   refine OpsD.gs rfl rfl rfl rfl (.b rfl hb9) rfl rfl ?_
   refine OpsD.gs rfl rfl rfl rfl (.b rfl hb9) rfl rfl ?_
   refine OpsD.gs rfl rfl rfl rfl (.b rfl hb9) rfl rfl ?_
   refine OpsD.v rfl rfl (op_pick_f rfl hb9 rfl rfl) ?_
   refine OpsD.v rfl rfl (op_move rfl rfl) ?_
   refine OpsD.gs rfl rfl rfl rfl (.b rfl rfl) rfl rfl ?_
   refine OpsD.gs rfl rfl rfl rfl (.b rfl rfl) rfl rfl ?_
   refine OpsD.gs rfl rfl rfl rfl (.b rfl rfl) rfl rfl ?_
   refine OpsD.gs rfl rfl rfl rfl (.b rfl rfl) rfl rfl ?_
   refine OpsD.gs rfl rfl rfl rfl (.b rfl rfl) rfl rfl ?_
   refine OpsD.gs rfl rfl rfl rfl (.b rfl rfl) rfl rfl ?_
   refine OpsD.gs rfl rfl rfl rfl (.b rfl rfl) rfl rfl ?_
   refine OpsD.one ?_
   refine StepD.gs rfl rfl rfl rfl (.b rfl rfl) rfl rfl ?_
   refine zz ?_
   exact ⟨false, h, Ghost.both (ns := [0, 0, 0, 0, 0, 0]) rfl rfl⟩
  intro x13 h
  replace h : Z3c p0 p1 r5 r7 x13 = some r := h
  unfold Z3c at h
  refine cnd h (fun hb14 h => ?_) fun hb14 h => ?_
  ·
   refine AW.ct hb14 rfl ?_
   refine zz ?_
   exact ⟨6, h, Ghost.both (ns := [0, 0, 0, 0, 0, 0]) rfl rfl⟩
  refine AW.cf hb14 rfl ?_
  refine zz ?_
  exact ⟨r7, h, Ghost.both (ns := [0, 0, 0, 0, 0, 0]) rfl rfl⟩
 intro x15 h
 replace h : Z5d p0 p1 r5 x15 = some r := h
 unfold Z5d at h
 refine zz ?_
 refine AW.regionD (L := [3, 5, 9, 11, 15, 17]) (Lt := [29]) (k := .light 0 false (.light 1 false (.light 2 false (.light 3 true (.light 4 false (.light 5 true (.light 6 false (.light 7 false (.light 8 false (.light 9 true (.light 10 false (.light 11 true (.light 12 false (.light 13 false (.light 14 false (.light 15 true (.light 16 false (.light 17 true (.light 18 false (.light 19 false (.light 20 false (.one 21 (.light 22 false (.one 23 (.one 24 (.light 25 false (.one 26 (.one 27 (.light 28 false (.late 29 (.done))))))))))))))))))))))))))))))) (ns := [0, 0, 3]) (by kernel_rfl) (by kernel_rfl) (by kernel_rfl) (by kernel_rfl) rfl ?_
 refine zz ?_
 refine OpsD.v rfl rfl (op_nilCheck rfl rfl) ?_
 refine zz ?_
 refine OpsD.v rfl rfl (op_nilCheck rfl rfl) ?_
 refine zz ?_
 refine OpsD.v rfl rfl (op_nilCheck rfl rfl) ?_
 refine OpsD.v rfl rfl (op_fieldAddr fo_84_4.h rfl rfl) ?_
 refine OpsD.v rfl rfl (op_load (p := 0) ld_81.h rfl rfl rfl rfl) ?_
 refine OpsD.v rfl rfl (op_fieldAddr fo_38_0.h rfl rfl) ?_
 refine OpsD.v rfl rfl (op_load (p := 2) ld_2.h rfl rfl rfl rfl) ?_
 refine OpsD.v rfl rfl (op_move rfl rfl) ?_
 refine OpsD.v rfl rfl (op_move rfl rfl) ?_
 refine OpsD.v rfl rfl (op_move rfl rfl) ?_
 refine OpsD.one ?_
 refine StepD.h (ns := [0]) rfl rfl rfl (op_mapEntry (kc := mcEntryS) (z0 := ([] : List TEntry)) mi_82 zv_49 (fun w F => Imp.nil kEntry 3 w F _ rfl) rfl rfl rfl) ?_
 rintro _ _ ⟨st25, rfl, rfl⟩
 refine OpsD.v rfl rfl (op_extract rfl rfl rfl) ?_
 refine OpsD.one ?_
 refine StepD.h (ns := [0]) rfl rfl rfl (op_entryStore (kc := mcEntryS) (v := r5) rfl rfl rfl rfl) ?_
 rintro _ _ ⟨rfl, rfl⟩
 refine OpsD.one ?_
 refine StepD.h (ns := [1]) rfl rfl rfl (op_mapEntry (kc := mcEntryS) (z0 := ([] : List TEntry)) mi_82 zv_49 (fun w F => Imp.nil kEntry 3 w F _ rfl) rfl rfl rfl) ?_
 rintro _ _ ⟨st26, rfl, rfl⟩
 refine OpsD.v rfl rfl (op_extract rfl rfl rfl) ?_
 refine OpsD.one ?_
 refine StepD.h (ns := [0]) rfl rfl rfl (op_entryStore (kc := mcEntryS) (v := r5) rfl rfl rfl rfl) ?_
 rintro _ _ ⟨rfl, rfl⟩
 refine OpsD.one ?_
 refine StepD.h (ns := [2]) rfl rfl rfl (op_mapEntry (kc := mcI64) (z0 := 0) mi_81 zv_2 (fun _ _ => rfl) rfl rfl rfl) ?_
 rintro _ _ ⟨st27, rfl, rfl⟩
 refine OpsD.v rfl rfl (op_extract rfl rfl rfl) ?_
 refine OpsD.late (ns := [3]) rfl rfl rfl (op_entryStore (kc := mcI64) (v := x15) rfl rfl rfl rfl) ?_
 rintro _ _ ⟨rfl, rfl⟩
 refine OpsD.done ?_
 refine AW.seq ?_
 refine AW.cut (τ := Bool) (fun x29 => ⟨[(0, C.val (.pointer (some ⟨b00, 0, none⟩))), (3, C.val (.pointer (some ⟨b1, 0, none⟩))), (4, C.im kEntry 3 r5), (70, C.bool x29)], [Obj.box b00 84 [C.int p0.graph.room, C.im kEvent 9 p0.graph.events, C.im kEvent 9 p0.graph.parked, C.val (.map (some b01)), C.val (.map (some b02)), C.val (.map (some b03)), C.val (.map (some b04))], Abs.Obj.map b01 .i64 mcI64 p0.depth, Abs.Obj.map b02 .i64 mcEntryS (mset p0.before p1.id r5), Abs.Obj.map b03 .i64 mcEntryS (mset p0.after p1.id r5), Abs.Obj.map b04 .i64 mcI64 (mset p0.refused p1.id x15), Obj.box b1 38 [C.int p1.id, C.int p1.room, C.int p1.author, C.int p1.kind, C.int p1.key, C.int p1.n, C.str p1.text, C.im kI64 1 p1.prev, C.int p1.time]]⟩) (fun x29 => Z5c p0 p1 r5 x15 x29 = some r) ?_ ?_
 ·
  refine zz ?_
  refine cnd h (fun hb28 h => ?_) fun hb28 h => ?_
  ·
   refine zz ?_
   refine Ops.gv rfl rfl rfl rfl hb28 (op_load (p := 3) ld_2.h rfl rfl rfl rfl) ?_
   refine zz ?_
   exact ⟨decide (p1.kind ≤ 6), h, Ghost.both (ns := [1, 1, 3, 2, 0, 0]) rfl rfl⟩
  refine zz ?_
  exact ⟨false, h, Ghost.both (ns := [1, 1, 3, 2, 0, 0]) rfl rfl⟩
 intro x29 h
 replace h : Z5c p0 p1 r5 x15 x29 = some r := h
 unfold Z5c at h
 refine cnd h (fun hb30 h => ?_) fun hb30 h => ?_
 ·
  refine AW.ct hb30 rfl ?_
  refine AW.regionD (L := [3, 5, 8, 10, 12]) (Lt := [15]) (k := .light 0 false (.light 1 false (.light 2 false (.light 3 true (.light 4 false (.light 5 true (.light 6 false (.light 7 false (.light 8 true (.light 9 false (.light 10 true (.light 11 false (.light 12 true (.light 13 false (.one 14 (.late 15 (.done))))))))))))))))) (ns := [0, 0, 0, 0, 0, 0]) (by kernel_rfl) (by kernel_rfl) (by kernel_rfl) (by kernel_rfl) rfl ?_
  refine zz ?_
  refine OpsD.v rfl rfl (op_nilCheck rfl rfl) ?_
  refine zz ?_
  refine OpsD.v rfl rfl (op_load (p := 5) ld_2.h rfl rfl rfl rfl) ?_
  refine zz ?_
  refine OpsD.v rfl rfl (op_load (p := 5) ld_2.h rfl rfl rfl rfl) ?_
  refine zz ?_
  refine OpsD.v rfl rfl (op_load (p := 5) ld_2.h rfl rfl rfl rfl) ?_
  refine zz ?_
  refine OpsD.v rfl rfl (op_load (p := 5) ld_2.h rfl rfl rfl rfl) ?_
  refine OpsD.v rfl rfl (op_build (ds := [C.int p1.kind, C.int p1.key, C.int p1.id]) pl_99 ze_99 (cells_zero rfl rfl) (.one rfl (One.val rfl) rfl rfl (.one rfl (One.val rfl) rfl rfl (.one rfl (One.val rfl) rfl rfl .nil))) rfl) ?_
  refine zz ?_
  refine ob' h fun r31 g32 h => ?_
  refine StepD.h (ns := []) rfl rfl rfl (op_callE (Za4' _ _ _ g32) rfl rfl) ?_
  rintro _ _ ⟨rfl, rfl⟩
  refine OpsD.late (ns := [3]) rfl rfl rfl (op_mapUpdate (kc := mcEntryS) (v := r31) mi_82 rfl rfl rfl rfl) ?_
  rintro _ _ ⟨rfl, rfl⟩
  refine zz ?_
  rw [← Option.some.inj h]
  exact ⟨[], _, Ghost.refl _, .nil, [1, 1, 1, 0, 0], _, _, rfl, ⟨rfl, rfl⟩⟩
 refine AW.cf hb30 rfl ?_
 refine zz ?_
 rw [← Option.some.inj h]
 exact ⟨[], _, Ghost.refl _, .nil, [0, 0, 0, 0, 0], _, _, rfl, ⟨rfl, rfl⟩⟩

def Z7r (p0 : TGraph') (m23 : List (Int × Int)) (m46 : List (Int × List TEntry)) (m47 : List (Int × List TEntry)) (m48 : List (Int × Int)) : Option THistory := some (THistory.mk p0 m23 m46 m47 m48)
def Z1u (p0 : TGraph') (m23 : List (Int × Int)) (r24 : List Int) (m34 : List (Int × List TEntry)) (m35 : List (Int × List TEntry)) (m36 : List (Int × Int)) (x37 : Int) : Option (((List (Int × List TEntry)) × (List (Int × List TEntry)) × (List (Int × Int)) × Int) ⊕ (((List (Int × List TEntry)) × (List (Int × List TEntry)) × (List (Int × Int))))) := cond (decide (x37 < (r24.length : Int))) ((getI r24 x37).bind fun e39 => (Zf p0 e39).bind fun r41 => (Z7g (THistory.mk p0 m23 m34 m35 m36) r41.1).bind fun r44 => some (.inl (r44.1, r44.2.1, r44.2.2, (IntKind.i64.wrap (x37 + 1))))) (some (.inr (m34, m35, m36)))
def Z7s (p0 : TGraph') (m23 : List (Int × Int)) : Option THistory := (Z59 p0).bind fun r24 => (iter (fun z54 => Z1u p0 m23 r24 z54.1 z54.2.1 z54.2.2.1 z54.2.2.2) big (([] : List (Int × List TEntry)), ([] : List (Int × List TEntry)), ([] : List (Int × Int)), 0)).bind fun (y55, y56, y57) => Z7r p0 m23 y55 y56 y57
def Zo (p0 : TGraph') (r7 : List Int × Bool) (m15 : List (Int × Int)) (x16 : Int) : Option (((List (Int × Int)) × Int) ⊕ ((List (Int × Int)))) := cond (decide (x16 < (p0.events.length : Int))) ((getI p0.events x16).bind fun e18 => (getI r7.1 x16).bind fun e21 => some (.inl ((mset m15 e18.id e21), (IntKind.i64.wrap (x16 + 1))))) (some (.inr m15))
def Z7q (p0 : TGraph') : Option THistory := (Z1h p0).bind fun r7 => (iter (fun z58 => Zo p0 r7 z58.1 z58.2) big (([] : List (Int × Int)), 0)).bind fun y59 => Z7s p0 y59
set_option maxHeartbeats 1000000 in
theorem Zd6 (p0 : TGraph') (r : THistory) (h : Z7q p0 = some r) : Ok Tryz.prog 62 [C.agg [C.int p0.room, C.im kEvent 9 p0.events, C.im kEvent 9 p0.parked]] [] (fun c qs => ∃ (b49 : Nat) (b50 : Nat) (b51 : Nat) (b52 : Nat) (b53 : Nat), c = C.val (.pointer (some ⟨b49, 0, none⟩)) ∧ qs = [Obj.box b49 84 [C.int r.graph.room, C.im kEvent 9 r.graph.events, C.im kEvent 9 r.graph.parked, C.val (.map (some b50)), C.val (.map (some b51)), C.val (.map (some b52)), C.val (.map (some b53))], Abs.Obj.map b50 .i64 mcI64 r.depth, Abs.Obj.map b51 .i64 mcEntryS r.before, Abs.Obj.map b52 .i64 mcEntryS r.after, Abs.Obj.map b53 .i64 mcI64 r.refused]) := by
 refine Ok.of_body (rs := [.tmp 2]) Tryz.func62 rfl rfl rfl rfl rfl fun X => ?_
 unfold Z7q at h
 refine zz ?_
 refine Ops.h (ns := []) rfl rfl (op_boxA rfl rfl) ?_
 rintro _ _ ⟨b1, rfl, rfl⟩
 refine zz ?_
 refine Ops.v rfl (op_loadA (p := 0) (ds := [C.int p0.room, C.im kEvent 9 p0.events, C.im kEvent 9 p0.parked]) ld_30.h rfl rfl rfl rfl rfl) ?_
 refine Ops.h (ns := []) rfl rfl (op_makeMap (kd := .i64) (kc := mcI64) rfl) ?_
 rintro _ _ ⟨b2, rfl, rfl⟩
 refine Ops.h (ns := []) rfl rfl (op_makeMap (kd := .i64) (kc := mcEntryS) rfl) ?_
 rintro _ _ ⟨b3, rfl, rfl⟩
 refine Ops.h (ns := []) rfl rfl (op_makeMap (kd := .i64) (kc := mcEntryS) rfl) ?_
 rintro _ _ ⟨b4, rfl, rfl⟩
 refine Ops.h (ns := []) rfl rfl (op_makeMap (kd := .i64) (kc := mcI64) rfl) ?_
 rintro _ _ ⟨b5, rfl, rfl⟩
 refine Ops.v rfl (op_build (ds := [C.int p0.room, C.im kEvent 9 p0.events, C.im kEvent 9 p0.parked, C.val (.map (some b2)), C.val (.map (some b3)), C.val (.map (some b4)), C.val (.map (some b5))]) pl_84 ze_84 (cells_zero rfl rfl) (.agg rfl rfl rfl (.one rfl (One.val rfl) rfl rfl (.one rfl (One.val rfl) rfl rfl (.one rfl (One.val rfl) rfl rfl (.one rfl (One.val rfl) rfl rfl .nil))))) rfl) ?_
 refine Ops.h (ns := []) rfl rfl (op_boxA rfl rfl) ?_
 rintro _ _ ⟨b6, rfl, rfl⟩
 refine zz ?_
 refine Ops.v rfl (op_loadA (p := 5) (ds := [C.int p0.room, C.im kEvent 9 p0.events, C.im kEvent 9 p0.parked]) ld_30.h rfl rfl rfl rfl rfl) ?_
 refine ob' h fun r7 g8 h => ?_
 refine Ops.hd (ns := []) rfl rfl (op_callE (Z84' _ _ g8) rfl rfl) ?_
 refine zz ?_
 iterate 2 refine Ops.v rfl (op_extract rfl rfl rfl) ?_
 refine Ops.v rfl (op_assign rfl rfl) ?_
 refine Ops.v rfl (op_assign rfl rfl) ?_
 refine Ops.nil ?_
 refine AW.seq ?_
 refine AW.cut (τ := (List (Int × Int))) (fun m23 => ⟨[(1, C.val (.pointer (some ⟨b1, 0, none⟩))), (3, C.val (.pointer (some ⟨b6, 0, none⟩)))], [Obj.box b1 30 [C.int p0.room, C.im kEvent 9 p0.events, C.im kEvent 9 p0.parked], Obj.box b6 84 [C.int p0.room, C.im kEvent 9 p0.events, C.im kEvent 9 p0.parked, C.val (.map (some b2)), C.val (.map (some b3)), C.val (.map (some b4)), C.val (.map (some b5))], Abs.Obj.map b2 .i64 mcI64 m23, Abs.Obj.map b3 .i64 mcEntryS ([] : List (Int × List TEntry)), Abs.Obj.map b4 .i64 mcEntryS ([] : List (Int × List TEntry)), Abs.Obj.map b5 .i64 mcI64 ([] : List (Int × Int))]⟩) (fun m23 => Z7s p0 m23 = some r) ?_ ?_
 ·
  refine zz ?_
  refine Ops.v rfl (op_load (p := 5) ld_28.h rfl rfl rfl rfl) ?_
  refine zz ?_
  refine ob' h fun o67 g68 q69 => ?_
  refine AW.loop (τ := (List (Int × Int)) × Int) (x := (([] : List (Int × Int)), 0)) (fun (m15, x16) => ⟨[(1, C.val (.pointer (some ⟨b1, 0, none⟩))), (3, C.val (.pointer (some ⟨b6, 0, none⟩))), (4, C.im kI64 1 r7.1), (25, C.im kEvent 9 p0.events), (26, C.int (p0.events.length : Int)), (27, C.int x16)], [Obj.box b1 30 [C.int p0.room, C.im kEvent 9 p0.events, C.im kEvent 9 p0.parked], Obj.box b6 84 [C.int p0.room, C.im kEvent 9 p0.events, C.im kEvent 9 p0.parked, C.val (.map (some b2)), C.val (.map (some b3)), C.val (.map (some b4)), C.val (.map (some b5))], Abs.Obj.map b2 .i64 mcI64 m15, Abs.Obj.map b3 .i64 mcEntryS ([] : List (Int × List TEntry)), Abs.Obj.map b4 .i64 mcEntryS ([] : List (Int × List TEntry)), Abs.Obj.map b5 .i64 mcI64 ([] : List (Int × Int))]⟩) (fun k (m15, x16) => iter (fun z58 => Zo p0 r7 z58.1 z58.2) k (m15, x16) = some o67) g68 (Ghost.both (ns := [5, 0, 3, 2, 1, 0]) rfl rfl) ?_
  rintro k ⟨m15, x16⟩ i71
  refine iter_succ' (show iter (fun z58 => Zo p0 r7 z58.1 z58.2) k (m15, x16) = some o67 from i71) fun k70 y72 hlt_k70 h h73 => ?_
  replace h : Zo p0 r7 m15 x16 = some y72 := h
  unfold Zo at h
  refine zz ?_
  refine cnd h (fun hb17 h => ?_) fun hb17 h => ?_
  ·
   refine AW.ct hb17 rfl ?_
   refine zz ?_
   refine ob' h fun e18 g19 h => ?_
   refine Ops.v rfl (op_indexAddr_im sl_28.h rfl rfl g19 rfl) ?_
   refine Ops.v rfl (op_load_ipA ld_38.h rfl rfl rfl rfl) ?_
   refine Ops.h (ns := []) rfl rfl (op_alloc (cs := [C.int 0, C.int 0, C.int 0, C.int 0, C.int 0, C.int 0, C.str ByteArray.empty, C.val (.slice none 0 0), C.int 0]) ze_38 (cells_zero rfl rfl) rfl) ?_
   rintro _ _ ⟨b20, rfl, rfl⟩
   refine zz ?_
   refine Ops.hd (ns := [0]) rfl rfl (op_storeA (gs := [C.int e18.id, C.int e18.room, C.int e18.author, C.int e18.kind, C.int e18.key, C.int e18.n, C.str e18.text, C.im kI64 1 e18.prev, C.int e18.time]) ld_38.h rfl rfl rfl rfl rfl) ?_
   refine zz ?_
   refine AW.regionD (L := [3, 5, 9]) (Lt := [10]) (k := .light 0 false (.light 1 false (.light 2 false (.light 3 true (.light 4 false (.light 5 true (.light 6 false (.light 7 false (.light 8 false (.light 9 true (.late 10 (.done)))))))))))) (ns := [0, 0, 0, 0, 0, 0, 0]) (by kernel_rfl) (by kernel_rfl) (by kernel_rfl) (by kernel_rfl) rfl ?_
   refine zz ?_
   refine OpsD.v rfl rfl (op_nilCheck rfl rfl) ?_
   refine zz ?_
   refine ob' h fun e21 g22 h => ?_
   refine OpsD.v rfl rfl (op_indexAddr_im sl_26.h rfl rfl g22 rfl) ?_
   refine OpsD.v rfl rfl (op_load_ip ld_2.h rfl rfl) ?_
   refine OpsD.late (ns := [3]) rfl rfl rfl (op_mapUpdate (kc := mcI64) (v := e21) mi_81 rfl rfl rfl rfl) ?_
   rintro _ _ ⟨rfl, rfl⟩
   refine zz ?_
   obtain rfl := Option.some.inj h
   exact ⟨k70, ((mset m15 e18.id e21), (IntKind.i64.wrap (x16 + 1))), hlt_k70, h73, Ghost.both (ns := [2, 2, 0, 1, 1, 1]) rfl rfl⟩
  refine AW.cf hb17 rfl ?_
  refine AW.exit ?_
  obtain rfl := Option.some.inj h
  obtain rfl := Option.some.inj h73
  replace h := q69
  exact ⟨m15, h, Ghost.both (ns := [0, 0, 0, 0, 0, 0]) rfl rfl⟩
 intro m23 h
 replace h : Z7s p0 m23 = some r := h
 unfold Z7s at h
 refine AW.seq ?_
 refine AW.cut (τ := (List (Int × List TEntry)) × (List (Int × List TEntry)) × (List (Int × Int))) (fun (m46, m47, m48) => ⟨[(3, C.val (.pointer (some ⟨b6, 0, none⟩)))], [Obj.box b6 84 [C.int p0.room, C.im kEvent 9 p0.events, C.im kEvent 9 p0.parked, C.val (.map (some b2)), C.val (.map (some b3)), C.val (.map (some b4)), C.val (.map (some b5))], Abs.Obj.map b2 .i64 mcI64 m23, Abs.Obj.map b3 .i64 mcEntryS m46, Abs.Obj.map b4 .i64 mcEntryS m47, Abs.Obj.map b5 .i64 mcI64 m48]⟩) (fun (m46, m47, m48) => Z7r p0 m23 m46 m47 m48 = some r) ?_ ?_
 ·
  refine zz ?_
  refine Ops.v rfl (op_loadA (p := 0) (ds := [C.int p0.room, C.im kEvent 9 p0.events, C.im kEvent 9 p0.parked]) ld_30.h rfl rfl rfl rfl rfl) ?_
  refine ob' h fun r24 g25 h => ?_
  refine Ops.hd (ns := []) rfl rfl (op_callE (Zb9' _ _ g25) rfl rfl) ?_
  refine zz ?_
  refine ob' h fun o60 g61 q62 => ?_
  refine AW.loop (τ := (List (Int × List TEntry)) × (List (Int × List TEntry)) × (List (Int × Int)) × Int) (x := (([] : List (Int × List TEntry)), ([] : List (Int × List TEntry)), ([] : List (Int × Int)), 0)) (fun (m34, m35, m36, x37) => ⟨[(1, C.val (.pointer (some ⟨b1, 0, none⟩))), (3, C.val (.pointer (some ⟨b6, 0, none⟩))), (44, C.im kI64 1 r24), (45, C.int (r24.length : Int)), (46, C.int x37)], [Obj.box b1 30 [C.int p0.room, C.im kEvent 9 p0.events, C.im kEvent 9 p0.parked], Obj.box b6 84 [C.int p0.room, C.im kEvent 9 p0.events, C.im kEvent 9 p0.parked, C.val (.map (some b2)), C.val (.map (some b3)), C.val (.map (some b4)), C.val (.map (some b5))], Abs.Obj.map b2 .i64 mcI64 m23, Abs.Obj.map b3 .i64 mcEntryS m34, Abs.Obj.map b4 .i64 mcEntryS m35, Abs.Obj.map b5 .i64 mcI64 m36]⟩) (fun k (m34, m35, m36, x37) => iter (fun z54 => Z1u p0 m23 r24 z54.1 z54.2.1 z54.2.2.1 z54.2.2.2) k (m34, m35, m36, x37) = some o60) g61 (Ghost.both (ns := [0, 0, 0, 0, 0, 0]) rfl rfl) ?_
  rintro k ⟨m34, m35, m36, x37⟩ i64
  refine iter_succ' (show iter (fun z54 => Z1u p0 m23 r24 z54.1 z54.2.1 z54.2.2.1 z54.2.2.2) k (m34, m35, m36, x37) = some o60 from i64) fun k63 y65 hlt_k63 h h66 => ?_
  replace h : Z1u p0 m23 r24 m34 m35 m36 x37 = some y65 := h
  unfold Z1u at h
  refine zz ?_
  refine cnd h (fun hb38 h => ?_) fun hb38 h => ?_
  ·
   refine AW.ct hb38 rfl ?_
   refine zz ?_
   refine ob' h fun e39 g40 h => ?_
   refine Ops.v rfl (op_indexAddr_im sl_26.h rfl rfl g40 rfl) ?_
   refine Ops.v rfl (op_load_ip ld_2.h rfl rfl) ?_
   refine zz ?_
   refine Ops.v rfl (op_loadA (p := 0) (ds := [C.int p0.room, C.im kEvent 9 p0.events, C.im kEvent 9 p0.parked]) ld_30.h rfl rfl rfl rfl rfl) ?_
   refine zz ?_
   refine ob' h fun r41 g42 h => ?_
   refine Ops.hd (ns := []) rfl rfl (op_callE (Z3n _ _ _ g42) rfl rfl) ?_
   refine zz ?_
   iterate 2 refine Ops.v rfl (op_extract rfl rfl rfl) ?_
   refine Ops.h (ns := []) rfl rfl (op_alloc (cs := [C.int 0, C.int 0, C.int 0, C.int 0, C.int 0, C.int 0, C.str ByteArray.empty, C.val (.slice none 0 0), C.int 0]) ze_38 (cells_zero rfl rfl) rfl) ?_
   rintro _ _ ⟨b43, rfl, rfl⟩
   refine Ops.hd (ns := [0]) rfl rfl (op_storeA (gs := [C.int r41.1.id, C.int r41.1.room, C.int r41.1.author, C.int r41.1.kind, C.int r41.1.key, C.int r41.1.n, C.str r41.1.text, C.im kI64 1 r41.1.prev, C.int r41.1.time]) ld_38.h rfl rfl rfl rfl rfl) ?_
   refine zz ?_
   refine Ops.v rfl (op_loadA (p := 0) (ds := [C.int r41.1.id, C.int r41.1.room, C.int r41.1.author, C.int r41.1.kind, C.int r41.1.key, C.int r41.1.n, C.str r41.1.text, C.im kI64 1 r41.1.prev, C.int r41.1.time]) ld_38.h rfl rfl rfl rfl rfl) ?_
   refine ob' h fun r44 g45 h => ?_
   refine Ops.hd (ns := [2, 2, 2, 2, 2]) rfl rfl (op_callE (Zcy (THistory.mk p0 m23 m34 m35 m36) r41.1 _ g45) rfl rfl) ?_
   refine zz ?_
   obtain rfl := Option.some.inj h
   exact ⟨k63, (r44.1, r44.2.1, r44.2.2, (IntKind.i64.wrap (x37 + 1))), hlt_k63, h66, Ghost.both (ns := [6, 0, 0, 0, 0, 0]) rfl rfl⟩
  refine AW.cf hb38 rfl ?_
  refine AW.exit ?_
  obtain rfl := Option.some.inj h
  obtain rfl := Option.some.inj h66
  replace h := q62
  exact ⟨(m34, m35, m36), h, Ghost.both (ns := [1, 1, 1, 1, 1]) rfl rfl⟩
 rintro ⟨m46, m47, m48⟩ h
 replace h : Z7r p0 m23 m46 m47 m48 = some r := h
 unfold Z7r at h
 refine zz ?_
 refine AW.ret ?_
 rw [← Option.some.inj h]
 exact ⟨[C.val (.pointer (some ⟨b6, 0, none⟩))], _, Ghost.refl _, (.cons (.tmp rfl) .nil), [0, 0, 0, 0, 0], _, _, rfl, ⟨b6, b2, b3, b4, b5, rfl, rfl⟩⟩

def Z9s (l28 : List Int) : Option (List Int) := some l28
def Z5b (x15 : Int) (l26 : List Int) : Option ((List Int × Int) ⊕ ((List Int))) := some (.inl (l26, (IntKind.i64.wrap (x15 + 1))))
def Z1l (p0 : THistory) (l14 : List Int) (x15 : Int) : Option ((List Int × Int) ⊕ ((List Int))) := cond (decide (x15 < (p0.graph.events.length : Int))) ((getI p0.graph.events x15).bind fun e17 => cond ((Option.getD (mget p0.refused e17.id) 0) == 0) ((chk (decide ((l14.length + [e17.id].length) * 8 ≤ 140737488355328))).bind fun u23 => Z5b x15 (l14 ++ [e17.id])) (Z5b x15 l14)) (some (.inr l14))
def Z7f (p0 : THistory) : Option (List Int) := (iter (fun z30 => Z1l p0 z30.1 z30.2) big (([] : List Int), 0)).bind fun y31 => Z9s y31
theorem Zcx {b00 : Nat} {b01 : Nat} {b02 : Nat} {b03 : Nat} {b04 : Nat} (p0 : THistory) (r : List Int) (h : Z7f p0 = some r) : Ok Tryz.prog 149 [C.val (.pointer (some ⟨b00, 0, none⟩))] [Obj.box b00 84 [C.int p0.graph.room, C.im kEvent 9 p0.graph.events, C.im kEvent 9 p0.graph.parked, C.val (.map (some b01)), C.val (.map (some b02)), C.val (.map (some b03)), C.val (.map (some b04))], Abs.Obj.map b01 .i64 mcI64 p0.depth, Abs.Obj.map b02 .i64 mcEntryS p0.before, Abs.Obj.map b03 .i64 mcEntryS p0.after, Abs.Obj.map b04 .i64 mcI64 p0.refused] (fun c qs => ∃ (v29 : Value), c = C.val v29 ∧ qs = [Obj.arr v29 2 kI64 1 r, Obj.box b00 84 [C.int p0.graph.room, C.im kEvent 9 p0.graph.events, C.im kEvent 9 p0.graph.parked, C.val (.map (some b01)), C.val (.map (some b02)), C.val (.map (some b03)), C.val (.map (some b04))], Abs.Obj.map b01 .i64 mcI64 p0.depth, Abs.Obj.map b02 .i64 mcEntryS p0.before, Abs.Obj.map b03 .i64 mcEntryS p0.after, Abs.Obj.map b04 .i64 mcI64 p0.refused]) := by
 refine Ok.of_body (rs := [.tmp 2]) Tryz.func149 rfl rfl rfl rfl rfl fun X => ?_
 unfold Z7f at h
 refine zz ?_
 refine Ops.h (ns := []) rfl rfl (op_buildSlice (k := kI64) (ys := ([] : List Int)) ar_26 .nil rfl rfl rfl) ?_
 rintro _ _ ⟨b1, rfl, rfl⟩
 refine Ops.v rfl (op_assign rfl rfl) ?_
 refine Ops.nil ?_
 refine AW.seq ?_
 refine AW.cut (τ := List Int × Value) (fun (l28, v27) => ⟨[(3, C.val v27)], [Obj.arr v27 2 kI64 1 l28, Obj.box b00 84 [C.int p0.graph.room, C.im kEvent 9 p0.graph.events, C.im kEvent 9 p0.graph.parked, C.val (.map (some b01)), C.val (.map (some b02)), C.val (.map (some b03)), C.val (.map (some b04))], Abs.Obj.map b01 .i64 mcI64 p0.depth, Abs.Obj.map b02 .i64 mcEntryS p0.before, Abs.Obj.map b03 .i64 mcEntryS p0.after, Abs.Obj.map b04 .i64 mcI64 p0.refused]⟩) (fun (l28, v27) => Z9s l28 = some r) ?_ ?_
 ·
  refine zz ?_
  refine Ops.v rfl (op_nilCheck rfl rfl) ?_
  refine zz ?_
  refine ob' h fun o32 g33 q34 => ?_
  refine AW.loop (τ := List Int × Int × Value) (x := (([] : List Int), 0, (.slice (some ⟨b1, 0, none⟩) 0 0))) (fun (l14, x15, v13) => ⟨[(0, C.val (.pointer (some ⟨b00, 0, none⟩))), (3, C.val v13), (11, C.im kEvent 9 p0.graph.events), (12, C.int (p0.graph.events.length : Int)), (13, C.int x15)], [Obj.box b00 84 [C.int p0.graph.room, C.im kEvent 9 p0.graph.events, C.im kEvent 9 p0.graph.parked, C.val (.map (some b01)), C.val (.map (some b02)), C.val (.map (some b03)), C.val (.map (some b04))], Abs.Obj.map b01 .i64 mcI64 p0.depth, Abs.Obj.map b02 .i64 mcEntryS p0.before, Abs.Obj.map b03 .i64 mcEntryS p0.after, Abs.Obj.map b04 .i64 mcI64 p0.refused, Obj.arr v13 2 kI64 1 l14]⟩) (fun k (l14, x15, v13) => iter (fun z30 => Z1l p0 z30.1 z30.2) k (l14, x15) = some o32) g33 (Ghost.both (ns := [1, 1, 1, 1, 1, 0]) rfl rfl) ?_
  rintro k ⟨l14, x15, v13⟩ i36
  refine iter_succ' (show iter (fun z30 => Z1l p0 z30.1 z30.2) k (l14, x15) = some o32 from i36) fun k35 y37 hlt_k35 h h38 => ?_
  replace h : Z1l p0 l14 x15 = some y37 := h
  unfold Z1l at h
  refine zz ?_
  refine cnd h (fun hb16 h => ?_) fun hb16 h => ?_
  ·
   refine AW.ct hb16 rfl ?_
   refine AW.skip ?_
   refine AW.seq ?_
   refine AW.cut (τ := List Int × Value) (fun (l26, v25) => ⟨[(0, C.val (.pointer (some ⟨b00, 0, none⟩))), (3, C.val v25), (11, C.im kEvent 9 p0.graph.events), (12, C.int (p0.graph.events.length : Int)), (13, C.int x15)], [Obj.box b00 84 [C.int p0.graph.room, C.im kEvent 9 p0.graph.events, C.im kEvent 9 p0.graph.parked, C.val (.map (some b01)), C.val (.map (some b02)), C.val (.map (some b03)), C.val (.map (some b04))], Abs.Obj.map b01 .i64 mcI64 p0.depth, Abs.Obj.map b02 .i64 mcEntryS p0.before, Abs.Obj.map b03 .i64 mcEntryS p0.after, Abs.Obj.map b04 .i64 mcI64 p0.refused, Obj.arr v25 2 kI64 1 l26]⟩) (fun (l26, v25) => Z5b x15 l26 = some y37) ?_ ?_
   ·
    refine zz ?_
    refine ob' h fun e17 g18 h => ?_
    refine Ops.v rfl (op_indexAddr_im sl_28.h rfl rfl g18 rfl) ?_
    refine Ops.v rfl (op_load_ipA ld_38.h rfl rfl rfl rfl) ?_
    refine Ops.h (ns := []) rfl rfl (op_alloc (cs := [C.int 0, C.int 0, C.int 0, C.int 0, C.int 0, C.int 0, C.str ByteArray.empty, C.val (.slice none 0 0), C.int 0]) ze_38 (cells_zero rfl rfl) rfl) ?_
    rintro _ _ ⟨b19, rfl, rfl⟩
    refine Ops.hd (ns := [0]) rfl rfl (op_storeA (gs := [C.int e17.id, C.int e17.room, C.int e17.author, C.int e17.kind, C.int e17.key, C.int e17.n, C.str e17.text, C.im kI64 1 e17.prev, C.int e17.time]) ld_38.h rfl rfl rfl rfl rfl) ?_
    refine zz ?_
    refine AW.regionD (L := [3, 5, 6]) (Lt := []) (k := .light 0 false (.light 1 false (.light 2 false (.light 3 true (.light 4 false (.light 5 true (.light 6 true (.light 7 false .done)))))))) (ns := [0, 0, 0, 0, 0, 0, 0]) (by kernel_rfl) (by kernel_rfl) (by kernel_rfl) (by kernel_rfl) rfl ?_
    refine zz ?_
    refine OpsD.v rfl rfl (op_nilCheck rfl rfl) ?_
    refine zz ?_
    refine OpsD.v rfl rfl (op_lookup (p := 5) (kc := mcI64) (z0 := 0) mi_81 zv_2 (fun _ _ => rfl) rfl rfl rfl rfl) ?_
    refine zz ?_
    refine cnd h (fun hb20 h => ?_) fun hb20 h => ?_
    ·
     refine AW.ct hb20 rfl ?_
     refine zz ?_
     refine Ops.h (ns := []) rfl rfl (op_buildSlice (k := kI64) (ys := [e17.id]) ar_26 (.one rfl (One.val rfl) rfl rfl .nil) rfl rfl rfl) ?_
     rintro _ _ ⟨b21, rfl, rfl⟩
     refine ob' h fun u23 c22 h => ?_
     refine Ops.h (ns := [7, 0]) rfl rfl (op_append ar_26 rfl rfl (of_decide_eq_true (chk_some c22)) (app63 (by decide) c22) rfl) ?_
     rintro _ _ ⟨v24, rfl, rfl⟩
     refine zz ?_
     exact ⟨((l14 ++ [e17.id]), v24), h, Ghost.both (ns := [2, 2, 2, 2, 2, 0]) rfl rfl⟩
    refine AW.cf hb20 rfl ?_
    refine zz ?_
    exact ⟨(l14, v13), h, Ghost.both (ns := [1, 1, 1, 1, 1, 1]) rfl rfl⟩
   rintro ⟨l26, v25⟩ h
   replace h : Z5b x15 l26 = some y37 := h
   unfold Z5b at h
   refine zz ?_
   obtain rfl := Option.some.inj h
   exact ⟨k35, (l26, (IntKind.i64.wrap (x15 + 1)), v25), hlt_k35, h38, Ghost.both (ns := [0, 0, 0, 0, 0, 0]) rfl rfl⟩
  refine AW.cf hb16 rfl ?_
  refine AW.exit ?_
  obtain rfl := Option.some.inj h
  obtain rfl := Option.some.inj h38
  replace h := q34
  exact ⟨(l14, v13), h, Ghost.both (ns := [5, 0, 0, 0, 0, 0]) rfl rfl⟩
 rintro ⟨l28, v27⟩ h
 replace h : Z9s l28 = some r := h
 unfold Z9s at h
 refine zz ?_
 refine AW.ret ?_
 rw [← Option.some.inj h]
 exact ⟨[C.val v27], _, Ghost.refl _, (.cons (.tmp rfl) .nil), [0, 0, 0, 0, 0, 0], _, _, rfl, ⟨v27, rfl, rfl⟩⟩

def Za9 (p0 : List Int) : Option (List Int) := some p0
def Zaa (l85 : List Int) (x86 : Int) : Option (Int ⊕ ((List Int) ⊕ Unit)) := (chk (decide ((0 : Int) ≤ x86 ∧ x86 ≤ (l85.length : Int)))).bind fun u88 => (chk (decide ((Int.toNat x86) ≤ l85.length))).bind fun u90 => (chk (decide ((0 : Int) ≤ x86 ∧ x86 ≤ ((List.take (Int.toNat x86) l85 ++ List.replicate (l85.length - (Int.toNat x86)) 0).length : Int)))).bind fun u92 => some (.inr (.inl (List.take (Int.toNat x86) (List.take (Int.toNat x86) l85 ++ List.replicate (l85.length - (Int.toNat x86)) 0))))
def Z8c (x70 : Int) (l83 : List Int) (x84 : Int) : Option ((List Int × Int × Int) ⊕ ((List Int × Int))) := some (.inl (l83, x84, (IntKind.i64.wrap (x70 + 1))))
def Z8d (x47 : Int) (l68 : List Int) (x69 : Int) (x70 : Int) : Option ((List Int × Int × Int) ⊕ ((List Int × Int))) := (chk (decide ((Int.toNat x47) ≤ l68.length))).bind fun u72 => cond (decide (x70 < ((List.drop (Int.toNat x47) l68).length : Int))) ((getI (List.drop (Int.toNat x47) l68) x70).bind fun e74 => (getI (List.drop (Int.toNat x47) l68) (IntKind.i64.wrap (x70 - 1))).bind fun e76 => cond (e74 != e76) ((getI (List.drop (Int.toNat x47) l68) x70).bind fun e79 => (getI l68 x69).bind fun e81 => Z8c x70 (List.set l68 (Int.toNat x69) e79) (IntKind.i64.wrap (x69 + 1))) (Z8c x70 l68 x69)) (some (.inr (l68, x69)))
def Z5t (p0 : List Int) (x47 : Int) : Option (Int ⊕ ((List Int) ⊕ Unit)) := cond (decide (x47 < (p0.length : Int))) ((getI p0 x47).bind fun e49 => (getI p0 (IntKind.i64.wrap (x47 - 1))).bind fun e51 => cond (e49 == e51) ((chk (decide ((0 : Int) ≤ x47 ∧ x47 ≤ (p0.length : Int)))).bind fun u55 => (iter (fun z94 => Z8d x47 z94.1 z94.2.1 z94.2.2) big (p0, x47, 1)).bind fun (y95, y96) => Zaa y95 y96) (some (.inl (IntKind.i64.wrap (x47 + 1))))) (some (.inr (.inr ())))
def Z8b (p0 : List Int) : Option (List Int) := cond (decide ((p0.length : Int) < 2)) (some p0) ((iter (Z5t p0) big 1).bind (fun z98 => match z98 with | .inl y97 => some y97 | .inr () => Za9 p0))
set_option maxHeartbeats 1000000 in
theorem Zdk {w00 : Value} (p0 : List Int) (r : List Int) (h : Z8b p0 = some r) : Ok Tryz.prog 216 [C.val w00] [Obj.arr w00 2 kI64 1 p0] (fun c qs => ∃ (v93 : Value), c = C.val v93 ∧ qs = [Obj.arr v93 2 kI64 1 r]) := by
 refine Ok.of_body (rs := [.tmp 2]) Tryz.func216 rfl rfl rfl rfl rfl fun X => ?_
 unfold Z8b at h
 refine zz ?_
 refine Ops.v rfl (op_len_arr (p := 0) sl_26.h rfl rfl rfl) ?_
 refine zz ?_
 refine cnd h (fun hb1 h => ?_) fun hb1 h => ?_
 ·
  refine AW.ct hb1 rfl ?_
  refine zz ?_
  refine AW.ret ?_
  rw [← Option.some.inj h]
  exact ⟨[C.val w00], _, Ghost.refl _, (.cons (.tmp rfl) .nil), [0], _, _, rfl, ⟨w00, rfl, rfl⟩⟩
 refine AW.cf hb1 rfl ?_
 refine AW.skip ?_
 refine AW.seq ?_
 refine AW.cut (τ := Unit) (fun (_ : Unit) => ⟨[(0, C.val w00)], [Obj.arr w00 2 kI64 1 p0]⟩) (fun (_ : Unit) => Za9 p0 = some r) ?_ ?_
 ·
  refine zz ?_
  refine ob' h fun o99 g100 q101 => ?_
  refine AW.loop (τ := Int) (x := 1) (fun x47 => ⟨[(0, C.val w00), (3, C.int x47)], [Obj.arr w00 2 kI64 1 p0]⟩) (fun k x47 => iter (Z5t p0) k x47 = some o99) g100 (Ghost.both (ns := [0]) rfl rfl) ?_
  intro k x47 i103
  refine iter_succ' (show iter (Z5t p0) k x47 = some o99 from i103) fun k102 y104 hlt_k102 h h105 => ?_
  replace h : Z5t p0 x47 = some y104 := h
  unfold Z5t at h
  refine zz ?_
  refine Ops.v rfl (op_len_arr (p := 0) sl_26.h rfl rfl rfl) ?_
  refine zz ?_
  refine cnd h (fun hb48 h => ?_) fun hb48 h => ?_
  ·
   refine AW.ct hb48 rfl ?_
   refine zz ?_
   refine AW.regionD (L := [3, 8]) (Lt := []) (k := .light 0 false (.light 1 false (.light 2 false (.light 3 true (.light 4 false (.light 5 false (.light 6 false (.light 7 false (.light 8 true (.light 9 false .done)))))))))) (ns := [0]) (by kernel_rfl) (by kernel_rfl) (by kernel_rfl) (by kernel_rfl) rfl ?_
   refine zz ?_
   refine ob' h fun e49 g50 h => ?_
   refine OpsD.v rfl rfl (op_indexAddr_arr (p := 0) sl_26.h rfl rfl rfl g50 rfl) ?_
   refine OpsD.v rfl rfl (op_load_arr (p := 0) ld_2.h rfl rfl (getI_lt g50).2.2 rfl rfl) ?_
   refine zz ?_
   refine ob' h fun e51 g52 h => ?_
   refine OpsD.v rfl rfl (op_indexAddr_arr (p := 0) sl_26.h rfl rfl rfl g52 rfl) ?_
   refine OpsD.v rfl rfl (op_load_arr (p := 0) ld_2.h rfl rfl (getI_lt g52).2.2 rfl rfl) ?_
   refine zz ?_
   refine cnd h (fun hb53 h => ?_) fun hb53 h => ?_
   ·
    refine AW.ct hb53 rfl ?_
    refine zz ?_
    refine ob' h fun u55 c54 h => ?_
    refine Ops.v rfl (op_slice_arr_l (p := 0) (l := (Int.toNat x47)) sl_26.h rfl rfl rfl (of_decide_eq_true (chk_some c54)) rfl rfl) ?_
    refine Ops.v rfl (op_assign rfl rfl) ?_
    refine Ops.nil ?_
    refine AW.seq ?_
    refine AW.cut (τ := List Int × Int) (fun (l85, x86) => ⟨[(0, C.val w00), (3, C.int x86)], [Obj.arr w00 2 kI64 1 l85]⟩) (fun (l85, x86) => Zaa l85 x86 = some y104) ?_ ?_
    ·
     refine zz ?_
     refine ob' h fun o106 g107 q108 => ?_
     refine AW.loop (τ := List Int × Int × Int) (x := (p0, x47, 1)) (fun (l68, x69, x70) => ⟨[(0, C.val w00), (3, C.int x69), (4, C.val (dropV w00 1 (Int.toNat x47))), (5, C.int x70)], [Obj.arr w00 2 kI64 1 l68]⟩) (fun k (l68, x69, x70) => iter (fun z94 => Z8d x47 z94.1 z94.2.1 z94.2.2) k (l68, x69, x70) = some o106) g107 (Ghost.both (ns := [0]) rfl rfl) ?_
     rintro k ⟨l68, x69, x70⟩ i110
     refine iter_succ' (show iter (fun z94 => Z8d x47 z94.1 z94.2.1 z94.2.2) k (l68, x69, x70) = some o106 from i110) fun k109 y111 hlt_k109 h h112 => ?_
     replace h : Z8d x47 l68 x69 x70 = some y111 := h
     unfold Z8d at h
     refine zz ?_
     refine ob' h fun u72 c71 h => ?_
     refine Ops.v rfl (op_len_dropV (p := 0) sl_26.h rfl rfl (of_decide_eq_true (chk_some c71)) rfl) ?_
     refine zz ?_
     refine cnd h (fun hb73 h => ?_) fun hb73 h => ?_
     ·
      refine AW.ct hb73 rfl ?_
      refine AW.skip ?_
      refine AW.seq ?_
      refine AW.cut (τ := List Int × Int) (fun (l83, x84) => ⟨[(0, C.val w00), (3, C.int x84), (4, C.val (dropV w00 1 (Int.toNat x47))), (5, C.int x70)], [Obj.arr w00 2 kI64 1 l83]⟩) (fun (l83, x84) => Z8c x70 l83 x84 = some y111) ?_ ?_
      ·
       refine zz ?_
       refine AW.regionD (L := [3, 8]) (Lt := []) (k := .light 0 false (.light 1 false (.light 2 false (.light 3 true (.light 4 false (.light 5 false (.light 6 false (.light 7 false (.light 8 true (.light 9 false .done)))))))))) (ns := [0]) (by kernel_rfl) (by kernel_rfl) (by kernel_rfl) (by kernel_rfl) rfl ?_
       refine zz ?_
       refine ob' h fun e74 g75 h => ?_
       refine OpsD.v rfl rfl (op_indexAddr_dropV (p := 0) sl_26.h rfl rfl rfl g75 rfl) ?_
       refine OpsD.v rfl rfl (op_load_arr (p := 0) ld_2.h rfl rfl (drop_get g75) rfl rfl) ?_
       refine zz ?_
       refine ob' h fun e76 g77 h => ?_
       refine OpsD.v rfl rfl (op_indexAddr_dropV (p := 0) sl_26.h rfl rfl rfl g77 rfl) ?_
       refine OpsD.v rfl rfl (op_load_arr (p := 0) ld_2.h rfl rfl (drop_get g77) rfl rfl) ?_
       refine zz ?_
       refine cnd h (fun hb78 h => ?_) fun hb78 h => ?_
       ·
        refine AW.ct hb78 rfl ?_
        refine zz ?_
        refine ob' h fun e79 g80 h => ?_
        refine Ops.v rfl (op_indexAddr_dropV (p := 0) sl_26.h rfl rfl rfl g80 rfl) ?_
        refine Ops.v rfl (op_load_arr (p := 0) ld_2.h rfl rfl (drop_get g80) rfl rfl) ?_
        refine ob' h fun e81 g82 h => ?_
        refine Ops.v rfl (op_indexAddr_arr (p := 0) sl_26.h rfl rfl rfl g82 rfl) ?_
        refine Ops.hd (ns := [0]) rfl rfl (op_store_arr (e' := e79) ld_2.h rfl rfl (One.val rfl) (getI_lt g82).2.2 rfl rfl) ?_
        refine zz ?_
        exact ⟨((List.set l68 (Int.toNat x69) e79), (IntKind.i64.wrap (x69 + 1))), h, Ghost.both (ns := [0]) rfl rfl⟩
       refine AW.cf hb78 rfl ?_
       refine zz ?_
       exact ⟨(l68, x69), h, Ghost.both (ns := [0]) rfl rfl⟩
      rintro ⟨l83, x84⟩ h
      replace h : Z8c x70 l83 x84 = some y111 := h
      unfold Z8c at h
      refine zz ?_
      obtain rfl := Option.some.inj h
      exact ⟨k109, (l83, x84, (IntKind.i64.wrap (x70 + 1))), hlt_k109, h112, Ghost.both (ns := [0]) rfl rfl⟩
     refine AW.cf hb73 rfl ?_
     refine AW.exit ?_
     obtain rfl := Option.some.inj h
     obtain rfl := Option.some.inj h112
     replace h := q108
     exact ⟨(l68, x69), h, Ghost.both (ns := [0]) rfl rfl⟩
    rintro ⟨l85, x86⟩ h
    replace h : Zaa l85 x86 = some y104 := h
    unfold Zaa at h
    refine zz ?_
    refine ob' h fun u88 c87 h => ?_
    refine Ops.v rfl (op_slice_arr_l (p := 0) (l := (Int.toNat x86)) sl_26.h rfl rfl rfl (of_decide_eq_true (chk_some c87)) rfl rfl) ?_
    refine ob' h fun u90 c89 h => ?_
    refine Ops.hd (ns := [0]) rfl rfl (op_clear_dropV (z := 0) ar_26 ze_2 (cells_zero rfl rfl) rfl (of_decide_eq_true (chk_some c89))) ?_
    refine zz ?_
    refine ob' h fun u92 c91 h => ?_
    refine Ops.v rfl (op_slice_arr_h (p := 0) (l := (Int.toNat x86)) sl_26.h rfl rfl rfl (of_decide_eq_true (chk_some c91)) rfl rfl) ?_
    refine zz ?_
    refine AW.ret ?_
    obtain rfl := Option.some.inj h
    obtain rfl := Option.some.inj h105
    replace h := q101
    rw [← Option.some.inj h]
    exact ⟨[C.val (takeV w00 (Int.toNat x86))], _, Ghost.prefix (p := 0) (h := (Int.toNat x86)) rfl (Int.le_toNat_len c91), (.cons (.tmp rfl) .nil), [0], _, _, rfl, ⟨(takeV w00 (Int.toNat x86)), rfl, rfl⟩⟩
   refine AW.cf hb53 rfl ?_
   refine zz ?_
   obtain rfl := Option.some.inj h
   exact ⟨k102, (IntKind.i64.wrap (x47 + 1)), hlt_k102, h105, Ghost.both (ns := [0]) rfl rfl⟩
  refine AW.cf hb48 rfl ?_
  refine AW.exit ?_
  obtain rfl := Option.some.inj h
  obtain rfl := Option.some.inj h105
  replace h := q101
  exact ⟨(), h, Ghost.both (ns := [0]) rfl rfl⟩
 rintro ⟨⟩ h
 replace h : Za9 p0 = some r := h
 unfold Za9 at h
 refine zz ?_
 refine AW.ret ?_
 rw [← Option.some.inj h]
 exact ⟨[C.val w00], _, Ghost.refl _, (.cons (.tmp rfl) .nil), [0], _, _, rfl, ⟨w00, rfl, rfl⟩⟩
def Z7t (p0 : List Int) : Option (List Int) := (chk (decide (p0.length < 4611686018427387904))).bind fun u2 => (Z8b (List.mergeSort p0 (fun x y => decide (x ≤ y)))).bind fun r3 => some r3
theorem Zd7 {w00 : Value} (p0 : List Int) (r : List Int) (h : Z7t p0 = some r) : Ok Tryz.prog 193 [C.val w00] [Obj.arr w00 2 kI64 1 p0] (fun c qs => ∃ (v6 : Value), c = C.val v6 ∧ qs = [Obj.arr v6 2 kI64 1 r]) := by
 refine Ok.of_body (rs := [.tmp 2]) Tryz.func193 rfl rfl rfl rfl rfl fun X => ?_
 unfold Z7t at h
 refine zz ?_
 refine ob' h fun u2 c1 h => ?_
 refine Ops.hd (ns := [0]) rfl rfl (op_sortI sorter_215 (fun _ => rfl) (of_decide_eq_true (chk_some c1)) rfl rfl) ?_
 refine zz ?_
 refine ob' h fun r3 g4 h => ?_
 refine Ops.h (ns := [0]) rfl rfl (op_call (Zdk (List.mergeSort p0 (fun x y => decide (x ≤ y))) _ g4) rfl rfl) ?_
 rintro _ _ ⟨_, ⟨v5, rfl, rfl⟩, rfl⟩
 refine zz ?_
 refine AW.ret ?_
 rw [← Option.some.inj h]
 exact ⟨[C.val v5], _, Ghost.refl _, (.cons (.tmp rfl) .nil), [0], _, _, rfl, ⟨v5, rfl, rfl⟩⟩
def Z5e (p0 : Int) (q0 : TEvent) : Option Bool := (Z5u q0.prev p0).bind fun r1 => some r1
theorem Zbt {b00 : Nat} (p0 : Int) (q0 : TEvent) (r : Bool) (h : Z5e p0 q0 = some r) : Ok Tryz.prog 196 [C.int p0, C.val (.pointer (some ⟨b00, 0, none⟩))] [Obj.box b00 38 [C.int q0.id, C.int q0.room, C.int q0.author, C.int q0.kind, C.int q0.key, C.int q0.n, C.str q0.text, C.im kI64 1 q0.prev, C.int q0.time]] (fun c qs => c = C.bool r ∧ qs = [Obj.box b00 38 [C.int q0.id, C.int q0.room, C.int q0.author, C.int q0.kind, C.int q0.key, C.int q0.n, C.str q0.text, C.im kI64 1 q0.prev, C.int q0.time]]) := by
 refine Ok.of_body (rs := [.tmp 3]) Tryz.func196 rfl rfl rfl rfl rfl fun X => ?_
 unfold Z5e at h
 refine zz ?_
 refine ob' h fun r1 g2 h => ?_
 refine Ops.hd (ns := []) rfl rfl (op_callE (Zc4 _ _ _ g2) rfl rfl) ?_
 refine zz ?_
 refine AW.ret ?_
 rw [← Option.some.inj h]
 exact ⟨[C.bool r1], _, Ghost.refl _, (.cons (.tmp rfl) .nil), [0], _, _, rfl, ⟨rfl, rfl⟩⟩

def Zan : Option Int := some (-1)
def Z21 (p0 : List Int) (p1_0 : TEvent) (x7 : Int) : Option (Int ⊕ (Int ⊕ Unit)) := cond (decide (x7 < (p0.length : Int))) ((getI p0 x7).bind fun e9 => (Z5e e9 p1_0).bind fun r11 => cond r11 (some (.inr (.inl x7))) (some (.inl (IntKind.i64.wrap (x7 + 1))))) (some (.inr (.inr ())))
def Zam (p0 : List Int) (p1_0 : TEvent) : Option Int := (iter (Z21 p0 p1_0) big 0).bind (fun z15 => match z15 with | .inl y14 => some y14 | .inr () => Zan)
theorem Zdw {w00 : Value} {b01 : Nat} (p0 : List Int) (p1_0 : TEvent) (r : Int) (h : Zam p0 p1_0 = some r) : Ok Tryz.prog 199 [C.val w00, C.clo 196 [C.val (.pointer (some ⟨b01, 0, none⟩))]] [Obj.arr w00 2 kI64 1 p0, Obj.box b01 38 [C.int p1_0.id, C.int p1_0.room, C.int p1_0.author, C.int p1_0.kind, C.int p1_0.key, C.int p1_0.n, C.str p1_0.text, C.im kI64 1 p1_0.prev, C.int p1_0.time]] (fun c qs => c = C.int r ∧ qs = [Obj.arr w00 2 kI64 1 p0, Obj.box b01 38 [C.int p1_0.id, C.int p1_0.room, C.int p1_0.author, C.int p1_0.kind, C.int p1_0.key, C.int p1_0.n, C.str p1_0.text, C.im kI64 1 p1_0.prev, C.int p1_0.time]]) := by
 refine Ok.of_body (rs := [.tmp 4]) Tryz.func199 rfl rfl rfl rfl rfl fun X => ?_
 unfold Zam at h
 refine AW.seq ?_
 refine AW.region ?_
 refine Ops.v rfl (op_assign rfl rfl) ?_
 refine Ops.nil ?_
 refine AW.seq ?_
 refine AW.cut (τ := Unit) (fun (_ : Unit) => ⟨[], [Obj.arr w00 2 kI64 1 p0, Obj.box b01 38 [C.int p1_0.id, C.int p1_0.room, C.int p1_0.author, C.int p1_0.kind, C.int p1_0.key, C.int p1_0.n, C.str p1_0.text, C.im kI64 1 p1_0.prev, C.int p1_0.time]]⟩) (fun (_ : Unit) => Zan = some r) ?_ ?_
 ·
  refine zz ?_
  refine Ops.v rfl (op_len_arr (p := 0) sl_26.h rfl rfl rfl) ?_
  refine zz ?_
  refine ob' h fun o16 g17 q18 => ?_
  refine AW.loop (τ := Int) (x := 0) (fun x7 => ⟨[(0, C.val w00), (1, C.clo 196 [C.val (.pointer (some ⟨b01, 0, none⟩))]), (7, C.int (p0.length : Int)), (8, C.int x7)], [Obj.arr w00 2 kI64 1 p0, Obj.box b01 38 [C.int p1_0.id, C.int p1_0.room, C.int p1_0.author, C.int p1_0.kind, C.int p1_0.key, C.int p1_0.n, C.str p1_0.text, C.im kI64 1 p1_0.prev, C.int p1_0.time]]⟩) (fun k x7 => iter (Z21 p0 p1_0) k x7 = some o16) g17 (Ghost.both (ns := [0, 0]) rfl rfl) ?_
  intro k x7 i20
  refine iter_succ' (show iter (Z21 p0 p1_0) k x7 = some o16 from i20) fun k19 y21 hlt_k19 h h22 => ?_
  replace h : Z21 p0 p1_0 x7 = some y21 := h
  unfold Z21 at h
  refine zz ?_
  refine cnd h (fun hb8 h => ?_) fun hb8 h => ?_
  ·
   refine AW.ct hb8 rfl ?_
   refine zz ?_
   refine ob' h fun e9 g10 h => ?_
   refine Ops.v rfl (op_indexAddr_arr (p := 0) sl_26.h rfl rfl rfl g10 rfl) ?_
   refine Ops.v rfl (op_load_arr (p := 0) ld_2.h rfl rfl (getI_lt g10).2.2 rfl rfl) ?_
   refine ob' h fun r11 g12 h => ?_
   refine Ops.hd (ns := [1]) rfl rfl (op_callCE (cs := [_]) (ds := [_]) rfl (Zbt e9 p1_0 _ g12) rfl rfl) ?_
   refine zz ?_
   refine cnd h (fun hb13 h => ?_) fun hb13 h => ?_
   ·
    refine AW.ct hb13 rfl ?_
    refine zz ?_
    refine AW.ret ?_
    obtain rfl := Option.some.inj h
    obtain rfl := Option.some.inj h22
    replace h := q18
    rw [← Option.some.inj h]
    exact ⟨[C.int x7], _, Ghost.refl _, (.cons (.tmp rfl) .nil), [1, 0], _, _, rfl, ⟨rfl, rfl⟩⟩
   refine AW.cf hb13 rfl ?_
   refine zz ?_
   obtain rfl := Option.some.inj h
   exact ⟨k19, (IntKind.i64.wrap (x7 + 1)), hlt_k19, h22, Ghost.both (ns := [1, 0]) rfl rfl⟩
  refine AW.cf hb8 rfl ?_
  refine AW.exit ?_
  obtain rfl := Option.some.inj h
  obtain rfl := Option.some.inj h22
  replace h := q18
  exact ⟨(), h, Ghost.both (ns := [0, 0]) rfl rfl⟩
 rintro ⟨⟩ h
 replace h : Zan = some r := h
 unfold Zan at h
 refine zz ?_
 refine AW.ret ?_
 rw [← Option.some.inj h]
 exact ⟨[C.int (-1)], _, Ghost.refl _, (.cons (.tmp rfl) .nil), [0, 0], _, _, rfl, ⟨rfl, rfl⟩⟩

def Z8g (l27 : List Int) (x28 : Int) : Option (List Int) := (chk (decide ((0 : Int) ≤ x28 ∧ x28 ≤ (l27.length : Int)))).bind fun u30 => (chk (decide ((Int.toNat x28) ≤ l27.length))).bind fun u32 => (chk (decide ((0 : Int) ≤ x28 ∧ x28 ≤ ((List.take (Int.toNat x28) l27 ++ List.replicate (l27.length - (Int.toNat x28)) 0).length : Int)))).bind fun u34 => some (List.take (Int.toNat x28) (List.take (Int.toNat x28) l27 ++ List.replicate (l27.length - (Int.toNat x28)) 0))
def Z5w (x16 : Int) (l25 : List Int) (x26 : Int) : Option ((List Int × Int × Int) ⊕ ((List Int × Int))) := some (.inl (l25, x26, (IntKind.i64.wrap (x16 + 1))))
def Z3r (p1_0 : TEvent) (l14 : List Int) (x15 : Int) (x16 : Int) : Option ((List Int × Int × Int) ⊕ ((List Int × Int))) := cond (decide (x16 < (l14.length : Int))) ((getI l14 x16).bind fun e18 => (Z5e e18 p1_0).bind fun r20 => cond r20 (Z5w x16 l14 x15) ((getI l14 x15).bind fun e23 => Z5w x16 (List.set l14 (Int.toNat x15) e18) (IntKind.i64.wrap (x15 + 1)))) (some (.inr (l14, x15)))
def Z5v (p0 : List Int) (p1_0 : TEvent) : Option (List Int) := (Zam p0 p1_0).bind fun r1 => cond (r1 == (-1)) (some p0) ((iter (fun z36 => Z3r p1_0 z36.1 z36.2.1 z36.2.2) big (p0, r1, (IntKind.i64.wrap (r1 + 1)))).bind fun (y37, y38) => Z8g y37 y38)
theorem Zdq {w00 : Value} {b01 : Nat} (p0 : List Int) (p1_0 : TEvent) (r : List Int) (h : Z5v p0 p1_0 = some r) : Ok Tryz.prog 195 [C.val w00, C.clo 196 [C.val (.pointer (some ⟨b01, 0, none⟩))]] [Obj.arr w00 2 kI64 1 p0, Obj.box b01 38 [C.int p1_0.id, C.int p1_0.room, C.int p1_0.author, C.int p1_0.kind, C.int p1_0.key, C.int p1_0.n, C.str p1_0.text, C.im kI64 1 p1_0.prev, C.int p1_0.time]] (fun c qs => ∃ (v35 : Value), c = C.val v35 ∧ qs = [Obj.arr v35 2 kI64 1 r, Obj.box b01 38 [C.int p1_0.id, C.int p1_0.room, C.int p1_0.author, C.int p1_0.kind, C.int p1_0.key, C.int p1_0.n, C.str p1_0.text, C.im kI64 1 p1_0.prev, C.int p1_0.time]]) := by
 refine Ok.of_body (rs := [.tmp 4]) Tryz.func195 rfl rfl rfl rfl rfl fun X => ?_
 unfold Z5v at h
 refine zz ?_
 refine ob' h fun r1 g2 h => ?_
 refine Ops.hd (ns := [0, 0]) rfl rfl (op_callE (Zdw p0 p1_0 _ g2) rfl rfl) ?_
 refine zz ?_
 refine cnd h (fun hb3 h => ?_) fun hb3 h => ?_
 ·
  refine AW.ct hb3 rfl ?_
  refine zz ?_
  refine AW.ret ?_
  rw [← Option.some.inj h]
  exact ⟨[C.val w00], _, Ghost.refl _, (.cons (.tmp rfl) .nil), [0, 0], _, _, rfl, ⟨w00, rfl, rfl⟩⟩
 refine AW.cf hb3 rfl ?_
 refine AW.skip ?_
 refine AW.seq ?_
 refine AW.cut (τ := List Int × Int) (fun (l27, x28) => ⟨[(0, C.val w00), (5, C.int x28)], [Obj.arr w00 2 kI64 1 l27, Obj.box b01 38 [C.int p1_0.id, C.int p1_0.room, C.int p1_0.author, C.int p1_0.kind, C.int p1_0.key, C.int p1_0.n, C.str p1_0.text, C.im kI64 1 p1_0.prev, C.int p1_0.time]]⟩) (fun (l27, x28) => Z8g l27 x28 = some r) ?_ ?_
 ·
  refine zz ?_
  refine ob' h fun o39 g40 q41 => ?_
  refine AW.loop (τ := List Int × Int × Int) (x := (p0, r1, (IntKind.i64.wrap (r1 + 1)))) (fun (l14, x15, x16) => ⟨[(0, C.val w00), (1, C.clo 196 [C.val (.pointer (some ⟨b01, 0, none⟩))]), (5, C.int x15), (6, C.int x16)], [Obj.arr w00 2 kI64 1 l14, Obj.box b01 38 [C.int p1_0.id, C.int p1_0.room, C.int p1_0.author, C.int p1_0.kind, C.int p1_0.key, C.int p1_0.n, C.str p1_0.text, C.im kI64 1 p1_0.prev, C.int p1_0.time]]⟩) (fun k (l14, x15, x16) => iter (fun z36 => Z3r p1_0 z36.1 z36.2.1 z36.2.2) k (l14, x15, x16) = some o39) g40 (Ghost.both (ns := [0, 0]) rfl rfl) ?_
  rintro k ⟨l14, x15, x16⟩ i43
  refine iter_succ' (show iter (fun z36 => Z3r p1_0 z36.1 z36.2.1 z36.2.2) k (l14, x15, x16) = some o39 from i43) fun k42 y44 hlt_k42 h h45 => ?_
  replace h : Z3r p1_0 l14 x15 x16 = some y44 := h
  unfold Z3r at h
  refine zz ?_
  refine Ops.v rfl (op_len_arr (p := 0) sl_26.h rfl rfl rfl) ?_
  refine zz ?_
  refine cnd h (fun hb17 h => ?_) fun hb17 h => ?_
  ·
   refine AW.ct hb17 rfl ?_
   refine AW.skip ?_
   refine AW.seq ?_
   refine AW.cut (τ := List Int × Int) (fun (l25, x26) => ⟨[(0, C.val w00), (1, C.clo 196 [C.val (.pointer (some ⟨b01, 0, none⟩))]), (5, C.int x26), (6, C.int x16)], [Obj.arr w00 2 kI64 1 l25, Obj.box b01 38 [C.int p1_0.id, C.int p1_0.room, C.int p1_0.author, C.int p1_0.kind, C.int p1_0.key, C.int p1_0.n, C.str p1_0.text, C.im kI64 1 p1_0.prev, C.int p1_0.time]]⟩) (fun (l25, x26) => Z5w x16 l25 x26 = some y44) ?_ ?_
   ·
    refine zz ?_
    refine ob' h fun e18 g19 h => ?_
    refine Ops.v rfl (op_indexAddr_arr (p := 0) sl_26.h rfl rfl rfl g19 rfl) ?_
    refine Ops.v rfl (op_load_arr (p := 0) ld_2.h rfl rfl (getI_lt g19).2.2 rfl rfl) ?_
    refine zz ?_
    refine ob' h fun r20 g21 h => ?_
    refine Ops.hd (ns := [1]) rfl rfl (op_callCE (cs := [_]) (ds := [_]) rfl (Zbt e18 p1_0 _ g21) rfl rfl) ?_
    refine zz ?_
    refine cnd h (fun hb22 h => ?_) fun hb22 h => ?_
    ·
     refine AW.cond rfl (fun hn => absurd ((not_t hb22).symm.trans hn) (by decide)) (fun _ => ?_)
     refine zz ?_
     exact ⟨(l14, x15), h, Ghost.both (ns := [1, 0]) rfl rfl⟩
    refine AW.cond rfl (fun _ => ?_) (fun hn => absurd ((not_f hb22).symm.trans hn) (by decide))
    refine zz ?_
    refine ob' h fun e23 g24 h => ?_
    refine Ops.v rfl (op_indexAddr_arr (p := 1) sl_26.h rfl rfl rfl g24 rfl) ?_
    refine Ops.hd (ns := [1]) rfl rfl (op_store_arr (e' := e18) ld_2.h rfl rfl (One.val rfl) (getI_lt g24).2.2 rfl rfl) ?_
    refine zz ?_
    exact ⟨((List.set l14 (Int.toNat x15) e18), (IntKind.i64.wrap (x15 + 1))), h, Ghost.both (ns := [0, 0]) rfl rfl⟩
   rintro ⟨l25, x26⟩ h
   replace h : Z5w x16 l25 x26 = some y44 := h
   unfold Z5w at h
   refine zz ?_
   obtain rfl := Option.some.inj h
   exact ⟨k42, (l25, x26, (IntKind.i64.wrap (x16 + 1))), hlt_k42, h45, Ghost.both (ns := [0, 0]) rfl rfl⟩
  refine AW.cf hb17 rfl ?_
  refine AW.exit ?_
  obtain rfl := Option.some.inj h
  obtain rfl := Option.some.inj h45
  replace h := q41
  exact ⟨(l14, x15), h, Ghost.both (ns := [0, 0]) rfl rfl⟩
 rintro ⟨l27, x28⟩ h
 replace h : Z8g l27 x28 = some r := h
 unfold Z8g at h
 refine zz ?_
 refine ob' h fun u30 c29 h => ?_
 refine Ops.v rfl (op_slice_arr_l (p := 0) (l := (Int.toNat x28)) sl_26.h rfl rfl rfl (of_decide_eq_true (chk_some c29)) rfl rfl) ?_
 refine ob' h fun u32 c31 h => ?_
 refine Ops.hd (ns := [0]) rfl rfl (op_clear_dropV (z := 0) ar_26 ze_2 (cells_zero rfl rfl) rfl (of_decide_eq_true (chk_some c31))) ?_
 refine zz ?_
 refine ob' h fun u34 c33 h => ?_
 refine Ops.v rfl (op_slice_arr_h (p := 0) (l := (Int.toNat x28)) sl_26.h rfl rfl rfl (of_decide_eq_true (chk_some c33)) rfl rfl) ?_
 refine zz ?_
 refine AW.ret ?_
 rw [← Option.some.inj h]
 exact ⟨[C.val (takeV w00 (Int.toNat x28))], _, Ghost.prefix (p := 0) (h := (Int.toNat x28)) rfl (Int.le_toNat_len c33), (.cons (.tmp rfl) .nil), [0, 0], _, _, rfl, ⟨(takeV w00 (Int.toNat x28)), rfl, rfl⟩⟩

def Z7i (l29 : List Int) : Option (List Int) := some l29
def Z1m (p0 : THistory) (p1 : List Int) (l17 : List Int) (x18 : Int) : Option ((List Int × Int) ⊕ ((List Int))) := cond (decide (x18 < (p1.length : Int))) ((getI p1 x18).bind fun e20 => (Zf p0.graph e20).bind fun r22 => (Z5v l17 r22.1).bind fun r25 => some (.inl (r25, (IntKind.i64.wrap (x18 + 1))))) (some (.inr l17))
def Z9t (p0 : THistory) (p1 : List Int) : Option (List Int) := (Z3q p1).bind fun r1 => (Z7t r1).bind fun r4 => (iter (fun z31 => Z1m p0 p1 z31.1 z31.2) big (r4, 0)).bind fun y32 => Z7i y32
theorem Zd0 {b00 : Nat} {b01 : Nat} {b02 : Nat} {b03 : Nat} {b04 : Nat} (p0 : THistory) (p1 : List Int) (r : List Int) (h : Z9t p0 p1 = some r) : Ok Tryz.prog 148 [C.val (.pointer (some ⟨b00, 0, none⟩)), C.im kI64 1 p1] [Obj.box b00 84 [C.int p0.graph.room, C.im kEvent 9 p0.graph.events, C.im kEvent 9 p0.graph.parked, C.val (.map (some b01)), C.val (.map (some b02)), C.val (.map (some b03)), C.val (.map (some b04))], Abs.Obj.map b01 .i64 mcI64 p0.depth, Abs.Obj.map b02 .i64 mcEntryS p0.before, Abs.Obj.map b03 .i64 mcEntryS p0.after, Abs.Obj.map b04 .i64 mcI64 p0.refused] (fun c qs => ∃ (v30 : Value), c = C.val v30 ∧ qs = [Obj.arr v30 2 kI64 1 r, Obj.box b00 84 [C.int p0.graph.room, C.im kEvent 9 p0.graph.events, C.im kEvent 9 p0.graph.parked, C.val (.map (some b01)), C.val (.map (some b02)), C.val (.map (some b03)), C.val (.map (some b04))], Abs.Obj.map b01 .i64 mcI64 p0.depth, Abs.Obj.map b02 .i64 mcEntryS p0.before, Abs.Obj.map b03 .i64 mcEntryS p0.after, Abs.Obj.map b04 .i64 mcI64 p0.refused]) := by
 refine Ok.of_body (rs := [.tmp 4]) Tryz.func148 rfl rfl rfl rfl rfl fun X => ?_
 unfold Z9t at h
 refine zz ?_
 refine ob' h fun r1 g2 h => ?_
 refine Ops.h (ns := []) rfl rfl (op_call (Zc3 _ _ g2) rfl rfl) ?_
 rintro _ _ ⟨_, ⟨v3, rfl, rfl⟩, rfl⟩
 refine ob' h fun r4 g5 h => ?_
 refine Ops.h (ns := [0]) rfl rfl (op_call (Zd7 r1 _ g5) rfl rfl) ?_
 rintro _ _ ⟨_, ⟨v6, rfl, rfl⟩, rfl⟩
 refine Ops.v rfl (op_assign rfl rfl) ?_
 refine Ops.nil ?_
 refine AW.seq ?_
 refine AW.cut (τ := List Int × Value) (fun (l29, v28) => ⟨[(5, C.val v28)], [Obj.arr v28 2 kI64 1 l29, Obj.box b00 84 [C.int p0.graph.room, C.im kEvent 9 p0.graph.events, C.im kEvent 9 p0.graph.parked, C.val (.map (some b01)), C.val (.map (some b02)), C.val (.map (some b03)), C.val (.map (some b04))], Abs.Obj.map b01 .i64 mcI64 p0.depth, Abs.Obj.map b02 .i64 mcEntryS p0.before, Abs.Obj.map b03 .i64 mcEntryS p0.after, Abs.Obj.map b04 .i64 mcI64 p0.refused]⟩) (fun (l29, v28) => Z7i l29 = some r) ?_ ?_
 ·
  refine zz ?_
  refine ob' h fun o33 g34 q35 => ?_
  refine AW.loop (τ := List Int × Int × Value) (x := (r4, 0, v6)) (fun (l17, x18, v16) => ⟨[(0, C.val (.pointer (some ⟨b00, 0, none⟩))), (5, C.val v16), (13, C.im kI64 1 p1), (14, C.int (p1.length : Int)), (15, C.int x18)], [Obj.box b00 84 [C.int p0.graph.room, C.im kEvent 9 p0.graph.events, C.im kEvent 9 p0.graph.parked, C.val (.map (some b01)), C.val (.map (some b02)), C.val (.map (some b03)), C.val (.map (some b04))], Abs.Obj.map b01 .i64 mcI64 p0.depth, Abs.Obj.map b02 .i64 mcEntryS p0.before, Abs.Obj.map b03 .i64 mcEntryS p0.after, Abs.Obj.map b04 .i64 mcI64 p0.refused, Obj.arr v16 2 kI64 1 l17]⟩) (fun k (l17, x18, v16) => iter (fun z31 => Z1m p0 p1 z31.1 z31.2) k (l17, x18) = some o33) g34 (Ghost.both (ns := [1, 1, 1, 1, 1, 0]) rfl rfl) ?_
  rintro k ⟨l17, x18, v16⟩ i37
  refine iter_succ' (show iter (fun z31 => Z1m p0 p1 z31.1 z31.2) k (l17, x18) = some o33 from i37) fun k36 y38 hlt_k36 h h39 => ?_
  replace h : Z1m p0 p1 l17 x18 = some y38 := h
  unfold Z1m at h
  refine zz ?_
  refine cnd h (fun hb19 h => ?_) fun hb19 h => ?_
  ·
   refine AW.ct hb19 rfl ?_
   refine zz ?_
   refine ob' h fun e20 g21 h => ?_
   refine Ops.v rfl (op_indexAddr_im sl_26.h rfl rfl g21 rfl) ?_
   refine Ops.v rfl (op_load_ip ld_2.h rfl rfl) ?_
   refine zz ?_
   refine Ops.v rfl (op_nilCheck rfl rfl) ?_
   refine zz ?_
   refine Ops.v rfl (op_loadA (p := 0) (ds := [C.int p0.graph.room, C.im kEvent 9 p0.graph.events, C.im kEvent 9 p0.graph.parked]) ld_30.h rfl rfl rfl rfl rfl) ?_
   refine zz ?_
   refine ob' h fun r22 g23 h => ?_
   refine Ops.hd (ns := []) rfl rfl (op_callE (Z3n _ _ _ g23) rfl rfl) ?_
   refine zz ?_
   iterate 2 refine Ops.v rfl (op_extract rfl rfl rfl) ?_
   refine Ops.h (ns := []) rfl rfl (op_alloc (cs := [C.int 0, C.int 0, C.int 0, C.int 0, C.int 0, C.int 0, C.str ByteArray.empty, C.val (.slice none 0 0), C.int 0]) ze_38 (cells_zero rfl rfl) rfl) ?_
   rintro _ _ ⟨b24, rfl, rfl⟩
   refine Ops.hd (ns := [0]) rfl rfl (op_storeA (gs := [C.int r22.1.id, C.int r22.1.room, C.int r22.1.author, C.int r22.1.kind, C.int r22.1.key, C.int r22.1.n, C.str r22.1.text, C.im kI64 1 r22.1.prev, C.int r22.1.time]) ld_38.h rfl rfl rfl rfl rfl) ?_
   refine zz ?_
   refine Ops.v rfl (op_makeFunc rfl rfl) ?_
   refine ob' h fun r25 g26 h => ?_
   refine Ops.h (ns := [6, 0]) rfl rfl (op_call (Zdq l17 r22.1 _ g26) rfl rfl) ?_
   rintro _ _ ⟨_, ⟨v27, rfl, rfl⟩, rfl⟩
   refine zz ?_
   obtain rfl := Option.some.inj h
   exact ⟨k36, (r25, (IntKind.i64.wrap (x18 + 1)), v27), hlt_k36, h39, Ghost.both (ns := [2, 2, 2, 2, 2, 0]) rfl rfl⟩
  refine AW.cf hb19 rfl ?_
  refine AW.exit ?_
  obtain rfl := Option.some.inj h
  obtain rfl := Option.some.inj h39
  replace h := q35
  exact ⟨(l17, v16), h, Ghost.both (ns := [5, 0, 0, 0, 0, 0]) rfl rfl⟩
 rintro ⟨l29, v28⟩ h
 replace h : Z7i l29 = some r := h
 unfold Z7i at h
 refine zz ?_
 refine AW.ret ?_
 rw [← Option.some.inj h]
 exact ⟨[C.val v28], _, Ghost.refl _, (.cons (.tmp rfl) .nil), [0, 0, 0, 0, 0, 0], _, _, rfl, ⟨v28, rfl, rfl⟩⟩

def Z7h (p0 : THistory) : Option (List Int) := (Z7f p0).bind fun r1 => (Z9t p0 r1).bind fun r4 => some r4
theorem Zcz {b00 : Nat} {b01 : Nat} {b02 : Nat} {b03 : Nat} {b04 : Nat} (p0 : THistory) (r : List Int) (h : Z7h p0 = some r) : Ok Tryz.prog 94 [C.val (.pointer (some ⟨b00, 0, none⟩))] [Obj.box b00 84 [C.int p0.graph.room, C.im kEvent 9 p0.graph.events, C.im kEvent 9 p0.graph.parked, C.val (.map (some b01)), C.val (.map (some b02)), C.val (.map (some b03)), C.val (.map (some b04))], Abs.Obj.map b01 .i64 mcI64 p0.depth, Abs.Obj.map b02 .i64 mcEntryS p0.before, Abs.Obj.map b03 .i64 mcEntryS p0.after, Abs.Obj.map b04 .i64 mcI64 p0.refused] (fun c qs => ∃ (v7 : Value), c = C.val v7 ∧ qs = [Obj.arr v7 2 kI64 1 r, Obj.box b00 84 [C.int p0.graph.room, C.im kEvent 9 p0.graph.events, C.im kEvent 9 p0.graph.parked, C.val (.map (some b01)), C.val (.map (some b02)), C.val (.map (some b03)), C.val (.map (some b04))], Abs.Obj.map b01 .i64 mcI64 p0.depth, Abs.Obj.map b02 .i64 mcEntryS p0.before, Abs.Obj.map b03 .i64 mcEntryS p0.after, Abs.Obj.map b04 .i64 mcI64 p0.refused]) := by
 refine Ok.of_body (rs := [.tmp 2]) Tryz.func94 rfl rfl rfl rfl rfl fun X => ?_
 unfold Z7h at h
 refine zz ?_
 refine ob' h fun r1 g2 h => ?_
 refine Ops.h (ns := [0, 0, 0, 0, 0]) rfl rfl (op_call (Zcx p0 _ g2) rfl rfl) ?_
 rintro _ _ ⟨_, ⟨v3, rfl, rfl⟩, rfl⟩
 refine ob' h fun r4 g5 h => ?_
 refine Ops.h (ns := [0, 0, 0, 0, 0, 0]) rfl rfl (HOp.frz (t := 5) rfl Frz.arr (op_call (Zd0 p0 r1 _ g5) rfl rfl)) ?_
 rintro _ _ ⟨_, ⟨v6, rfl, rfl⟩, rfl⟩
 refine zz ?_
 refine AW.ret ?_
 rw [← Option.some.inj h]
 exact ⟨[C.val v6], _, Ghost.refl _, (.cons (.tmp rfl) .nil), [0, 0, 0, 0, 0, 0], _, _, rfl, ⟨v6, rfl, rfl⟩⟩

def Z7j (p0 : THistory) : Option (List TEntry) := (Z7h p0).bind fun r1 => (Z1s p0 r1).bind fun r4 => (Z1n p0 r4).bind fun r7 => some r7
theorem Zd1 {b00 : Nat} {b01 : Nat} {b02 : Nat} {b03 : Nat} {b04 : Nat} (p0 : THistory) (r : List TEntry) (h : Z7j p0 = some r) : Ok Tryz.prog 74 [C.val (.pointer (some ⟨b00, 0, none⟩))] [Obj.box b00 84 [C.int p0.graph.room, C.im kEvent 9 p0.graph.events, C.im kEvent 9 p0.graph.parked, C.val (.map (some b01)), C.val (.map (some b02)), C.val (.map (some b03)), C.val (.map (some b04))], Abs.Obj.map b01 .i64 mcI64 p0.depth, Abs.Obj.map b02 .i64 mcEntryS p0.before, Abs.Obj.map b03 .i64 mcEntryS p0.after, Abs.Obj.map b04 .i64 mcI64 p0.refused] (fun c qs => c = C.im kEntry 3 r ∧ qs = [Obj.box b00 84 [C.int p0.graph.room, C.im kEvent 9 p0.graph.events, C.im kEvent 9 p0.graph.parked, C.val (.map (some b01)), C.val (.map (some b02)), C.val (.map (some b03)), C.val (.map (some b04))], Abs.Obj.map b01 .i64 mcI64 p0.depth, Abs.Obj.map b02 .i64 mcEntryS p0.before, Abs.Obj.map b03 .i64 mcEntryS p0.after, Abs.Obj.map b04 .i64 mcI64 p0.refused]) := by
 refine Ok.of_body (rs := [.tmp 2]) Tryz.func74 rfl rfl rfl rfl rfl fun X => ?_
 unfold Z7j at h
 refine zz ?_
 refine ob' h fun r1 g2 h => ?_
 refine Ops.h (ns := [0, 0, 0, 0, 0]) rfl rfl (op_call (Zcz p0 _ g2) rfl rfl) ?_
 rintro _ _ ⟨_, ⟨v3, rfl, rfl⟩, rfl⟩
 refine ob' h fun r4 g5 h => ?_
 refine Ops.h (ns := [0, 0, 0, 0, 0, 0]) rfl rfl (HOp.frz (t := 6) rfl Frz.arr (op_call (Zbv p0 r1 _ g5) rfl rfl)) ?_
 rintro _ _ ⟨_, ⟨v6, rfl, rfl⟩, rfl⟩
 refine ob' h fun r7 g8 h => ?_
 refine Ops.hd (ns := [0, 0, 0, 0, 0, 0]) rfl rfl (HOp.frz (t := 7) rfl Frz.arr (op_callE (Zbu p0 r4 _ g8) rfl rfl)) ?_
 refine zz ?_
 refine AW.ret ?_
 rw [← Option.some.inj h]
 exact ⟨[C.im kEntry 3 r7], _, Ghost.refl _, (.cons (.tmp rfl) .nil), [0, 0, 0, 0, 0], _, _, rfl, ⟨rfl, rfl⟩⟩

def Z3a (p0 : TGraph') (p1 : Int) (x7 : Bool) : Option Int := cond x7 (some 0) ((Z7q p0).bind fun r9 => (Z7j r9).bind fun r16 => (Z5i r16 2 p1).bind fun r18 => some r18)
def Z7e (p0 : TGraph') (p1 : Int) : Option Int := (Z77 p0).bind fun r2 => cond r2 ((Z1t p1).bind fun r5 => Z3a p0 p1 (!r5)) (Z3a p0 p1 true)
theorem Zcw (p0 : TGraph') (p1 : Int) (r : Int) (h : Z7e p0 p1 = some r) : Ok Tryz.prog 26 [C.agg [C.int p0.room, C.im kEvent 9 p0.events, C.im kEvent 9 p0.parked], C.int p1] [] (fun c qs => c = C.int r ∧ qs = []) := by
 refine Ok.of_body (rs := [.tmp 4]) Tryz.func26 rfl rfl rfl rfl rfl fun X => ?_
 unfold Z7e at h
 refine zz ?_
 refine Ops.h (ns := []) rfl rfl (op_boxA rfl rfl) ?_
 rintro _ _ ⟨b1, rfl, rfl⟩
 refine Ops.v rfl (op_assign rfl rfl) ?_
 refine Ops.nil ?_
 refine AW.seq ?_
 refine AW.seq ?_
 refine AW.cut (τ := Bool) (fun x7 => ⟨[(1, C.int p1), (2, C.val (.pointer (some ⟨b1, 0, none⟩))), (12, C.bool x7)], [Obj.box b1 30 [C.int p0.room, C.im kEvent 9 p0.events, C.im kEvent 9 p0.parked]]⟩) (fun x7 => Z3a p0 p1 x7 = some r) ?_ ?_
 ·
  refine zz ?_
  refine Ops.v rfl (op_loadA (p := 0) (ds := [C.int p0.room, C.im kEvent 9 p0.events, C.im kEvent 9 p0.parked]) ld_30.h rfl rfl rfl rfl rfl) ?_
  refine ob' h fun r2 g3 h => ?_
  refine Ops.hd (ns := []) rfl rfl (op_callE (Zcp _ _ g3) rfl rfl) ?_
  refine zz ?_
  refine cnd h (fun hb4 h => ?_) fun hb4 h => ?_
  ·
   refine Ops.gv rfl rfl rfl rfl (not_t hb4) (op_move rfl rfl) ?_
   refine ob' h fun r5 g6 h => ?_
   refine Ops.ghd (ns := []) rfl rfl rfl rfl (not_t hb4) rfl (op_callE (Za3 _ _ g6) rfl rfl) ?_
   refine Ops.gv rfl rfl rfl rfl (not_t hb4) (op_not rfl rfl) ?_
   refine Ops.v rfl (op_pick_f rfl (not_t hb4) rfl rfl) ?_
   refine zz ?_
   exact ⟨(!r5), h, Ghost.both (ns := [0]) rfl rfl⟩
  iterate 3 refine Ops.gs rfl rfl rfl (.b rfl (not_f hb4)) rfl rfl ?_
  refine Ops.v rfl (op_pick_t rfl (not_f hb4) rfl rfl) ?_
  refine zz ?_
  exact ⟨true, h, Ghost.both (ns := [0]) rfl rfl⟩
 intro x7 h
 replace h : Z3a p0 p1 x7 = some r := h
 unfold Z3a at h
 refine cnd h (fun hb8 h => ?_) fun hb8 h => ?_
 ·
  refine AW.ct hb8 rfl ?_
  refine zz ?_
  refine AW.ret ?_
  rw [← Option.some.inj h]
  exact ⟨[C.int 0], _, Ghost.refl _, (.cons (.tmp rfl) .nil), [], _, _, rfl, ⟨rfl, rfl⟩⟩
 refine AW.cf hb8 rfl ?_
 refine zz ?_
 refine Ops.v rfl (op_loadA (p := 0) (ds := [C.int p0.room, C.im kEvent 9 p0.events, C.im kEvent 9 p0.parked]) ld_30.h rfl rfl rfl rfl rfl) ?_
 refine ob' h fun r9 g10 h => ?_
 refine Ops.h (ns := []) rfl rfl (op_call (Zd6 _ _ g10) rfl rfl) ?_
 rintro _ _ ⟨_, ⟨b11, b12, b13, b14, b15, rfl, rfl⟩, rfl⟩
 refine ob' h fun r16 g17 h => ?_
 refine Ops.hd (ns := [0, 0, 0, 0, 0]) rfl rfl (op_callE (Zd1 r9 _ g17) rfl rfl) ?_
 refine zz ?_
 refine ob' h fun r18 g19 h => ?_
 refine Ops.hd (ns := []) rfl rfl (op_callE (Zbw _ _ _ _ g19) rfl rfl) ?_
 refine zz ?_
 refine AW.ret ?_
 rw [← Option.some.inj h]
 exact ⟨[C.int r18], _, Ghost.refl _, (.cons (.tmp rfl) .nil), [], _, _, rfl, ⟨rfl, rfl⟩⟩

def Za0 : Option Bool := some true
def Z3j (p0 : List Int) (p1 : List Int) (x8 : Int) : Option (Int ⊕ (Bool ⊕ Unit)) := cond (decide (x8 < (p0.length : Int))) ((getI p0 x8).bind fun e10 => (getI p1 x8).bind fun e12 => cond (e10 != e12) (some (.inr (.inl false))) (some (.inl (IntKind.i64.wrap (x8 + 1))))) (some (.inr (.inr ())))
def Z7w (p0 : List Int) (p1 : List Int) : Option Bool := cond ((p0.length : Int) != (p1.length : Int)) (some false) ((iter (Z3j p0 p1) big 0).bind (fun z16 => match z16 with | .inl y15 => some y15 | .inr () => Za0))
theorem Zdb (p0 : List Int) (p1 : List Int) (r : Bool) (h : Z7w p0 p1 = some r) : Ok Tryz.prog 13 [C.im kI64 1 p0, C.im kI64 1 p1] [] (fun c qs => c = C.bool r ∧ qs = []) := by
 refine Ok.of_body (rs := [.tmp 4]) Tryz.func13 rfl rfl rfl rfl rfl fun X => ?_
 unfold Z7w at h
 refine zz ?_
 refine cnd h (fun hb1 h => ?_) fun hb1 h => ?_
 ·
  refine AW.ct hb1 rfl ?_
  refine zz ?_
  refine AW.ret ?_
  rw [← Option.some.inj h]
  exact ⟨[C.bool false], _, Ghost.refl _, (.cons (.tmp rfl) .nil), [], _, _, rfl, ⟨rfl, rfl⟩⟩
 refine AW.cf hb1 rfl ?_
 refine AW.skip ?_
 refine AW.seq ?_
 refine AW.cut (τ := Unit) (fun (_ : Unit) => ⟨[], []⟩) (fun (_ : Unit) => Za0 = some r) ?_ ?_
 ·
  refine zz ?_
  refine ob' h fun o17 g18 q19 => ?_
  refine AW.loop (τ := Int) (x := 0) (fun x8 => ⟨[(0, C.im kI64 1 p0), (1, C.im kI64 1 p1), (5, C.int x8)], []⟩) (fun k x8 => iter (Z3j p0 p1) k x8 = some o17) g18 (Ghost.both (ns := []) rfl rfl) ?_
  intro k x8 i21
  refine iter_succ' (show iter (Z3j p0 p1) k x8 = some o17 from i21) fun k20 y22 hlt_k20 h h23 => ?_
  replace h : Z3j p0 p1 x8 = some y22 := h
  unfold Z3j at h
  refine zz ?_
  refine cnd h (fun hb9 h => ?_) fun hb9 h => ?_
  ·
   refine AW.ct hb9 rfl ?_
   refine zz ?_
   refine AW.regionD (L := [3, 7]) (Lt := []) (k := .light 0 false (.light 1 false (.light 2 false (.light 3 true (.light 4 false (.light 5 false (.light 6 false (.light 7 true (.light 8 false .done))))))))) (ns := []) (by kernel_rfl) (by kernel_rfl) (by kernel_rfl) (by kernel_rfl) rfl ?_
   refine zz ?_
   refine ob' h fun e10 g11 h => ?_
   refine OpsD.v rfl rfl (op_indexAddr_im sl_26.h rfl rfl g11 rfl) ?_
   refine OpsD.v rfl rfl (op_load_ip ld_2.h rfl rfl) ?_
   refine zz ?_
   refine ob' h fun e12 g13 h => ?_
   refine OpsD.v rfl rfl (op_indexAddr_im sl_26.h rfl rfl g13 rfl) ?_
   refine OpsD.v rfl rfl (op_load_ip ld_2.h rfl rfl) ?_
   refine zz ?_
   refine cnd h (fun hb14 h => ?_) fun hb14 h => ?_
   ·
    refine AW.ct hb14 rfl ?_
    refine zz ?_
    refine AW.ret ?_
    obtain rfl := Option.some.inj h
    obtain rfl := Option.some.inj h23
    replace h := q19
    rw [← Option.some.inj h]
    exact ⟨[C.bool false], _, Ghost.refl _, (.cons (.tmp rfl) .nil), [], _, _, rfl, ⟨rfl, rfl⟩⟩
   refine AW.cf hb14 rfl ?_
   refine zz ?_
   obtain rfl := Option.some.inj h
   exact ⟨k20, (IntKind.i64.wrap (x8 + 1)), hlt_k20, h23, Ghost.both (ns := []) rfl rfl⟩
  refine AW.cf hb9 rfl ?_
  refine AW.exit ?_
  obtain rfl := Option.some.inj h
  obtain rfl := Option.some.inj h23
  replace h := q19
  exact ⟨(), h, Ghost.both (ns := []) rfl rfl⟩
 rintro ⟨⟩ h
 replace h : Za0 = some r := h
 unfold Za0 at h
 refine zz ?_
 refine AW.ret ?_
 rw [← Option.some.inj h]
 exact ⟨[C.bool true], _, Ghost.refl _, (.cons (.tmp rfl) .nil), [], _, _, rfl, ⟨rfl, rfl⟩⟩

def Z7u (p0 : TEvent) (p1 : TEvent) : Option Bool := cond (p0.id != p1.id) (some false) (cond (p0.room != p1.room) (some false) (cond (p0.author != p1.author) (some false) (cond (p0.kind != p1.kind) (some false) (cond (p0.key != p1.key) (some false) (cond (p0.n != p1.n) (some false) (cond (p0.text.toList == p1.text.toList) ((Z7w p0.prev p1.prev).bind fun r10 => cond r10 (cond (p0.time != p1.time) (some false) (some true)) (some false)) (some false)))))))
set_option maxHeartbeats 1000000 in
theorem Zd9 (p0 : TEvent) (p1 : TEvent) (r : Bool) (h : Z7u p0 p1 = some r) : Ok Tryz.prog 69 [C.agg [C.int p0.id, C.int p0.room, C.int p0.author, C.int p0.kind, C.int p0.key, C.int p0.n, C.str p0.text, C.im kI64 1 p0.prev, C.int p0.time], C.agg [C.int p1.id, C.int p1.room, C.int p1.author, C.int p1.kind, C.int p1.key, C.int p1.n, C.str p1.text, C.im kI64 1 p1.prev, C.int p1.time]] [] (fun c qs => c = C.bool r ∧ qs = []) := by
 refine Ok.of_body (rs := [.tmp 4]) Tryz.func69 rfl rfl rfl rfl rfl fun X => ?_
 unfold Z7u at h
 refine zz ?_
 refine Ops.h (ns := []) rfl rfl (op_boxA rfl rfl) ?_
 rintro _ _ ⟨b1, rfl, rfl⟩
 refine Ops.h (ns := []) rfl rfl (op_boxA rfl rfl) ?_
 rintro _ _ ⟨b2, rfl, rfl⟩
 refine zz ?_
 refine cnd h (fun hb3 h => ?_) fun hb3 h => ?_
 ·
  refine AW.ct hb3 rfl ?_
  refine zz ?_
  refine AW.ret ?_
  rw [← Option.some.inj h]
  exact ⟨[C.bool false], _, Ghost.refl _, (.cons (.tmp rfl) .nil), [], _, _, rfl, ⟨rfl, rfl⟩⟩
 refine AW.cf hb3 rfl ?_
 refine zz ?_
 refine cnd h (fun hb4 h => ?_) fun hb4 h => ?_
 ·
  refine AW.ct hb4 rfl ?_
  refine zz ?_
  refine AW.ret ?_
  rw [← Option.some.inj h]
  exact ⟨[C.bool false], _, Ghost.refl _, (.cons (.tmp rfl) .nil), [], _, _, rfl, ⟨rfl, rfl⟩⟩
 refine AW.cf hb4 rfl ?_
 refine zz ?_
 refine cnd h (fun hb5 h => ?_) fun hb5 h => ?_
 ·
  refine AW.ct hb5 rfl ?_
  refine zz ?_
  refine AW.ret ?_
  rw [← Option.some.inj h]
  exact ⟨[C.bool false], _, Ghost.refl _, (.cons (.tmp rfl) .nil), [], _, _, rfl, ⟨rfl, rfl⟩⟩
 refine AW.cf hb5 rfl ?_
 refine zz ?_
 refine cnd h (fun hb6 h => ?_) fun hb6 h => ?_
 ·
  refine AW.ct hb6 rfl ?_
  refine zz ?_
  refine AW.ret ?_
  rw [← Option.some.inj h]
  exact ⟨[C.bool false], _, Ghost.refl _, (.cons (.tmp rfl) .nil), [], _, _, rfl, ⟨rfl, rfl⟩⟩
 refine AW.cf hb6 rfl ?_
 refine zz ?_
 refine cnd h (fun hb7 h => ?_) fun hb7 h => ?_
 ·
  refine AW.ct hb7 rfl ?_
  refine zz ?_
  refine AW.ret ?_
  rw [← Option.some.inj h]
  exact ⟨[C.bool false], _, Ghost.refl _, (.cons (.tmp rfl) .nil), [], _, _, rfl, ⟨rfl, rfl⟩⟩
 refine AW.cf hb7 rfl ?_
 refine zz ?_
 refine cnd h (fun hb8 h => ?_) fun hb8 h => ?_
 ·
  refine AW.ct hb8 rfl ?_
  refine zz ?_
  refine AW.ret ?_
  rw [← Option.some.inj h]
  exact ⟨[C.bool false], _, Ghost.refl _, (.cons (.tmp rfl) .nil), [], _, _, rfl, ⟨rfl, rfl⟩⟩
 refine AW.cf hb8 rfl ?_
 refine zz ?_
 refine cnd h (fun hb9 h => ?_) fun hb9 h => ?_
 ·
  refine AW.cond rfl (fun hn => absurd ((not_t hb9).symm.trans hn) (by decide)) (fun _ => ?_)
  refine zz ?_
  refine ob' h fun r10 g11 h => ?_
  refine Ops.hd (ns := []) rfl rfl (op_callE (Zdb _ _ _ g11) rfl rfl) ?_
  refine zz ?_
  refine cnd h (fun hb12 h => ?_) fun hb12 h => ?_
  ·
   refine AW.cond rfl (fun hn => absurd ((not_t hb12).symm.trans hn) (by decide)) (fun _ => ?_)
   refine zz ?_
   refine cnd h (fun hb13 h => ?_) fun hb13 h => ?_
   ·
    refine AW.ct hb13 rfl ?_
    refine zz ?_
    refine AW.ret ?_
    rw [← Option.some.inj h]
    exact ⟨[C.bool false], _, Ghost.refl _, (.cons (.tmp rfl) .nil), [], _, _, rfl, ⟨rfl, rfl⟩⟩
   refine AW.cf hb13 rfl ?_
   refine zz ?_
   refine AW.ret ?_
   rw [← Option.some.inj h]
   exact ⟨[C.bool true], _, Ghost.refl _, (.cons (.tmp rfl) .nil), [], _, _, rfl, ⟨rfl, rfl⟩⟩
  refine AW.cond rfl (fun _ => ?_) (fun hn => absurd ((not_f hb12).symm.trans hn) (by decide))
  refine zz ?_
  refine AW.ret ?_
  rw [← Option.some.inj h]
  exact ⟨[C.bool false], _, Ghost.refl _, (.cons (.tmp rfl) .nil), [], _, _, rfl, ⟨rfl, rfl⟩⟩
 refine AW.cond rfl (fun _ => ?_) (fun hn => absurd ((not_f hb9).symm.trans hn) (by decide))
 refine zz ?_
 refine AW.ret ?_
 rw [← Option.some.inj h]
 exact ⟨[C.bool false], _, Ghost.refl _, (.cons (.tmp rfl) .nil), [], _, _, rfl, ⟨rfl, rfl⟩⟩

def Z9z : Option Bool := some true
def Z3i (p0 : List TEvent) (p1 : List TEvent) (x10 : Int) : Option (Int ⊕ (Bool ⊕ Unit)) := cond (decide (x10 < (p0.length : Int))) ((getI p0 x10).bind fun e12 => (getI p1 x10).bind fun e14 => (Z7u e12 e14).bind fun r16 => cond r16 (some (.inl (IntKind.i64.wrap (x10 + 1)))) (some (.inr (.inl false)))) (some (.inr (.inr ())))
def Z5n (p0 : List TEvent) (p1 : List TEvent) : Option Bool := cond ((p0.length : Int) != (p1.length : Int)) (some false) ((iter (Z3i p0 p1) big 0).bind (fun z20 => match z20 with | .inl y19 => some y19 | .inr () => Z9z))
theorem Zc0 (p0 : List TEvent) (p1 : List TEvent) (r : Bool) (h : Z5n p0 p1 = some r) : Ok Tryz.prog 64 [C.im kEvent 9 p0, C.im kEvent 9 p1] [] (fun c qs => c = C.bool r ∧ qs = []) := by
 refine Ok.of_body (rs := [.tmp 4]) Tryz.func64 rfl rfl rfl rfl rfl fun X => ?_
 unfold Z5n at h
 refine zz ?_
 refine cnd h (fun hb1 h => ?_) fun hb1 h => ?_
 ·
  refine AW.ct hb1 rfl ?_
  refine zz ?_
  refine AW.ret ?_
  rw [← Option.some.inj h]
  exact ⟨[C.bool false], _, Ghost.refl _, (.cons (.tmp rfl) .nil), [], _, _, rfl, ⟨rfl, rfl⟩⟩
 refine AW.cf hb1 rfl ?_
 refine AW.skip ?_
 refine AW.seq ?_
 refine AW.cut (τ := Unit) (fun (_ : Unit) => ⟨[], []⟩) (fun (_ : Unit) => Z9z = some r) ?_ ?_
 ·
  refine zz ?_
  refine ob' h fun o21 g22 q23 => ?_
  refine AW.loop (τ := Int) (x := 0) (fun x10 => ⟨[(0, C.im kEvent 9 p0), (1, C.im kEvent 9 p1), (5, C.int x10)], []⟩) (fun k x10 => iter (Z3i p0 p1) k x10 = some o21) g22 (Ghost.both (ns := []) rfl rfl) ?_
  intro k x10 i25
  refine iter_succ' (show iter (Z3i p0 p1) k x10 = some o21 from i25) fun k24 y26 hlt_k24 h h27 => ?_
  replace h : Z3i p0 p1 x10 = some y26 := h
  unfold Z3i at h
  refine zz ?_
  refine cnd h (fun hb11 h => ?_) fun hb11 h => ?_
  ·
   refine AW.ct hb11 rfl ?_
   refine zz ?_
   refine AW.regionD (L := [3, 7]) (Lt := []) (k := .light 0 false (.light 1 false (.light 2 false (.light 3 true (.light 4 false (.light 5 false (.light 6 false (.light 7 true (.one 8 (.light 9 false .done)))))))))) (ns := []) (by kernel_rfl) (by kernel_rfl) (by kernel_rfl) (by kernel_rfl) rfl ?_
   refine zz ?_
   refine ob' h fun e12 g13 h => ?_
   refine OpsD.v rfl rfl (op_indexAddr_im sl_28.h rfl rfl g13 rfl) ?_
   refine OpsD.v rfl rfl (op_load_ipA ld_38.h rfl rfl rfl rfl) ?_
   refine zz ?_
   refine ob' h fun e14 g15 h => ?_
   refine OpsD.v rfl rfl (op_indexAddr_im sl_28.h rfl rfl g15 rfl) ?_
   refine OpsD.v rfl rfl (op_load_ipA ld_38.h rfl rfl rfl rfl) ?_
   refine zz ?_
   refine ob' h fun r16 g17 h => ?_
   refine StepD.h (ns := []) rfl rfl rfl (op_callE (Zd9 _ _ _ g17) rfl rfl) ?_
   rintro _ _ ⟨rfl, rfl⟩
   refine zz ?_
   refine cnd h (fun hb18 h => ?_) fun hb18 h => ?_
   ·
    refine AW.cond rfl (fun hn => absurd ((not_t hb18).symm.trans hn) (by decide)) (fun _ => ?_)
    refine zz ?_
    obtain rfl := Option.some.inj h
    exact ⟨k24, (IntKind.i64.wrap (x10 + 1)), hlt_k24, h27, Ghost.both (ns := []) rfl rfl⟩
   refine AW.cond rfl (fun _ => ?_) (fun hn => absurd ((not_f hb18).symm.trans hn) (by decide))
   refine zz ?_
   refine AW.ret ?_
   obtain rfl := Option.some.inj h
   obtain rfl := Option.some.inj h27
   replace h := q23
   rw [← Option.some.inj h]
   exact ⟨[C.bool false], _, Ghost.refl _, (.cons (.tmp rfl) .nil), [], _, _, rfl, ⟨rfl, rfl⟩⟩
  refine AW.cf hb11 rfl ?_
  refine AW.exit ?_
  obtain rfl := Option.some.inj h
  obtain rfl := Option.some.inj h27
  replace h := q23
  exact ⟨(), h, Ghost.both (ns := []) rfl rfl⟩
 rintro ⟨⟩ h
 replace h : Z9z = some r := h
 unfold Z9z at h
 refine zz ?_
 refine AW.ret ?_
 rw [← Option.some.inj h]
 exact ⟨[C.bool true], _, Ghost.refl _, (.cons (.tmp rfl) .nil), [], _, _, rfl, ⟨rfl, rfl⟩⟩

def Z7v (p0 : TGraph') (p1 : TGraph') : Option Bool := cond (p0.room != p1.room) (some false) ((Z5n p0.events p1.events).bind fun r4 => cond r4 ((Z5n p0.parked p1.parked).bind fun r7 => cond r7 (some true) (some false)) (some false))
theorem Zda (p0 : TGraph') (p1 : TGraph') (r : Bool) (h : Z7v p0 p1 = some r) : Ok Tryz.prog 14 [C.agg [C.int p0.room, C.im kEvent 9 p0.events, C.im kEvent 9 p0.parked], C.agg [C.int p1.room, C.im kEvent 9 p1.events, C.im kEvent 9 p1.parked]] [] (fun c qs => c = C.bool r ∧ qs = []) := by
 refine Ok.of_body (rs := [.tmp 4]) Tryz.func14 rfl rfl rfl rfl rfl fun X => ?_
 unfold Z7v at h
 refine zz ?_
 refine Ops.h (ns := []) rfl rfl (op_boxA rfl rfl) ?_
 rintro _ _ ⟨b1, rfl, rfl⟩
 refine Ops.h (ns := []) rfl rfl (op_boxA rfl rfl) ?_
 rintro _ _ ⟨b2, rfl, rfl⟩
 refine zz ?_
 refine cnd h (fun hb3 h => ?_) fun hb3 h => ?_
 ·
  refine AW.ct hb3 rfl ?_
  refine zz ?_
  refine AW.ret ?_
  rw [← Option.some.inj h]
  exact ⟨[C.bool false], _, Ghost.refl _, (.cons (.tmp rfl) .nil), [], _, _, rfl, ⟨rfl, rfl⟩⟩
 refine AW.cf hb3 rfl ?_
 refine zz ?_
 refine ob' h fun r4 g5 h => ?_
 refine Ops.hd (ns := []) rfl rfl (op_callE (Zc0 _ _ _ g5) rfl rfl) ?_
 refine zz ?_
 refine cnd h (fun hb6 h => ?_) fun hb6 h => ?_
 ·
  refine AW.cond rfl (fun hn => absurd ((not_t hb6).symm.trans hn) (by decide)) (fun _ => ?_)
  refine zz ?_
  refine ob' h fun r7 g8 h => ?_
  refine Ops.hd (ns := []) rfl rfl (op_callE (Zc0 _ _ _ g8) rfl rfl) ?_
  refine zz ?_
  refine cnd h (fun hb9 h => ?_) fun hb9 h => ?_
  ·
   refine AW.cond rfl (fun hn => absurd ((not_t hb9).symm.trans hn) (by decide)) (fun _ => ?_)
   refine zz ?_
   refine AW.ret ?_
   rw [← Option.some.inj h]
   exact ⟨[C.bool true], _, Ghost.refl _, (.cons (.tmp rfl) .nil), [], _, _, rfl, ⟨rfl, rfl⟩⟩
  refine AW.cond rfl (fun _ => ?_) (fun hn => absurd ((not_f hb9).symm.trans hn) (by decide))
  refine zz ?_
  refine AW.ret ?_
  rw [← Option.some.inj h]
  exact ⟨[C.bool false], _, Ghost.refl _, (.cons (.tmp rfl) .nil), [], _, _, rfl, ⟨rfl, rfl⟩⟩
 refine AW.cond rfl (fun _ => ?_) (fun hn => absurd ((not_f hb6).symm.trans hn) (by decide))
 refine zz ?_
 refine AW.ret ?_
 rw [← Option.some.inj h]
 exact ⟨[C.bool false], _, Ghost.refl _, (.cons (.tmp rfl) .nil), [], _, _, rfl, ⟨rfl, rfl⟩⟩

def Z9y (p0 : TGraph) (p1 : Int) : Option Bool := (Z7y p0 1048576).bind fun r2 => cond (decide (r2 < 0)) (some true) ((Z1w p0).bind fun r5 => (Z8q r5 p1).bind fun r7 => (Z1w p0).bind fun r9 => (Z7e r9 p1).bind fun r12 => cond (r12 != r7) (some false) ((Z1w p0).bind fun r15 => (Z7v r9 r15).bind fun r17 => cond r17 (some true) (some false)))
theorem Zd8 (p0 : TGraph) (p1 : Int) (r : Bool) (h : Z9y p0 p1 = some r) : Ok Tryz.prog 6 [C.agg [C.int p0.room, C.im kEvent 9 p0.events, C.im kEvent 9 p0.parked], C.int p1] [] (fun c qs => c = C.bool r ∧ qs = []) := by
 refine Ok.of_body (rs := [.tmp 4]) Tryz.func6 rfl rfl rfl rfl rfl fun X => ?_
 unfold Z9y at h
 refine zz ?_
 refine Ops.h (ns := []) rfl rfl (op_boxA rfl rfl) ?_
 rintro _ _ ⟨b1, rfl, rfl⟩
 refine zz ?_
 refine Ops.v rfl (op_loadA (p := 0) (ds := [C.int p0.room, C.im kEvent 9 p0.events, C.im kEvent 9 p0.parked]) ld_24.h rfl rfl rfl rfl rfl) ?_
 refine zz ?_
 refine ob' h fun r2 g3 h => ?_
 refine Ops.hd (ns := []) rfl rfl (op_callE (Zdd _ _ _ g3) rfl rfl) ?_
 refine zz ?_
 refine cnd h (fun hb4 h => ?_) fun hb4 h => ?_
 ·
  refine AW.ct hb4 rfl ?_
  refine zz ?_
  refine AW.ret ?_
  rw [← Option.some.inj h]
  exact ⟨[C.bool true], _, Ghost.refl _, (.cons (.tmp rfl) .nil), [], _, _, rfl, ⟨rfl, rfl⟩⟩
 refine AW.cf hb4 rfl ?_
 refine zz ?_
 refine Ops.v rfl (op_loadA (p := 0) (ds := [C.int p0.room, C.im kEvent 9 p0.events, C.im kEvent 9 p0.parked]) ld_24.h rfl rfl rfl rfl rfl) ?_
 refine ob' h fun r5 g6 h => ?_
 refine Ops.hd (ns := []) rfl rfl (op_callE (Z85' _ _ g6) rfl rfl) ?_
 refine zz ?_
 refine ob' h fun r7 g8 h => ?_
 refine Ops.hd (ns := []) rfl rfl (op_callE (Ze7 _ _ _ g8) rfl rfl) ?_
 refine zz ?_
 refine Ops.v rfl (op_loadA (p := 0) (ds := [C.int p0.room, C.im kEvent 9 p0.events, C.im kEvent 9 p0.parked]) ld_24.h rfl rfl rfl rfl rfl) ?_
 refine ob' h fun r9 g10 h => ?_
 refine Ops.hd (ns := []) rfl rfl (op_callE (Z85' _ _ g10) rfl rfl) ?_
 refine Ops.h (ns := []) rfl rfl (op_alloc (cs := [C.int 0, C.val (.slice none 0 0), C.val (.slice none 0 0)]) ze_30 (cells_zero rfl rfl) rfl) ?_
 rintro _ _ ⟨b11, rfl, rfl⟩
 refine Ops.hd (ns := [0]) rfl rfl (op_storeA (gs := [C.int r9.room, C.im kEvent 9 r9.events, C.im kEvent 9 r9.parked]) ld_30.h rfl rfl rfl rfl rfl) ?_
 refine zz ?_
 refine Ops.v rfl (op_loadA (p := 0) (ds := [C.int r9.room, C.im kEvent 9 r9.events, C.im kEvent 9 r9.parked]) ld_30.h rfl rfl rfl rfl rfl) ?_
 refine zz ?_
 refine ob' h fun r12 g13 h => ?_
 refine Ops.hd (ns := []) rfl rfl (op_callE (Zcw _ _ _ g13) rfl rfl) ?_
 refine zz ?_
 refine cnd h (fun hb14 h => ?_) fun hb14 h => ?_
 ·
  refine AW.ct hb14 rfl ?_
  refine zz ?_
  refine AW.ret ?_
  rw [← Option.some.inj h]
  exact ⟨[C.bool false], _, Ghost.refl _, (.cons (.tmp rfl) .nil), [], _, _, rfl, ⟨rfl, rfl⟩⟩
 refine AW.cf hb14 rfl ?_
 refine zz ?_
 refine AW.regionD (L := [0, 1]) (Lt := []) (k := .light 0 true (.light 1 true (.one 2 (.one 3 (.light 4 false .done))))) (ns := [0, 0]) (by kernel_rfl) (by kernel_rfl) (by kernel_rfl) (by kernel_rfl) rfl ?_
 refine OpsD.v rfl rfl (op_loadA (p := 0) (ds := [C.int r9.room, C.im kEvent 9 r9.events, C.im kEvent 9 r9.parked]) ld_30.h rfl rfl rfl rfl rfl) ?_
 refine OpsD.v rfl rfl (op_loadA (p := 1) (ds := [C.int p0.room, C.im kEvent 9 p0.events, C.im kEvent 9 p0.parked]) ld_24.h rfl rfl rfl rfl rfl) ?_
 refine zz ?_
 refine ob' h fun r15 g16 h => ?_
 refine StepD.h (ns := []) rfl rfl rfl (op_callE (Z85' _ _ g16) rfl rfl) ?_
 rintro _ _ ⟨rfl, rfl⟩
 refine zz ?_
 refine ob' h fun r17 g18 h => ?_
 refine StepD.h (ns := []) rfl rfl rfl (op_callE (Zda _ _ _ g18) rfl rfl) ?_
 rintro _ _ ⟨rfl, rfl⟩
 refine zz ?_
 refine cnd h (fun hb19 h => ?_) fun hb19 h => ?_
 ·
  refine AW.cond rfl (fun hn => absurd ((not_t hb19).symm.trans hn) (by decide)) (fun _ => ?_)
  refine zz ?_
  refine AW.ret ?_
  rw [← Option.some.inj h]
  exact ⟨[C.bool true], _, Ghost.refl _, (.cons (.tmp rfl) .nil), [], _, _, rfl, ⟨rfl, rfl⟩⟩
 refine AW.cond rfl (fun _ => ?_) (fun hn => absurd ((not_f hb19).symm.trans hn) (by decide))
 refine zz ?_
 refine AW.ret ?_
 rw [← Option.some.inj h]
 exact ⟨[C.bool false], _, Ghost.refl _, (.cons (.tmp rfl) .nil), [], _, _, rfl, ⟨rfl, rfl⟩⟩

end Go.Proofs.YtnndihmamfomcaaGreat
