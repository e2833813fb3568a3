/- Printed by gen.py: plain functions for Go functions, and that the walks keep to them. -/
import Derived.Test.YtnndihmamfomcaaGreatCQ4
set_option autoImplicit false
set_option linter.unusedVariables false
set_option linter.unusedSimpArgs false
set_option maxRecDepth 100000
namespace Go.Proofs.YtnndihmamfomcaaGreat
open Go Go.Abs
attribute [local irreducible] AW Ops OpsD StepD
def Z33 (r13 : TEvent × Bool) (x27 : Int) : Option TEventOut := some (TEventOut.mk (TEvent.mk 0 r13.1.room r13.1.author r13.1.kind r13.1.key x27 ByteArray.empty [] 0) 0)
def Z54 (r13 : TEvent × Bool) (x24 : Bool) : Option TEventOut := cond x24 (some (TEventOut.mk (TEvent.mk 0 0 0 0 0 0 ByteArray.empty [] 0) 10)) (cond (r13.1.n == 2) (Z33 r13 4) (Z33 r13 2))
def Z55 (p1 : Int) (r6 : THistory) (r13 : TEvent × Bool) (x17 : Bool) : Option TEventOut := cond x17 (some (TEventOut.mk (TEvent.mk 0 0 0 0 0 0 ByteArray.empty [] 0) 6)) (cond (r13.1.kind == 3) ((Zl r6.graph (Option.getD (mget r6.before p1) ([] : List TEntry)) r13.1.key).bind fun r21 => Z33 r13 r21) (cond (r13.1.kind != 2) (Z54 r13 true) (Z54 r13 (r13.1.key == r13.1.author))))
def Z32 (p0 : TGraph') (p1 : Int) : Option TEventOut := (Z6y p0).bind fun r3 => cond r3 ((Z7e p0).bind fun r6 => (Ze r6.graph p1).bind fun r13 => cond r13.2 (Z55 p1 r6 r13 ((Option.getD (mget r6.refused p1) 0) != 0)) (Z55 p1 r6 r13 true)) (some (TEventOut.mk (TEvent.mk 0 0 0 0 0 0 ByteArray.empty [] 0) 1))
set_option maxHeartbeats 1000000 in
theorem Z9p (p0 : TGraph') (p1 : Int) (r : TEventOut) (h : Z32 p0 p1 = some r) : Ok Tryz.prog 21 [C.agg [C.int p0.room, C.im kEvent 9 p0.events, C.im kEvent 9 p0.parked], C.int p1] [] (fun c qs => ∃ (v28 : Value), c = C.agg [C.int r.event.id, C.int r.event.room, C.int r.event.author, C.int r.event.kind, C.int r.event.key, C.int r.event.n, C.str r.event.text, C.val v28, C.int r.event.time, C.int r.code] ∧ qs = [Obj.arr v28 2 kI64 1 r.event.prev]) := by
 refine Ok.of_body (rs := [.cell 4 40]) Tryz.func21 rfl rfl rfl rfl rfl fun X => ?_
 unfold Z32 at h
 refine zz ?_
 refine Ops.h (ns := []) rfl rfl (op_boxA rfl rfl) ?_
 rintro _ _ ⟨b1, rfl, rfl⟩
 refine Ops.h (ns := []) rfl rfl (op_alloc (cs := [C.int 0, C.int 0, C.int 0, C.int 0, C.int 0, C.int 0, C.str ByteArray.empty, C.val (.slice none 0 0), C.int 0, C.int 0]) ze_40 (cells_zero rfl rfl) rfl) ?_
 rintro _ _ ⟨b2, rfl, rfl⟩
 refine zz ?_
 refine Ops.v rfl (op_loadA (p := 1) (ds := [C.int p0.room, C.im kEvent 9 p0.events, C.im kEvent 9 p0.parked]) ld_30.h rfl rfl rfl rfl rfl) ?_
 refine ob' h fun r3 g4 h => ?_
 refine Ops.hd (ns := []) rfl rfl (op_callE (Zc3 _ _ g4) rfl rfl) ?_
 refine zz ?_
 refine cnd h (fun hb5 h => ?_) fun hb5 h => ?_
 ·
  refine AW.cond rfl (fun hn => absurd ((not_t hb5).symm.trans hn) (by decide)) (fun _ => ?_)
  refine zz ?_
  refine Ops.v rfl (op_loadA (p := 1) (ds := [C.int p0.room, C.im kEvent 9 p0.events, C.im kEvent 9 p0.parked]) ld_30.h rfl rfl rfl rfl rfl) ?_
  refine ob' h fun r6 g7 h => ?_
  refine Ops.h (ns := []) rfl rfl (op_call (Zci _ _ g7) rfl rfl) ?_
  rintro _ _ ⟨_, ⟨b8, b9, b10, b11, b12, rfl, rfl⟩, rfl⟩
  refine zz ?_
  refine Ops.v rfl (op_nilCheck rfl rfl) ?_
  refine zz ?_
  refine Ops.v rfl (op_loadA (p := 0) (ds := [C.int r6.graph.room, C.im kEvent 9 r6.graph.events, C.im kEvent 9 r6.graph.parked]) ld_30.h rfl rfl rfl rfl rfl) ?_
  refine zz ?_
  refine ob' h fun r13 g14 h => ?_
  refine Ops.hd (ns := []) rfl rfl (op_callE (Z3j _ _ _ g14) rfl rfl) ?_
  refine zz ?_
  iterate 2 refine Ops.v rfl (op_extract rfl rfl rfl) ?_
  refine Ops.h (ns := []) rfl rfl (op_alloc (cs := [C.int 0, C.int 0, C.int 0, C.int 0, C.int 0, C.int 0, C.str ByteArray.empty, C.val (.slice none 0 0), C.int 0]) ze_38 (cells_zero rfl rfl) rfl) ?_
  rintro _ _ ⟨b15, rfl, rfl⟩
  refine Ops.hd (ns := [0]) rfl rfl (op_storeA (gs := [C.int r13.1.id, C.int r13.1.room, C.int r13.1.author, C.int r13.1.kind, C.int r13.1.key, C.int r13.1.n, C.str r13.1.text, C.im kI64 1 r13.1.prev, C.int r13.1.time]) ld_38.h rfl rfl rfl rfl rfl) ?_
  refine Ops.v rfl (op_assign rfl rfl) ?_
  refine Ops.nil ?_
  refine AW.seq ?_
  refine AW.seq ?_
  refine AW.cut (τ := Bool) (fun x17 => ⟨[(1, C.int p1), (4, C.val (.pointer (some ⟨b2, 0, none⟩))), (5, C.val (.pointer (some ⟨b8, 0, none⟩))), (6, C.val (.pointer (some ⟨b15, 0, none⟩))), (34, C.bool x17)], [Obj.box b2 40 [C.int 0, C.int 0, C.int 0, C.int 0, C.int 0, C.int 0, C.str ByteArray.empty, C.val (.slice none 0 0), C.int 0, C.int 0], Obj.box b8 84 [C.int r6.graph.room, C.im kEvent 9 r6.graph.events, C.im kEvent 9 r6.graph.parked, C.val (.map (some b9)), C.val (.map (some b10)), C.val (.map (some b11)), C.val (.map (some b12))], Abs.Obj.map b9 .i64 mcI64 r6.depth, Abs.Obj.map b10 .i64 mcEntryS r6.before, Abs.Obj.map b11 .i64 mcEntryS r6.after, Abs.Obj.map b12 .i64 mcI64 r6.refused, Obj.box b15 38 [C.int r13.1.id, C.int r13.1.room, C.int r13.1.author, C.int r13.1.kind, C.int r13.1.key, C.int r13.1.n, C.str r13.1.text, C.im kI64 1 r13.1.prev, C.int r13.1.time]]⟩) (fun x17 => Z55 p1 r6 r13 x17 = some r) ?_ ?_
  ·
   refine zz ?_
   refine cnd h (fun hb16 h => ?_) fun hb16 h => ?_
   ·
    refine Ops.gv rfl rfl rfl rfl (not_t hb16) (op_move rfl rfl) ?_
    refine Ops.gv rfl rfl rfl rfl (not_t hb16) (op_nilCheck rfl rfl) ?_
    refine Ops.gv rfl rfl rfl rfl (not_t hb16) (op_fieldAddr fo_84_4.h rfl rfl) ?_
    refine Ops.gv rfl rfl rfl rfl (not_t hb16) (op_load (p := 1) ld_81.h rfl rfl rfl rfl) ?_
    refine Ops.gv rfl rfl rfl rfl (not_t hb16) (op_move rfl rfl) ?_
    refine Ops.gv rfl rfl rfl rfl (not_t hb16) (op_lookup (p := 5) (kc := mcI64) (z0 := 0) mi_81 zv_2 (fun _ _ => rfl) rfl rfl rfl rfl) ?_
    refine Ops.gv rfl rfl rfl rfl (not_t hb16) (op_bin rfl rfl rfl rfl) ?_
    refine Ops.v rfl (op_pick_f rfl (not_t hb16) rfl rfl) ?_
    refine zz ?_
    exact ⟨((Option.getD (mget r6.refused p1) 0) != 0), h, Ghost.both (ns := [6, 1, 1, 1, 1, 1, 0]) rfl rfl⟩
   iterate 7 refine Ops.gs rfl rfl rfl (.b rfl (not_f hb16)) rfl rfl ?_
   refine Ops.v rfl (op_pick_t rfl (not_f hb16) rfl rfl) ?_
   refine zz ?_
   exact ⟨true, h, Ghost.both (ns := [6, 1, 1, 1, 1, 1, 0]) rfl rfl⟩
  intro x17 h
  replace h : Z55 p1 r6 r13 x17 = some r := h
  unfold Z55 at h
  refine cnd h (fun hb18 h => ?_) fun hb18 h => ?_
  ·
   refine AW.ct hb18 rfl ?_
   refine zz ?_
   refine Ops.v rfl (op_build (ds := [C.int 0, C.int 0, C.int 0, C.int 0, C.int 0, C.int 0, C.str ByteArray.empty, C.val (.slice none 0 0), C.int 0, C.int 6]) pl_40 ze_40 (cells_zero rfl rfl) (.one rfl (One.val rfl) rfl rfl .nil) rfl) ?_
   refine Ops.hd (ns := [0]) rfl rfl (op_storeA (gs := [C.int 0, C.int 0, C.int 0, C.int 0, C.int 0, C.int 0, C.str ByteArray.empty, C.val (.slice none 0 0), C.int 0, C.int 6]) ld_40.h rfl rfl rfl rfl rfl) ?_
   refine zz ?_
   refine AW.ret ?_
   rw [← Option.some.inj h]
   exact ⟨[C.agg [C.int 0, C.int 0, C.int 0, C.int 0, C.int 0, C.int 0, C.str ByteArray.empty, C.val (.slice none 0 0), C.int 0, C.int 6]], _, Ghost.nil 2 kI64 1, (.cons (.cell (p := 1) rfl rfl ld_40.h rfl) .nil), [0], _, _, rfl, ⟨(.slice none 0 0), rfl, rfl⟩⟩
  refine AW.cf hb18 rfl ?_
  refine zz ?_
  refine Ops.v rfl (op_load (p := 6) ld_2.h rfl rfl rfl rfl) ?_
  refine zz ?_
  refine Ops.v rfl (op_load (p := 6) ld_2.h rfl rfl rfl rfl) ?_
  refine zz ?_
  refine Ops.v rfl (op_load (p := 6) ld_2.h rfl rfl rfl rfl) ?_
  refine zz ?_
  refine Ops.v rfl (op_load (p := 6) ld_2.h rfl rfl rfl rfl) ?_
  refine Ops.v rfl (op_build (ds := [C.int 0, C.int r13.1.room, C.int r13.1.author, C.int r13.1.kind, C.int r13.1.key, C.int 2, C.str ByteArray.empty, C.val (.slice none 0 0), C.int 0]) pl_38 ze_38 (cells_zero rfl rfl) (.one rfl (One.val rfl) rfl rfl (.one rfl (One.val rfl) rfl rfl (.one rfl (One.val rfl) rfl rfl (.one rfl (One.val rfl) rfl rfl (.one rfl (One.val rfl) rfl rfl .nil))))) rfl) ?_
  refine Ops.h (ns := []) rfl rfl (op_alloc (cs := [C.int 0, C.int 0, C.int 0, C.int 0, C.int 0, C.int 0, C.str ByteArray.empty, C.val (.slice none 0 0), C.int 0]) ze_38 (cells_zero rfl rfl) rfl) ?_
  rintro _ _ ⟨b19, rfl, rfl⟩
  refine Ops.hd (ns := [0]) rfl rfl (op_storeA (gs := [C.int 0, C.int r13.1.room, C.int r13.1.author, C.int r13.1.kind, C.int r13.1.key, C.int 2, C.str ByteArray.empty, C.val (.slice none 0 0), C.int 0]) ld_38.h rfl rfl rfl rfl rfl) ?_
  refine Ops.nil ?_
  refine AW.seq ?_
  refine AW.cut (τ := Int) (fun x27 => ⟨[(4, C.val (.pointer (some ⟨b2, 0, none⟩))), (8, C.val (.pointer (some ⟨b19, 0, none⟩)))], [Obj.box b2 40 [C.int 0, C.int 0, C.int 0, C.int 0, C.int 0, C.int 0, C.str ByteArray.empty, C.val (.slice none 0 0), C.int 0, C.int 0], Obj.box b19 38 [C.int 0, C.int r13.1.room, C.int r13.1.author, C.int r13.1.kind, C.int r13.1.key, C.int x27, C.str ByteArray.empty, C.val (.slice none 0 0), C.int 0]]⟩) (fun x27 => Z33 r13 x27 = some r) ?_ ?_
  ·
   refine zz ?_
   refine Ops.v rfl (op_load (p := 7) ld_2.h rfl rfl rfl rfl) ?_
   refine zz ?_
   refine cnd h (fun hb20 h => ?_) fun hb20 h => ?_
   ·
    refine AW.ct hb20 rfl ?_
    refine AW.regionD (L := [3, 7, 9, 11]) (Lt := [14]) (k := .light 0 false (.light 1 false (.light 2 false (.light 3 true (.light 4 false (.light 5 false (.light 6 false (.light 7 true (.light 8 false (.light 9 true (.light 10 false (.light 11 true (.one 12 (.light 13 false (.late 14 (.done)))))))))))))))) (ns := [0, 0, 0, 0, 0, 0, 0, 0]) (by kernel_rfl) (by kernel_rfl) (by kernel_rfl) (by kernel_rfl) rfl ?_
    refine zz ?_
    refine OpsD.v rfl rfl (op_nilCheck rfl rfl) ?_
    refine zz ?_
    refine OpsD.v rfl rfl (op_loadA (p := 2) (ds := [C.int r6.graph.room, C.im kEvent 9 r6.graph.events, C.im kEvent 9 r6.graph.parked]) ld_30.h rfl rfl rfl rfl rfl) ?_
    refine zz ?_
    refine OpsD.v rfl rfl (op_nilCheck rfl rfl) ?_
    refine zz ?_
    refine OpsD.v rfl rfl (op_lookup (p := 4) (kc := mcEntryS) (z0 := ([] : List TEntry)) mi_82 zv_49 (fun w F => Imp.nil kEntry 3 w F _ rfl) rfl rfl rfl rfl) ?_
    refine zz ?_
    refine OpsD.v rfl rfl (op_load (p := 7) ld_2.h rfl rfl rfl rfl) ?_
    refine zz ?_
    refine ob' h fun r21 g22 h => ?_
    refine StepD.h (ns := []) rfl rfl rfl (op_callE (Z9n _ _ _ _ g22) rfl rfl) ?_
    rintro _ _ ⟨rfl, rfl⟩
    refine zz ?_
    refine OpsD.late (ns := [0]) rfl rfl rfl (op_store (gs := [C.int 0, C.int r13.1.room, C.int r13.1.author, C.int r13.1.kind, C.int r13.1.key, C.int r21, C.str ByteArray.empty, C.val (.slice none 0 0), C.int 0]) ld_2.h rfl rfl (One.val rfl) rfl rfl) ?_
    rintro _ _ ⟨rfl, rfl⟩
    refine zz ?_
    exact ⟨r21, h, Ghost.both (ns := [1, 0]) rfl rfl⟩
   refine AW.cf hb20 rfl ?_
   refine AW.seq ?_
   refine AW.cut (τ := Bool) (fun x24 => ⟨[(4, C.val (.pointer (some ⟨b2, 0, none⟩))), (6, C.val (.pointer (some ⟨b15, 0, none⟩))), (8, C.val (.pointer (some ⟨b19, 0, none⟩))), (63, C.bool x24)], [Obj.box b2 40 [C.int 0, C.int 0, C.int 0, C.int 0, C.int 0, C.int 0, C.str ByteArray.empty, C.val (.slice none 0 0), C.int 0, C.int 0], Obj.box b15 38 [C.int r13.1.id, C.int r13.1.room, C.int r13.1.author, C.int r13.1.kind, C.int r13.1.key, C.int r13.1.n, C.str r13.1.text, C.im kI64 1 r13.1.prev, C.int r13.1.time], Obj.box b19 38 [C.int 0, C.int r13.1.room, C.int r13.1.author, C.int r13.1.kind, C.int r13.1.key, C.int 2, C.str ByteArray.empty, C.val (.slice none 0 0), C.int 0]]⟩) (fun x24 => Z54 r13 x24 = some r) ?_ ?_
   ·
    refine zz ?_
    refine Ops.v rfl (op_load (p := 7) ld_2.h rfl rfl rfl rfl) ?_
    refine zz ?_
    refine cnd h (fun hb23 h => ?_) fun hb23 h => ?_
    ·
     refine zz ?_
     exact ⟨true, h, Ghost.both (ns := [1, 6, 0]) rfl rfl⟩
    refine zz ?_
    refine Ops.gv rfl rfl rfl rfl hb23 (op_load (p := 7) ld_2.h rfl rfl rfl rfl) ?_
    refine zz ?_
    refine Ops.gv rfl rfl rfl rfl hb23 (op_load (p := 7) ld_2.h rfl rfl rfl rfl) ?_
    refine zz ?_
    exact ⟨(r13.1.key == r13.1.author), h, Ghost.both (ns := [1, 6, 0]) rfl rfl⟩
   intro x24 h
   replace h : Z54 r13 x24 = some r := h
   unfold Z54 at h
   refine cnd h (fun hb25 h => ?_) fun hb25 h => ?_
   ·
    refine AW.ct hb25 rfl ?_
    refine zz ?_
    refine Ops.v rfl (op_build (ds := [C.int 0, C.int 0, C.int 0, C.int 0, C.int 0, C.int 0, C.str ByteArray.empty, C.val (.slice none 0 0), C.int 0, C.int 10]) pl_40 ze_40 (cells_zero rfl rfl) (.one rfl (One.val rfl) rfl rfl .nil) rfl) ?_
    refine Ops.hd (ns := [0]) rfl rfl (op_storeA (gs := [C.int 0, C.int 0, C.int 0, C.int 0, C.int 0, C.int 0, C.str ByteArray.empty, C.val (.slice none 0 0), C.int 0, C.int 10]) ld_40.h rfl rfl rfl rfl rfl) ?_
    refine zz ?_
    refine AW.ret ?_
    rw [← Option.some.inj h]
    exact ⟨[C.agg [C.int 0, C.int 0, C.int 0, C.int 0, C.int 0, C.int 0, C.str ByteArray.empty, C.val (.slice none 0 0), C.int 0, C.int 10]], _, Ghost.nil 2 kI64 1, (.cons (.cell (p := 1) rfl rfl ld_40.h rfl) .nil), [0], _, _, rfl, ⟨(.slice none 0 0), rfl, rfl⟩⟩
   refine AW.cf hb25 rfl ?_
   refine zz ?_
   refine cnd h (fun hb26 h => ?_) fun hb26 h => ?_
   ·
    refine AW.ct hb26 rfl ?_
    refine zz ?_
    refine Ops.hd (ns := [2]) rfl rfl (op_store (gs := [C.int 0, C.int r13.1.room, C.int r13.1.author, C.int r13.1.kind, C.int r13.1.key, C.int 4, C.str ByteArray.empty, C.val (.slice none 0 0), C.int 0]) ld_2.h rfl rfl (One.val rfl) rfl rfl) ?_
    refine zz ?_
    exact ⟨4, h, Ghost.both (ns := [1, 0]) rfl rfl⟩
   refine AW.cf hb26 rfl ?_
   refine zz ?_
   exact ⟨2, h, Ghost.both (ns := [0, 1]) rfl rfl⟩
  intro x27 h
  replace h : Z33 r13 x27 = some r := h
  unfold Z33 at h
  refine zz ?_
  refine Ops.v rfl (op_loadA (p := 1) (ds := [C.int 0, C.int r13.1.room, C.int r13.1.author, C.int r13.1.kind, C.int r13.1.key, C.int x27, C.str ByteArray.empty, C.val (.slice none 0 0), C.int 0]) ld_38.h rfl rfl rfl rfl rfl) ?_
  refine Ops.v rfl (op_build (ds := [C.int 0, C.int r13.1.room, C.int r13.1.author, C.int r13.1.kind, C.int r13.1.key, C.int x27, C.str ByteArray.empty, C.val (.slice none 0 0), C.int 0, C.int 0]) pl_40 ze_40 (cells_zero rfl rfl) (.agg rfl rfl rfl .nil) rfl) ?_
  refine Ops.hd (ns := [0]) rfl rfl (op_storeA (gs := [C.int 0, C.int r13.1.room, C.int r13.1.author, C.int r13.1.kind, C.int r13.1.key, C.int x27, C.str ByteArray.empty, C.val (.slice none 0 0), C.int 0, C.int 0]) ld_40.h rfl rfl rfl rfl rfl) ?_
  refine zz ?_
  refine AW.ret ?_
  rw [← Option.some.inj h]
  exact ⟨[C.agg [C.int 0, C.int r13.1.room, C.int r13.1.author, C.int r13.1.kind, C.int r13.1.key, C.int x27, C.str ByteArray.empty, C.val (.slice none 0 0), C.int 0, C.int 0]], _, Ghost.nil 2 kI64 1, (.cons (.cell (p := 1) rfl rfl ld_40.h rfl) .nil), [0], _, _, rfl, ⟨(.slice none 0 0), rfl, rfl⟩⟩
 refine AW.cond rfl (fun _ => ?_) (fun hn => absurd ((not_f hb5).symm.trans hn) (by decide))
 refine zz ?_
 refine Ops.v rfl (op_build (ds := [C.int 0, C.int 0, C.int 0, C.int 0, C.int 0, C.int 0, C.str ByteArray.empty, C.val (.slice none 0 0), C.int 0, C.int 1]) pl_40 ze_40 (cells_zero rfl rfl) (.one rfl (One.val rfl) rfl rfl .nil) rfl) ?_
 refine Ops.hd (ns := [0]) rfl rfl (op_storeA (gs := [C.int 0, C.int 0, C.int 0, C.int 0, C.int 0, C.int 0, C.str ByteArray.empty, C.val (.slice none 0 0), C.int 0, C.int 1]) ld_40.h rfl rfl rfl rfl rfl) ?_
 refine zz ?_
 refine AW.ret ?_
 rw [← Option.some.inj h]
 exact ⟨[C.agg [C.int 0, C.int 0, C.int 0, C.int 0, C.int 0, C.int 0, C.str ByteArray.empty, C.val (.slice none 0 0), C.int 0, C.int 1]], _, Ghost.nil 2 kI64 1, (.cons (.cell (p := 1) rfl rfl ld_40.h rfl) .nil), [0], _, _, rfl, ⟨(.slice none 0 0), rfl, rfl⟩⟩
theorem Z9p' (p0 : TGraph') (p1 : Int) (r : TEventOut) (h : Z32 p0 p1 = some r) : Ok Tryz.prog 21 [C.agg [C.int p0.room, C.im kEvent 9 p0.events, C.im kEvent 9 p0.parked], C.int p1] [] (fun c qs => c = C.agg [C.int r.event.id, C.int r.event.room, C.int r.event.author, C.int r.event.kind, C.int r.event.key, C.int r.event.n, C.str r.event.text, C.im kI64 1 r.event.prev, C.int r.event.time, C.int r.code] ∧ qs = []) :=
  Ok.freeze (Z9p p0 p1 r h) (by rintro c qs ⟨v28, rfl, rfl⟩; exact Frz.agg (FrzL.cons (os := []) (Frz.same _) (FrzL.cons (os := []) (Frz.same _) (FrzL.cons (os := []) (Frz.same _) (FrzL.cons (os := []) (Frz.same _) (FrzL.cons (os := []) (Frz.same _) (FrzL.cons (os := []) (Frz.same _) (FrzL.cons (os := []) (Frz.same _) (FrzL.cons (os := [_]) (Frz.arr) (FrzL.cons (os := []) (Frz.same _) (FrzL.cons (os := []) (Frz.same _) (FrzL.nil))))))))))))

def Z9f : Option Bool := some true
def Z3e (p0 : List Int) (p1 : List Int) (x8 : Int) : Option (Int ⊕ (Bool ⊕ Unit)) := cond (decide (x8 < (p0.length : Int))) ((getI p0 x8).bind fun e10 => (getI p1 x8).bind fun e12 => cond (e10 != e12) (some (.inr (.inl false))) (some (.inl (IntKind.i64.wrap (x8 + 1))))) (some (.inr (.inr ())))
def Z7i (p0 : List Int) (p1 : List Int) : Option Bool := cond ((p0.length : Int) != (p1.length : Int)) (some false) ((iter (Z3e p0 p1) big 0).bind (fun z16 => match z16 with | .inl y15 => some y15 | .inr () => Z9f))
theorem Zcl (p0 : List Int) (p1 : List Int) (r : Bool) (h : Z7i p0 p1 = some r) : Ok Tryz.prog 13 [C.im kI64 1 p0, C.im kI64 1 p1] [] (fun c qs => c = C.bool r ∧ qs = []) := by
 refine Ok.of_body (rs := [.tmp 4]) Tryz.func13 rfl rfl rfl rfl rfl fun X => ?_
 unfold Z7i at h
 refine zz ?_
 refine cnd h (fun hb1 h => ?_) fun hb1 h => ?_
 ·
  refine AW.ct hb1 rfl ?_
  refine zz ?_
  refine AW.ret ?_
  rw [← Option.some.inj h]
  exact ⟨[C.bool false], _, Ghost.refl _, (.cons (.tmp rfl) .nil), [], _, _, rfl, ⟨rfl, rfl⟩⟩
 refine AW.cf hb1 rfl ?_
 refine AW.skip ?_
 refine AW.seq ?_
 refine AW.cut (τ := Unit) (fun (_ : Unit) => ⟨[], []⟩) (fun (_ : Unit) => Z9f = some r) ?_ ?_
 ·
  refine zz ?_
  refine ob' h fun o17 g18 q19 => ?_
  refine AW.loop (τ := Int) (x := 0) (fun x8 => ⟨[(0, C.im kI64 1 p0), (1, C.im kI64 1 p1), (5, C.int x8)], []⟩) (fun k x8 => iter (Z3e p0 p1) k x8 = some o17) g18 (Ghost.both (ns := []) rfl rfl) ?_
  intro k x8 i21
  refine iter_succ' (show iter (Z3e p0 p1) k x8 = some o17 from i21) fun k20 y22 hlt_k20 h h23 => ?_
  replace h : Z3e p0 p1 x8 = some y22 := h
  unfold Z3e at h
  refine zz ?_
  refine cnd h (fun hb9 h => ?_) fun hb9 h => ?_
  ·
   refine AW.ct hb9 rfl ?_
   refine zz ?_
   refine AW.regionD (L := [3, 7]) (Lt := []) (k := .light 0 false (.light 1 false (.light 2 false (.light 3 true (.light 4 false (.light 5 false (.light 6 false (.light 7 true (.light 8 false .done))))))))) (ns := []) (by kernel_rfl) (by kernel_rfl) (by kernel_rfl) (by kernel_rfl) rfl ?_
   refine zz ?_
   refine ob' h fun e10 g11 h => ?_
   refine OpsD.v rfl rfl (op_indexAddr_im sl_26.h rfl rfl g11 rfl) ?_
   refine OpsD.v rfl rfl (op_load_ip ld_2.h rfl rfl) ?_
   refine zz ?_
   refine ob' h fun e12 g13 h => ?_
   refine OpsD.v rfl rfl (op_indexAddr_im sl_26.h rfl rfl g13 rfl) ?_
   refine OpsD.v rfl rfl (op_load_ip ld_2.h rfl rfl) ?_
   refine zz ?_
   refine cnd h (fun hb14 h => ?_) fun hb14 h => ?_
   ·
    refine AW.ct hb14 rfl ?_
    refine zz ?_
    refine AW.ret ?_
    obtain rfl := Option.some.inj h
    obtain rfl := Option.some.inj h23
    replace h := q19
    rw [← Option.some.inj h]
    exact ⟨[C.bool false], _, Ghost.refl _, (.cons (.tmp rfl) .nil), [], _, _, rfl, ⟨rfl, rfl⟩⟩
   refine AW.cf hb14 rfl ?_
   refine zz ?_
   obtain rfl := Option.some.inj h
   exact ⟨k20, (IntKind.i64.wrap (x8 + 1)), hlt_k20, h23, Ghost.both (ns := []) rfl rfl⟩
  refine AW.cf hb9 rfl ?_
  refine AW.exit ?_
  obtain rfl := Option.some.inj h
  obtain rfl := Option.some.inj h23
  replace h := q19
  exact ⟨(), h, Ghost.both (ns := []) rfl rfl⟩
 rintro ⟨⟩ h
 replace h : Z9f = some r := h
 unfold Z9f at h
 refine zz ?_
 refine AW.ret ?_
 rw [← Option.some.inj h]
 exact ⟨[C.bool true], _, Ghost.refl _, (.cons (.tmp rfl) .nil), [], _, _, rfl, ⟨rfl, rfl⟩⟩

def Z5h (p0 : TEvent) (p1 : TEvent) : Option Bool := cond (p0.id != p1.id) (some false) (cond (p0.room != p1.room) (some false) (cond (p0.author != p1.author) (some false) (cond (p0.kind != p1.kind) (some false) (cond (p0.key != p1.key) (some false) (cond (p0.n != p1.n) (some false) (cond (p0.text.toList == p1.text.toList) ((Z7i p0.prev p1.prev).bind fun r10 => cond r10 (cond (p0.time != p1.time) (some false) (some true)) (some false)) (some false)))))))
set_option maxHeartbeats 1000000 in
theorem Zbe (p0 : TEvent) (p1 : TEvent) (r : Bool) (h : Z5h p0 p1 = some r) : Ok Tryz.prog 69 [C.agg [C.int p0.id, C.int p0.room, C.int p0.author, C.int p0.kind, C.int p0.key, C.int p0.n, C.str p0.text, C.im kI64 1 p0.prev, C.int p0.time], C.agg [C.int p1.id, C.int p1.room, C.int p1.author, C.int p1.kind, C.int p1.key, C.int p1.n, C.str p1.text, C.im kI64 1 p1.prev, C.int p1.time]] [] (fun c qs => c = C.bool r ∧ qs = []) := by
 refine Ok.of_body (rs := [.tmp 4]) Tryz.func69 rfl rfl rfl rfl rfl fun X => ?_
 unfold Z5h at h
 refine zz ?_
 refine Ops.h (ns := []) rfl rfl (op_boxA rfl rfl) ?_
 rintro _ _ ⟨b1, rfl, rfl⟩
 refine Ops.h (ns := []) rfl rfl (op_boxA rfl rfl) ?_
 rintro _ _ ⟨b2, rfl, rfl⟩
 refine zz ?_
 refine cnd h (fun hb3 h => ?_) fun hb3 h => ?_
 ·
  refine AW.ct hb3 rfl ?_
  refine zz ?_
  refine AW.ret ?_
  rw [← Option.some.inj h]
  exact ⟨[C.bool false], _, Ghost.refl _, (.cons (.tmp rfl) .nil), [], _, _, rfl, ⟨rfl, rfl⟩⟩
 refine AW.cf hb3 rfl ?_
 refine zz ?_
 refine cnd h (fun hb4 h => ?_) fun hb4 h => ?_
 ·
  refine AW.ct hb4 rfl ?_
  refine zz ?_
  refine AW.ret ?_
  rw [← Option.some.inj h]
  exact ⟨[C.bool false], _, Ghost.refl _, (.cons (.tmp rfl) .nil), [], _, _, rfl, ⟨rfl, rfl⟩⟩
 refine AW.cf hb4 rfl ?_
 refine zz ?_
 refine cnd h (fun hb5 h => ?_) fun hb5 h => ?_
 ·
  refine AW.ct hb5 rfl ?_
  refine zz ?_
  refine AW.ret ?_
  rw [← Option.some.inj h]
  exact ⟨[C.bool false], _, Ghost.refl _, (.cons (.tmp rfl) .nil), [], _, _, rfl, ⟨rfl, rfl⟩⟩
 refine AW.cf hb5 rfl ?_
 refine zz ?_
 refine cnd h (fun hb6 h => ?_) fun hb6 h => ?_
 ·
  refine AW.ct hb6 rfl ?_
  refine zz ?_
  refine AW.ret ?_
  rw [← Option.some.inj h]
  exact ⟨[C.bool false], _, Ghost.refl _, (.cons (.tmp rfl) .nil), [], _, _, rfl, ⟨rfl, rfl⟩⟩
 refine AW.cf hb6 rfl ?_
 refine zz ?_
 refine cnd h (fun hb7 h => ?_) fun hb7 h => ?_
 ·
  refine AW.ct hb7 rfl ?_
  refine zz ?_
  refine AW.ret ?_
  rw [← Option.some.inj h]
  exact ⟨[C.bool false], _, Ghost.refl _, (.cons (.tmp rfl) .nil), [], _, _, rfl, ⟨rfl, rfl⟩⟩
 refine AW.cf hb7 rfl ?_
 refine zz ?_
 refine cnd h (fun hb8 h => ?_) fun hb8 h => ?_
 ·
  refine AW.ct hb8 rfl ?_
  refine zz ?_
  refine AW.ret ?_
  rw [← Option.some.inj h]
  exact ⟨[C.bool false], _, Ghost.refl _, (.cons (.tmp rfl) .nil), [], _, _, rfl, ⟨rfl, rfl⟩⟩
 refine AW.cf hb8 rfl ?_
 refine zz ?_
 refine cnd h (fun hb9 h => ?_) fun hb9 h => ?_
 ·
  refine AW.cond rfl (fun hn => absurd ((not_t hb9).symm.trans hn) (by decide)) (fun _ => ?_)
  refine zz ?_
  refine ob' h fun r10 g11 h => ?_
  refine Ops.hd (ns := []) rfl rfl (op_callE (Zcl _ _ _ g11) rfl rfl) ?_
  refine zz ?_
  refine cnd h (fun hb12 h => ?_) fun hb12 h => ?_
  ·
   refine AW.cond rfl (fun hn => absurd ((not_t hb12).symm.trans hn) (by decide)) (fun _ => ?_)
   refine zz ?_
   refine cnd h (fun hb13 h => ?_) fun hb13 h => ?_
   ·
    refine AW.ct hb13 rfl ?_
    refine zz ?_
    refine AW.ret ?_
    rw [← Option.some.inj h]
    exact ⟨[C.bool false], _, Ghost.refl _, (.cons (.tmp rfl) .nil), [], _, _, rfl, ⟨rfl, rfl⟩⟩
   refine AW.cf hb13 rfl ?_
   refine zz ?_
   refine AW.ret ?_
   rw [← Option.some.inj h]
   exact ⟨[C.bool true], _, Ghost.refl _, (.cons (.tmp rfl) .nil), [], _, _, rfl, ⟨rfl, rfl⟩⟩
  refine AW.cond rfl (fun _ => ?_) (fun hn => absurd ((not_f hb12).symm.trans hn) (by decide))
  refine zz ?_
  refine AW.ret ?_
  rw [← Option.some.inj h]
  exact ⟨[C.bool false], _, Ghost.refl _, (.cons (.tmp rfl) .nil), [], _, _, rfl, ⟨rfl, rfl⟩⟩
 refine AW.cond rfl (fun _ => ?_) (fun hn => absurd ((not_f hb9).symm.trans hn) (by decide))
 refine zz ?_
 refine AW.ret ?_
 rw [← Option.some.inj h]
 exact ⟨[C.bool false], _, Ghost.refl _, (.cons (.tmp rfl) .nil), [], _, _, rfl, ⟨rfl, rfl⟩⟩

def Z5i (p0 : TEventOut) (p1 : TEventOut) : Option Bool := (Z5h p0.event p1.event).bind fun r3 => cond r3 (cond (p0.code != p1.code) (some false) (some true)) (some false)
theorem Zat (p0 : TEventOut) (p1 : TEventOut) (r : Bool) (h : Z5i p0 p1 = some r) : Ok Tryz.prog 22 [C.agg [C.int p0.event.id, C.int p0.event.room, C.int p0.event.author, C.int p0.event.kind, C.int p0.event.key, C.int p0.event.n, C.str p0.event.text, C.im kI64 1 p0.event.prev, C.int p0.event.time, C.int p0.code], C.agg [C.int p1.event.id, C.int p1.event.room, C.int p1.event.author, C.int p1.event.kind, C.int p1.event.key, C.int p1.event.n, C.str p1.event.text, C.im kI64 1 p1.event.prev, C.int p1.event.time, C.int p1.code]] [] (fun c qs => c = C.bool r ∧ qs = []) := by
 refine Ok.of_body (rs := [.tmp 4]) Tryz.func22 rfl rfl rfl rfl rfl fun X => ?_
 unfold Z5i at h
 refine zz ?_
 refine Ops.h (ns := []) rfl rfl (op_boxA rfl rfl) ?_
 rintro _ _ ⟨b1, rfl, rfl⟩
 refine Ops.h (ns := []) rfl rfl (op_boxA rfl rfl) ?_
 rintro _ _ ⟨b2, rfl, rfl⟩
 refine zz ?_
 refine Ops.v rfl (op_loadA (p := 1) (ds := [C.int p0.event.id, C.int p0.event.room, C.int p0.event.author, C.int p0.event.kind, C.int p0.event.key, C.int p0.event.n, C.str p0.event.text, C.im kI64 1 p0.event.prev, C.int p0.event.time]) ld_38.h rfl rfl rfl rfl rfl) ?_
 refine zz ?_
 refine Ops.v rfl (op_loadA (p := 0) (ds := [C.int p1.event.id, C.int p1.event.room, C.int p1.event.author, C.int p1.event.kind, C.int p1.event.key, C.int p1.event.n, C.str p1.event.text, C.im kI64 1 p1.event.prev, C.int p1.event.time]) ld_38.h rfl rfl rfl rfl rfl) ?_
 refine ob' h fun r3 g4 h => ?_
 refine Ops.hd (ns := []) rfl rfl (op_callE (Zbe _ _ _ g4) rfl rfl) ?_
 refine zz ?_
 refine cnd h (fun hb5 h => ?_) fun hb5 h => ?_
 ·
  refine AW.cond rfl (fun hn => absurd ((not_t hb5).symm.trans hn) (by decide)) (fun _ => ?_)
  refine zz ?_
  refine cnd h (fun hb6 h => ?_) fun hb6 h => ?_
  ·
   refine AW.ct hb6 rfl ?_
   refine zz ?_
   refine AW.ret ?_
   rw [← Option.some.inj h]
   exact ⟨[C.bool false], _, Ghost.refl _, (.cons (.tmp rfl) .nil), [], _, _, rfl, ⟨rfl, rfl⟩⟩
  refine AW.cf hb6 rfl ?_
  refine zz ?_
  refine AW.ret ?_
  rw [← Option.some.inj h]
  exact ⟨[C.bool true], _, Ghost.refl _, (.cons (.tmp rfl) .nil), [], _, _, rfl, ⟨rfl, rfl⟩⟩
 refine AW.cond rfl (fun _ => ?_) (fun hn => absurd ((not_f hb5).symm.trans hn) (by decide))
 refine zz ?_
 refine AW.ret ?_
 rw [← Option.some.inj h]
 exact ⟨[C.bool false], _, Ghost.refl _, (.cons (.tmp rfl) .nil), [], _, _, rfl, ⟨rfl, rfl⟩⟩

def Z9e : Option Bool := some true
def Z3d (p0 : List TEvent) (p1 : List TEvent) (x10 : Int) : Option (Int ⊕ (Bool ⊕ Unit)) := cond (decide (x10 < (p0.length : Int))) ((getI p0 x10).bind fun e12 => (getI p1 x10).bind fun e14 => (Z5h e12 e14).bind fun r16 => cond r16 (some (.inl (IntKind.i64.wrap (x10 + 1)))) (some (.inr (.inl false)))) (some (.inr (.inr ())))
def Z5j (p0 : List TEvent) (p1 : List TEvent) : Option Bool := cond ((p0.length : Int) != (p1.length : Int)) (some false) ((iter (Z3d p0 p1) big 0).bind (fun z20 => match z20 with | .inl y19 => some y19 | .inr () => Z9e))
theorem Zbf (p0 : List TEvent) (p1 : List TEvent) (r : Bool) (h : Z5j p0 p1 = some r) : Ok Tryz.prog 64 [C.im kEvent 9 p0, C.im kEvent 9 p1] [] (fun c qs => c = C.bool r ∧ qs = []) := by
 refine Ok.of_body (rs := [.tmp 4]) Tryz.func64 rfl rfl rfl rfl rfl fun X => ?_
 unfold Z5j at h
 refine zz ?_
 refine cnd h (fun hb1 h => ?_) fun hb1 h => ?_
 ·
  refine AW.ct hb1 rfl ?_
  refine zz ?_
  refine AW.ret ?_
  rw [← Option.some.inj h]
  exact ⟨[C.bool false], _, Ghost.refl _, (.cons (.tmp rfl) .nil), [], _, _, rfl, ⟨rfl, rfl⟩⟩
 refine AW.cf hb1 rfl ?_
 refine AW.skip ?_
 refine AW.seq ?_
 refine AW.cut (τ := Unit) (fun (_ : Unit) => ⟨[], []⟩) (fun (_ : Unit) => Z9e = some r) ?_ ?_
 ·
  refine zz ?_
  refine ob' h fun o21 g22 q23 => ?_
  refine AW.loop (τ := Int) (x := 0) (fun x10 => ⟨[(0, C.im kEvent 9 p0), (1, C.im kEvent 9 p1), (5, C.int x10)], []⟩) (fun k x10 => iter (Z3d p0 p1) k x10 = some o21) g22 (Ghost.both (ns := []) rfl rfl) ?_
  intro k x10 i25
  refine iter_succ' (show iter (Z3d p0 p1) k x10 = some o21 from i25) fun k24 y26 hlt_k24 h h27 => ?_
  replace h : Z3d p0 p1 x10 = some y26 := h
  unfold Z3d at h
  refine zz ?_
  refine cnd h (fun hb11 h => ?_) fun hb11 h => ?_
  ·
   refine AW.ct hb11 rfl ?_
   refine zz ?_
   refine AW.regionD (L := [3, 7]) (Lt := []) (k := .light 0 false (.light 1 false (.light 2 false (.light 3 true (.light 4 false (.light 5 false (.light 6 false (.light 7 true (.one 8 (.light 9 false .done)))))))))) (ns := []) (by kernel_rfl) (by kernel_rfl) (by kernel_rfl) (by kernel_rfl) rfl ?_
   refine zz ?_
   refine ob' h fun e12 g13 h => ?_
   refine OpsD.v rfl rfl (op_indexAddr_im sl_28.h rfl rfl g13 rfl) ?_
   refine OpsD.v rfl rfl (op_load_ipA ld_38.h rfl rfl rfl rfl) ?_
   refine zz ?_
   refine ob' h fun e14 g15 h => ?_
   refine OpsD.v rfl rfl (op_indexAddr_im sl_28.h rfl rfl g15 rfl) ?_
   refine OpsD.v rfl rfl (op_load_ipA ld_38.h rfl rfl rfl rfl) ?_
   refine zz ?_
   refine ob' h fun r16 g17 h => ?_
   refine StepD.h (ns := []) rfl rfl rfl (op_callE (Zbe _ _ _ g17) rfl rfl) ?_
   rintro _ _ ⟨rfl, rfl⟩
   refine zz ?_
   refine cnd h (fun hb18 h => ?_) fun hb18 h => ?_
   ·
    refine AW.cond rfl (fun hn => absurd ((not_t hb18).symm.trans hn) (by decide)) (fun _ => ?_)
    refine zz ?_
    obtain rfl := Option.some.inj h
    exact ⟨k24, (IntKind.i64.wrap (x10 + 1)), hlt_k24, h27, Ghost.both (ns := []) rfl rfl⟩
   refine AW.cond rfl (fun _ => ?_) (fun hn => absurd ((not_f hb18).symm.trans hn) (by decide))
   refine zz ?_
   refine AW.ret ?_
   obtain rfl := Option.some.inj h
   obtain rfl := Option.some.inj h27
   replace h := q23
   rw [← Option.some.inj h]
   exact ⟨[C.bool false], _, Ghost.refl _, (.cons (.tmp rfl) .nil), [], _, _, rfl, ⟨rfl, rfl⟩⟩
  refine AW.cf hb11 rfl ?_
  refine AW.exit ?_
  obtain rfl := Option.some.inj h
  obtain rfl := Option.some.inj h27
  replace h := q23
  exact ⟨(), h, Ghost.both (ns := []) rfl rfl⟩
 rintro ⟨⟩ h
 replace h : Z9e = some r := h
 unfold Z9e at h
 refine zz ?_
 refine AW.ret ?_
 rw [← Option.some.inj h]
 exact ⟨[C.bool true], _, Ghost.refl _, (.cons (.tmp rfl) .nil), [], _, _, rfl, ⟨rfl, rfl⟩⟩

def Z7h (p0 : TGraph') (p1 : TGraph') : Option Bool := cond (p0.room != p1.room) (some false) ((Z5j p0.events p1.events).bind fun r4 => cond r4 ((Z5j p0.parked p1.parked).bind fun r7 => cond r7 (some true) (some false)) (some false))
theorem Zck (p0 : TGraph') (p1 : TGraph') (r : Bool) (h : Z7h p0 p1 = some r) : Ok Tryz.prog 14 [C.agg [C.int p0.room, C.im kEvent 9 p0.events, C.im kEvent 9 p0.parked], C.agg [C.int p1.room, C.im kEvent 9 p1.events, C.im kEvent 9 p1.parked]] [] (fun c qs => c = C.bool r ∧ qs = []) := by
 refine Ok.of_body (rs := [.tmp 4]) Tryz.func14 rfl rfl rfl rfl rfl fun X => ?_
 unfold Z7h at h
 refine zz ?_
 refine Ops.h (ns := []) rfl rfl (op_boxA rfl rfl) ?_
 rintro _ _ ⟨b1, rfl, rfl⟩
 refine Ops.h (ns := []) rfl rfl (op_boxA rfl rfl) ?_
 rintro _ _ ⟨b2, rfl, rfl⟩
 refine zz ?_
 refine cnd h (fun hb3 h => ?_) fun hb3 h => ?_
 ·
  refine AW.ct hb3 rfl ?_
  refine zz ?_
  refine AW.ret ?_
  rw [← Option.some.inj h]
  exact ⟨[C.bool false], _, Ghost.refl _, (.cons (.tmp rfl) .nil), [], _, _, rfl, ⟨rfl, rfl⟩⟩
 refine AW.cf hb3 rfl ?_
 refine zz ?_
 refine ob' h fun r4 g5 h => ?_
 refine Ops.hd (ns := []) rfl rfl (op_callE (Zbf _ _ _ g5) rfl rfl) ?_
 refine zz ?_
 refine cnd h (fun hb6 h => ?_) fun hb6 h => ?_
 ·
  refine AW.cond rfl (fun hn => absurd ((not_t hb6).symm.trans hn) (by decide)) (fun _ => ?_)
  refine zz ?_
  refine ob' h fun r7 g8 h => ?_
  refine Ops.hd (ns := []) rfl rfl (op_callE (Zbf _ _ _ g8) rfl rfl) ?_
  refine zz ?_
  refine cnd h (fun hb9 h => ?_) fun hb9 h => ?_
  ·
   refine AW.cond rfl (fun hn => absurd ((not_t hb9).symm.trans hn) (by decide)) (fun _ => ?_)
   refine zz ?_
   refine AW.ret ?_
   rw [← Option.some.inj h]
   exact ⟨[C.bool true], _, Ghost.refl _, (.cons (.tmp rfl) .nil), [], _, _, rfl, ⟨rfl, rfl⟩⟩
  refine AW.cond rfl (fun _ => ?_) (fun hn => absurd ((not_f hb9).symm.trans hn) (by decide))
  refine zz ?_
  refine AW.ret ?_
  rw [← Option.some.inj h]
  exact ⟨[C.bool false], _, Ghost.refl _, (.cons (.tmp rfl) .nil), [], _, _, rfl, ⟨rfl, rfl⟩⟩
 refine AW.cond rfl (fun _ => ?_) (fun hn => absurd ((not_f hb6).symm.trans hn) (by decide))
 refine zz ?_
 refine AW.ret ?_
 rw [← Option.some.inj h]
 exact ⟨[C.bool false], _, Ghost.refl _, (.cons (.tmp rfl) .nil), [], _, _, rfl, ⟨rfl, rfl⟩⟩

def Z7m (x12 : ByteArray) : Option ByteArray := (chk (decide ((ByteArray.mk #[109]).size + x12.size ≤ 9223372036854775807))).bind fun u14 => some ((ByteArray.mk #[109]) ++ x12)
def Z3f (x6 : Int) (x7 : ByteArray) : Option ((Int × ByteArray) ⊕ (ByteArray)) := cond (decide (x6 > 0)) ((chk (decide ((strOf [(IntKind.u8.wrap (IntKind.i64.wrap (48 + (Int.tmod x6 10))))]).size + x7.size ≤ 9223372036854775807))).bind fun u11 => some (.inl ((IntKind.i64.wrap (Int.tdiv x6 10)), ((strOf [(IntKind.u8.wrap (IntKind.i64.wrap (48 + (Int.tmod x6 10))))]) ++ x7)))) (some (.inr x7))
def Z7l (p0 : Int) : Option ByteArray := cond (decide (p0 ≤ 0)) (some (ByteArray.mk #[109, 48])) ((iter (fun z15 => Z3f z15.1 z15.2) big (p0, ByteArray.empty)).bind fun y16 => Z7m y16)
theorem Zcr (p0 : Int) (r : ByteArray) (h : Z7l p0 = some r) : Ok Tryz.prog 121 [C.int p0] [] (fun c qs => c = C.str r ∧ qs = []) := by
 refine Ok.of_body (rs := [.tmp 2]) Tryz.func121 rfl rfl rfl rfl rfl fun X => ?_
 unfold Z7l at h
 refine zz ?_
 refine cnd h (fun hb1 h => ?_) fun hb1 h => ?_
 ·
  refine AW.ct hb1 rfl ?_
  refine zz ?_
  refine AW.ret ?_
  rw [← Option.some.inj h]
  exact ⟨[C.str (ByteArray.mk #[109, 48])], _, Ghost.refl _, (.cons (.tmp rfl) .nil), [], _, _, rfl, ⟨rfl, rfl⟩⟩
 refine AW.cf hb1 rfl ?_
 refine AW.skip ?_
 refine AW.seq ?_
 refine AW.region ?_
 refine Ops.v rfl (op_assign rfl rfl) ?_
 refine Ops.nil ?_
 refine AW.seq ?_
 refine AW.cut (τ := ByteArray) (fun x12 => ⟨[(3, C.str x12)], []⟩) (fun x12 => Z7m x12 = some r) ?_ ?_
 ·
  refine zz ?_
  refine ob' h fun o17 g18 q19 => ?_
  refine AW.loop (τ := Int × ByteArray) (x := (p0, ByteArray.empty)) (fun (x6, x7) => ⟨[(0, C.int x6), (3, C.str x7)], []⟩) (fun k (x6, x7) => iter (fun z15 => Z3f z15.1 z15.2) k (x6, x7) = some o17) g18 (Ghost.both (ns := []) rfl rfl) ?_
  rintro k ⟨x6, x7⟩ i21
  refine iter_succ' (show iter (fun z15 => Z3f z15.1 z15.2) k (x6, x7) = some o17 from i21) fun k20 y22 hlt_k20 h h23 => ?_
  replace h : Z3f x6 x7 = some y22 := h
  unfold Z3f at h
  refine zz ?_
  refine cnd h (fun hb8 h => ?_) fun hb8 h => ?_
  ·
   refine AW.ct hb8 rfl ?_
   refine zz ?_
   refine Ops.v rfl (op_rem rfl rfl (by decide) rfl) ?_
   refine zz ?_
   refine Ops.v rfl (op_conv un_3 un_5 rfl rfl) ?_
   refine Ops.h (ns := []) rfl rfl (op_buildSlice (k := kU8) (ys := [(IntKind.u8.wrap (IntKind.i64.wrap (48 + (Int.tmod x6 10))))]) ar_45 (.one rfl (One.val rfl) rfl rfl .nil) rfl rfl rfl) ?_
   rintro _ _ ⟨b9, rfl, rfl⟩
   refine Ops.v rfl (op_str_arr (p := 0) by_45 un_9 (fun _ => rfl) rfl rfl rfl) ?_
   refine zz ?_
   refine ob' h fun u11 c10 h => ?_
   refine Ops.v rfl (op_add_str rfl rfl (of_decide_eq_true (chk_some c10)) rfl) ?_
   refine zz ?_
   refine Ops.v rfl (op_quo rfl rfl (by decide) rfl) ?_
   refine zz ?_
   obtain rfl := Option.some.inj h
   exact ⟨k20, ((IntKind.i64.wrap (Int.tdiv x6 10)), ((strOf [(IntKind.u8.wrap (IntKind.i64.wrap (48 + (Int.tmod x6 10))))]) ++ x7)), hlt_k20, h23, Ghost.both (ns := []) rfl rfl⟩
  refine AW.cf hb8 rfl ?_
  refine AW.exit ?_
  obtain rfl := Option.some.inj h
  obtain rfl := Option.some.inj h23
  replace h := q19
  exact ⟨x7, h, Ghost.both (ns := []) rfl rfl⟩
 intro x12 h
 replace h : Z7m x12 = some r := h
 unfold Z7m at h
 refine zz ?_
 refine ob' h fun u14 c13 h => ?_
 refine Ops.v rfl (op_add_str rfl rfl (of_decide_eq_true (chk_some c13)) rfl) ?_
 refine zz ?_
 refine AW.ret ?_
 rw [← Option.some.inj h]
 exact ⟨[C.str ((ByteArray.mk #[109]) ++ x12)], _, Ghost.refl _, (.cons (.tmp rfl) .nil), [], _, _, rfl, ⟨rfl, rfl⟩⟩

def Z9l (x10 : Int) (l11 : List Int) : Option (Int × List Int) := some (x10, l11)
def Z1q (l4 : List Int) (x5 : Int) (x6 : Int) : Option ((List Int × Int × Int) ⊕ ((Int × List Int))) := cond (decide (x6 < (l4.length : Int))) ((getI l4 x6).bind fun e8 => some (.inl ((List.set l4 (Int.toNat x6) x5), (IntKind.i64.wrap (x5 + 1)), (IntKind.i64.wrap (x6 + 1))))) (some (.inr (x5, l4)))
def Z5m (p0 : List Int) (p1 : Int) : Option (Int × List Int) := (iter (fun z12 => Z1q z12.1 z12.2.1 z12.2.2) big (p0, p1, 0)).bind fun (y13, y14) => Z9l y13 y14
theorem Zbi {w00 : Value} (p0 : List Int) (p1 : Int) (r : Int × List Int) (h : Z5m p0 p1 = some r) : Ok Tryz.prog 16 [C.val w00, C.int p1] [Obj.arr w00 2 kI64 1 p0] (fun c qs => c = C.int r.1 ∧ qs = [Obj.arr w00 2 kI64 1 r.2]) := by
 refine Ok.of_body (rs := [.tmp 4]) Tryz.func16 rfl rfl rfl rfl rfl fun X => ?_
 unfold Z5m at h
 refine AW.seq ?_
 refine AW.region ?_
 refine Ops.v rfl (op_assign rfl rfl) ?_
 refine Ops.nil ?_
 refine AW.seq ?_
 refine AW.cut (τ := Int × List Int) (fun (x10, l11) => ⟨[(1, C.int x10)], [Obj.arr w00 2 kI64 1 l11]⟩) (fun (x10, l11) => Z9l x10 l11 = some r) ?_ ?_
 ·
  refine zz ?_
  refine ob' h fun o15 g16 q17 => ?_
  refine AW.loop (τ := List Int × Int × Int) (x := (p0, p1, 0)) (fun (l4, x5, x6) => ⟨[(0, C.val w00), (1, C.int x5), (5, C.int x6)], [Obj.arr w00 2 kI64 1 l4]⟩) (fun k (l4, x5, x6) => iter (fun z12 => Z1q z12.1 z12.2.1 z12.2.2) k (l4, x5, x6) = some o15) g16 (Ghost.both (ns := [0]) rfl rfl) ?_
  rintro k ⟨l4, x5, x6⟩ i19
  refine iter_succ' (show iter (fun z12 => Z1q z12.1 z12.2.1 z12.2.2) k (l4, x5, x6) = some o15 from i19) fun k18 y20 hlt_k18 h h21 => ?_
  replace h : Z1q l4 x5 x6 = some y20 := h
  unfold Z1q at h
  refine zz ?_
  refine Ops.v rfl (op_len_arr (p := 0) sl_26.h rfl rfl rfl) ?_
  refine zz ?_
  refine cnd h (fun hb7 h => ?_) fun hb7 h => ?_
  ·
   refine AW.ct hb7 rfl ?_
   refine zz ?_
   refine ob' h fun e8 g9 h => ?_
   refine Ops.v rfl (op_indexAddr_arr (p := 0) sl_26.h rfl rfl rfl g9 rfl) ?_
   refine Ops.hd (ns := [0]) rfl rfl (op_store_arr (e' := x5) ld_2.h rfl rfl (One.val rfl) (getI_lt g9).2.2 rfl rfl) ?_
   refine zz ?_
   obtain rfl := Option.some.inj h
   exact ⟨k18, ((List.set l4 (Int.toNat x6) x5), (IntKind.i64.wrap (x5 + 1)), (IntKind.i64.wrap (x6 + 1))), hlt_k18, h21, Ghost.both (ns := [0]) rfl rfl⟩
  refine AW.cf hb7 rfl ?_
  refine AW.exit ?_
  obtain rfl := Option.some.inj h
  obtain rfl := Option.some.inj h21
  replace h := q17
  exact ⟨(x5, l4), h, Ghost.both (ns := [0]) rfl rfl⟩
 rintro ⟨x10, l11⟩ h
 replace h : Z9l x10 l11 = some r := h
 unfold Z9l at h
 refine zz ?_
 refine AW.ret ?_
 rw [← Option.some.inj h]
 exact ⟨[C.int x10], _, Ghost.refl _, (.cons (.tmp rfl) .nil), [0], _, _, rfl, ⟨rfl, rfl⟩⟩

def Z9k (x52 : Int) (l53 : List TEvent) : Option (Int × List TEvent) := some (x52, l53)
def Z1p (l25 : List TEvent) (x26 : Int) (x27 : Int) : Option ((List TEvent × Int × Int) ⊕ ((Int × List TEvent))) := cond (decide (x27 < (l25.length : Int))) ((getI l25 x27).bind fun e29 => (getI (List.set l25 (Int.toNat x27) (TEvent.mk x26 e29.room e29.author e29.kind e29.key e29.n e29.text e29.prev e29.time)) x27).bind fun e31 => (getI (List.set (List.set l25 (Int.toNat x27) (TEvent.mk x26 e29.room e29.author e29.kind e29.key e29.n e29.text e29.prev e29.time)) (Int.toNat x27) (TEvent.mk e31.id (IntKind.i64.wrap (x26 + 1)) e31.author e31.kind e31.key e31.n e31.text e31.prev e31.time)) x27).bind fun e33 => (getI (List.set (List.set (List.set l25 (Int.toNat x27) (TEvent.mk x26 e29.room e29.author e29.kind e29.key e29.n e29.text e29.prev e29.time)) (Int.toNat x27) (TEvent.mk e31.id (IntKind.i64.wrap (x26 + 1)) e31.author e31.kind e31.key e31.n e31.text e31.prev e31.time)) (Int.toNat x27) (TEvent.mk e33.id e33.room (IntKind.i64.wrap ((IntKind.i64.wrap (x26 + 1)) + 1)) e33.kind e33.key e33.n e33.text e33.prev e33.time)) x27).bind fun e35 => (getI (List.set (List.set (List.set (List.set l25 (Int.toNat x27) (TEvent.mk x26 e29.room e29.author e29.kind e29.key e29.n e29.text e29.prev e29.time)) (Int.toNat x27) (TEvent.mk e31.id (IntKind.i64.wrap (x26 + 1)) e31.author e31.kind e31.key e31.n e31.text e31.prev e31.time)) (Int.toNat x27) (TEvent.mk e33.id e33.room (IntKind.i64.wrap ((IntKind.i64.wrap (x26 + 1)) + 1)) e33.kind e33.key e33.n e33.text e33.prev e33.time)) (Int.toNat x27) (TEvent.mk e35.id e35.room e35.author (IntKind.i64.wrap ((IntKind.i64.wrap ((IntKind.i64.wrap (x26 + 1)) + 1)) + 1)) e35.key e35.n e35.text e35.prev e35.time)) x27).bind fun e37 => (getI (List.set (List.set (List.set (List.set (List.set l25 (Int.toNat x27) (TEvent.mk x26 e29.room e29.author e29.kind e29.key e29.n e29.text e29.prev e29.time)) (Int.toNat x27) (TEvent.mk e31.id (IntKind.i64.wrap (x26 + 1)) e31.author e31.kind e31.key e31.n e31.text e31.prev e31.time)) (Int.toNat x27) (TEvent.mk e33.id e33.room (IntKind.i64.wrap ((IntKind.i64.wrap (x26 + 1)) + 1)) e33.kind e33.key e33.n e33.text e33.prev e33.time)) (Int.toNat x27) (TEvent.mk e35.id e35.room e35.author (IntKind.i64.wrap ((IntKind.i64.wrap ((IntKind.i64.wrap (x26 + 1)) + 1)) + 1)) e35.key e35.n e35.text e35.prev e35.time)) (Int.toNat x27) (TEvent.mk e37.id e37.room e37.author e37.kind (IntKind.i64.wrap ((IntKind.i64.wrap ((IntKind.i64.wrap ((IntKind.i64.wrap (x26 + 1)) + 1)) + 1)) + 1)) e37.n e37.text e37.prev e37.time)) x27).bind fun e39 => (Z7l (IntKind.i64.wrap ((IntKind.i64.wrap ((IntKind.i64.wrap ((IntKind.i64.wrap ((IntKind.i64.wrap ((IntKind.i64.wrap (x26 + 1)) + 1)) + 1)) + 1)) + 1)) + 1))).bind fun r41 => (getI (List.set (List.set (List.set (List.set (List.set (List.set l25 (Int.toNat x27) (TEvent.mk x26 e29.room e29.author e29.kind e29.key e29.n e29.text e29.prev e29.time)) (Int.toNat x27) (TEvent.mk e31.id (IntKind.i64.wrap (x26 + 1)) e31.author e31.kind e31.key e31.n e31.text e31.prev e31.time)) (Int.toNat x27) (TEvent.mk e33.id e33.room (IntKind.i64.wrap ((IntKind.i64.wrap (x26 + 1)) + 1)) e33.kind e33.key e33.n e33.text e33.prev e33.time)) (Int.toNat x27) (TEvent.mk e35.id e35.room e35.author (IntKind.i64.wrap ((IntKind.i64.wrap ((IntKind.i64.wrap (x26 + 1)) + 1)) + 1)) e35.key e35.n e35.text e35.prev e35.time)) (Int.toNat x27) (TEvent.mk e37.id e37.room e37.author e37.kind (IntKind.i64.wrap ((IntKind.i64.wrap ((IntKind.i64.wrap ((IntKind.i64.wrap (x26 + 1)) + 1)) + 1)) + 1)) e37.n e37.text e37.prev e37.time)) (Int.toNat x27) (TEvent.mk e39.id e39.room e39.author e39.kind e39.key (IntKind.i64.wrap ((IntKind.i64.wrap ((IntKind.i64.wrap ((IntKind.i64.wrap ((IntKind.i64.wrap (x26 + 1)) + 1)) + 1)) + 1)) + 1)) e39.text e39.prev e39.time)) x27).bind fun e43 => (getI (List.set (List.set (List.set (List.set (List.set (List.set (List.set l25 (Int.toNat x27) (TEvent.mk x26 e29.room e29.author e29.kind e29.key e29.n e29.text e29.prev e29.time)) (Int.toNat x27) (TEvent.mk e31.id (IntKind.i64.wrap (x26 + 1)) e31.author e31.kind e31.key e31.n e31.text e31.prev e31.time)) (Int.toNat x27) (TEvent.mk e33.id e33.room (IntKind.i64.wrap ((IntKind.i64.wrap (x26 + 1)) + 1)) e33.kind e33.key e33.n e33.text e33.prev e33.time)) (Int.toNat x27) (TEvent.mk e35.id e35.room e35.author (IntKind.i64.wrap ((IntKind.i64.wrap ((IntKind.i64.wrap (x26 + 1)) + 1)) + 1)) e35.key e35.n e35.text e35.prev e35.time)) (Int.toNat x27) (TEvent.mk e37.id e37.room e37.author e37.kind (IntKind.i64.wrap ((IntKind.i64.wrap ((IntKind.i64.wrap ((IntKind.i64.wrap (x26 + 1)) + 1)) + 1)) + 1)) e37.n e37.text e37.prev e37.time)) (Int.toNat x27) (TEvent.mk e39.id e39.room e39.author e39.kind e39.key (IntKind.i64.wrap ((IntKind.i64.wrap ((IntKind.i64.wrap ((IntKind.i64.wrap ((IntKind.i64.wrap (x26 + 1)) + 1)) + 1)) + 1)) + 1)) e39.text e39.prev e39.time)) (Int.toNat x27) (TEvent.mk e43.id e43.room e43.author e43.kind e43.key e43.n r41 e43.prev e43.time)) x27).bind fun e45 => (Z5m e45.prev (IntKind.i64.wrap ((IntKind.i64.wrap ((IntKind.i64.wrap ((IntKind.i64.wrap ((IntKind.i64.wrap ((IntKind.i64.wrap ((IntKind.i64.wrap (x26 + 1)) + 1)) + 1)) + 1)) + 1)) + 1)) + 1))).bind fun r48 => (getI (List.set (List.set (List.set (List.set (List.set (List.set (List.set (List.set l25 (Int.toNat x27) (TEvent.mk x26 e29.room e29.author e29.kind e29.key e29.n e29.text e29.prev e29.time)) (Int.toNat x27) (TEvent.mk e31.id (IntKind.i64.wrap (x26 + 1)) e31.author e31.kind e31.key e31.n e31.text e31.prev e31.time)) (Int.toNat x27) (TEvent.mk e33.id e33.room (IntKind.i64.wrap ((IntKind.i64.wrap (x26 + 1)) + 1)) e33.kind e33.key e33.n e33.text e33.prev e33.time)) (Int.toNat x27) (TEvent.mk e35.id e35.room e35.author (IntKind.i64.wrap ((IntKind.i64.wrap ((IntKind.i64.wrap (x26 + 1)) + 1)) + 1)) e35.key e35.n e35.text e35.prev e35.time)) (Int.toNat x27) (TEvent.mk e37.id e37.room e37.author e37.kind (IntKind.i64.wrap ((IntKind.i64.wrap ((IntKind.i64.wrap ((IntKind.i64.wrap (x26 + 1)) + 1)) + 1)) + 1)) e37.n e37.text e37.prev e37.time)) (Int.toNat x27) (TEvent.mk e39.id e39.room e39.author e39.kind e39.key (IntKind.i64.wrap ((IntKind.i64.wrap ((IntKind.i64.wrap ((IntKind.i64.wrap ((IntKind.i64.wrap (x26 + 1)) + 1)) + 1)) + 1)) + 1)) e39.text e39.prev e39.time)) (Int.toNat x27) (TEvent.mk e43.id e43.room e43.author e43.kind e43.key e43.n r41 e43.prev e43.time)) (Int.toNat x27) (TEvent.mk e45.id e45.room e45.author e45.kind e45.key e45.n e45.text r48.2 e45.time)) x27).bind fun e50 => some (.inl ((List.set (List.set (List.set (List.set (List.set (List.set (List.set (List.set (List.set l25 (Int.toNat x27) (TEvent.mk x26 e29.room e29.author e29.kind e29.key e29.n e29.text e29.prev e29.time)) (Int.toNat x27) (TEvent.mk e31.id (IntKind.i64.wrap (x26 + 1)) e31.author e31.kind e31.key e31.n e31.text e31.prev e31.time)) (Int.toNat x27) (TEvent.mk e33.id e33.room (IntKind.i64.wrap ((IntKind.i64.wrap (x26 + 1)) + 1)) e33.kind e33.key e33.n e33.text e33.prev e33.time)) (Int.toNat x27) (TEvent.mk e35.id e35.room e35.author (IntKind.i64.wrap ((IntKind.i64.wrap ((IntKind.i64.wrap (x26 + 1)) + 1)) + 1)) e35.key e35.n e35.text e35.prev e35.time)) (Int.toNat x27) (TEvent.mk e37.id e37.room e37.author e37.kind (IntKind.i64.wrap ((IntKind.i64.wrap ((IntKind.i64.wrap ((IntKind.i64.wrap (x26 + 1)) + 1)) + 1)) + 1)) e37.n e37.text e37.prev e37.time)) (Int.toNat x27) (TEvent.mk e39.id e39.room e39.author e39.kind e39.key (IntKind.i64.wrap ((IntKind.i64.wrap ((IntKind.i64.wrap ((IntKind.i64.wrap ((IntKind.i64.wrap (x26 + 1)) + 1)) + 1)) + 1)) + 1)) e39.text e39.prev e39.time)) (Int.toNat x27) (TEvent.mk e43.id e43.room e43.author e43.kind e43.key e43.n r41 e43.prev e43.time)) (Int.toNat x27) (TEvent.mk e45.id e45.room e45.author e45.kind e45.key e45.n e45.text r48.2 e45.time)) (Int.toNat x27) (TEvent.mk e50.id e50.room e50.author e50.kind e50.key e50.n e50.text e50.prev r48.1)), (IntKind.i64.wrap (r48.1 + 1)), (IntKind.i64.wrap (x27 + 1))))) (some (.inr (x26, l25)))
def Z5l (p0 : List TEvent) (p1 : Int) : Option (Int × List TEvent) := (iter (fun z54 => Z1p z54.1 z54.2.1 z54.2.2) big (p0, p1, 0)).bind fun (y55, y56) => Z9k y55 y56
set_option maxHeartbeats 1000000 in
theorem Zbh {w00 : Value} (p0 : List TEvent) (p1 : Int) (r : Int × List TEvent) (h : Z5l p0 p1 = some r) : Ok Tryz.prog 65 [C.val w00, C.int p1] [Obj.deep w00 38 kdEvent obEvent 9 p0] (fun c qs => c = C.int r.1 ∧ qs = [Obj.deep w00 38 kdEvent obEvent 9 r.2]) := by
 refine Ok.of_body (rs := [.tmp 4]) Tryz.func65 rfl rfl rfl rfl rfl fun X => ?_
 unfold Z5l at h
 refine AW.seq ?_
 refine AW.region ?_
 refine Ops.v rfl (op_assign rfl rfl) ?_
 refine Ops.nil ?_
 refine AW.seq ?_
 refine AW.cut (τ := Int × List TEvent) (fun (x52, l53) => ⟨[(1, C.int x52)], [Obj.deep w00 38 kdEvent obEvent 9 l53]⟩) (fun (x52, l53) => Z9k x52 l53 = some r) ?_ ?_
 ·
  refine zz ?_
  refine ob' h fun o57 g58 q59 => ?_
  refine AW.loop (τ := List TEvent × Int × Int) (x := (p0, p1, 0)) (fun (l25, x26, x27) => ⟨[(0, C.val w00), (1, C.int x26), (5, C.int x27)], [Obj.deep w00 38 kdEvent obEvent 9 l25]⟩) (fun k (l25, x26, x27) => iter (fun z54 => Z1p z54.1 z54.2.1 z54.2.2) k (l25, x26, x27) = some o57) g58 (Ghost.both (ns := [0]) rfl rfl) ?_
  rintro k ⟨l25, x26, x27⟩ i61
  refine iter_succ' (show iter (fun z54 => Z1p z54.1 z54.2.1 z54.2.2) k (l25, x26, x27) = some o57 from i61) fun k60 y62 hlt_k60 h h63 => ?_
  replace h : Z1p l25 x26 x27 = some y62 := h
  unfold Z1p at h
  refine zz ?_
  refine Ops.v rfl (op_len_deep (p := 0) sl_28.h rfl rfl rfl) ?_
  refine zz ?_
  refine cnd h (fun hb28 h => ?_) fun hb28 h => ?_
  ·
   refine AW.ct hb28 rfl ?_
   refine zz ?_
   refine ob' h fun e29 g30 h => ?_
   refine Ops.v rfl (op_indexAddr_deep (p := 0) sl_28.h rfl rfl rfl g30 rfl) ?_
   refine Ops.v rfl (op_fieldAddr_deep (p := 0) fo_38_0.h rfl rfl (getI_lt g30).2.2 rfl) ?_
   refine Ops.hd (ns := [0]) rfl rfl (op_store_deep (e' := (TEvent.mk x26 e29.room e29.author e29.kind e29.key e29.n e29.text e29.prev e29.time)) ld_2.h rfl rfl (One.val rfl) (getI_lt g30).2.2 (fun _ => rfl) (fun _ => rfl) (fun _ => rfl)) ?_
   refine zz ?_
   refine ob' h fun e31 g32 h => ?_
   refine Ops.v rfl (op_indexAddr_deep (p := 0) sl_28.h rfl rfl rfl g32 rfl) ?_
   refine Ops.v rfl (op_fieldAddr_deep (p := 0) fo_38_1.h rfl rfl (getI_lt g32).2.2 rfl) ?_
   refine Ops.hd (ns := [0]) rfl rfl (op_store_deep (e' := (TEvent.mk e31.id (IntKind.i64.wrap (x26 + 1)) e31.author e31.kind e31.key e31.n e31.text e31.prev e31.time)) ld_2.h rfl rfl (One.val rfl) (getI_lt g32).2.2 (fun _ => rfl) (fun _ => rfl) (fun _ => rfl)) ?_
   refine zz ?_
   refine ob' h fun e33 g34 h => ?_
   refine Ops.v rfl (op_indexAddr_deep (p := 0) sl_28.h rfl rfl rfl g34 rfl) ?_
   refine Ops.v rfl (op_fieldAddr_deep (p := 0) fo_38_2.h rfl rfl (getI_lt g34).2.2 rfl) ?_
   refine Ops.hd (ns := [0]) rfl rfl (op_store_deep (e' := (TEvent.mk e33.id e33.room (IntKind.i64.wrap ((IntKind.i64.wrap (x26 + 1)) + 1)) e33.kind e33.key e33.n e33.text e33.prev e33.time)) ld_2.h rfl rfl (One.val rfl) (getI_lt g34).2.2 (fun _ => rfl) (fun _ => rfl) (fun _ => rfl)) ?_
   refine zz ?_
   refine ob' h fun e35 g36 h => ?_
   refine Ops.v rfl (op_indexAddr_deep (p := 0) sl_28.h rfl rfl rfl g36 rfl) ?_
   refine Ops.v rfl (op_fieldAddr_deep (p := 0) fo_38_3.h rfl rfl (getI_lt g36).2.2 rfl) ?_
   refine Ops.hd (ns := [0]) rfl rfl (op_store_deep (e' := (TEvent.mk e35.id e35.room e35.author (IntKind.i64.wrap ((IntKind.i64.wrap ((IntKind.i64.wrap (x26 + 1)) + 1)) + 1)) e35.key e35.n e35.text e35.prev e35.time)) ld_2.h rfl rfl (One.val rfl) (getI_lt g36).2.2 (fun _ => rfl) (fun _ => rfl) (fun _ => rfl)) ?_
   refine zz ?_
   refine ob' h fun e37 g38 h => ?_
   refine Ops.v rfl (op_indexAddr_deep (p := 0) sl_28.h rfl rfl rfl g38 rfl) ?_
   refine Ops.v rfl (op_fieldAddr_deep (p := 0) fo_38_4.h rfl rfl (getI_lt g38).2.2 rfl) ?_
   refine Ops.hd (ns := [0]) rfl rfl (op_store_deep (e' := (TEvent.mk e37.id e37.room e37.author e37.kind (IntKind.i64.wrap ((IntKind.i64.wrap ((IntKind.i64.wrap ((IntKind.i64.wrap (x26 + 1)) + 1)) + 1)) + 1)) e37.n e37.text e37.prev e37.time)) ld_2.h rfl rfl (One.val rfl) (getI_lt g38).2.2 (fun _ => rfl) (fun _ => rfl) (fun _ => rfl)) ?_
   refine zz ?_
   refine ob' h fun e39 g40 h => ?_
   refine Ops.v rfl (op_indexAddr_deep (p := 0) sl_28.h rfl rfl rfl g40 rfl) ?_
   refine Ops.v rfl (op_fieldAddr_deep (p := 0) fo_38_5.h rfl rfl (getI_lt g40).2.2 rfl) ?_
   refine Ops.hd (ns := [0]) rfl rfl (op_store_deep (e' := (TEvent.mk e39.id e39.room e39.author e39.kind e39.key (IntKind.i64.wrap ((IntKind.i64.wrap ((IntKind.i64.wrap ((IntKind.i64.wrap ((IntKind.i64.wrap (x26 + 1)) + 1)) + 1)) + 1)) + 1)) e39.text e39.prev e39.time)) ld_2.h rfl rfl (One.val rfl) (getI_lt g40).2.2 (fun _ => rfl) (fun _ => rfl) (fun _ => rfl)) ?_
   refine zz ?_
   refine ob' h fun r41 g42 h => ?_
   refine Ops.hd (ns := []) rfl rfl (op_callE (Zcr _ _ g42) rfl rfl) ?_
   refine ob' h fun e43 g44 h => ?_
   refine Ops.v rfl (op_indexAddr_deep (p := 0) sl_28.h rfl rfl rfl g44 rfl) ?_
   refine Ops.v rfl (op_fieldAddr_deep (p := 0) fo_38_6.h rfl rfl (getI_lt g44).2.2 rfl) ?_
   refine Ops.hd (ns := [0]) rfl rfl (op_store_deep (e' := (TEvent.mk e43.id e43.room e43.author e43.kind e43.key e43.n r41 e43.prev e43.time)) ld_9.h rfl rfl (One.val rfl) (getI_lt g44).2.2 (fun _ => rfl) (fun _ => rfl) (fun _ => rfl)) ?_
   refine zz ?_
   refine ob' h fun e45 g46 h => ?_
   refine Ops.v rfl (op_indexAddr_deep (p := 0) sl_28.h rfl rfl rfl g46 rfl) ?_
   refine Ops.v rfl (op_fieldAddr_deep (p := 0) fo_38_7.h rfl rfl (getI_lt g46).2.2 rfl) ?_
   refine Ops.take (p := 0) rfl (getI_lt g46).2.2 fun q47 => ?_
   refine Ops.v rfl (op_load_hole (p := 1) ld_26.h rfl rfl (getI_lt g46).2.2 rfl rfl) ?_
   refine zz ?_
   refine ob' h fun r48 g49 h => ?_
   refine Ops.hd (ns := [0]) rfl rfl (op_callE (Zbi e45.prev (IntKind.i64.wrap ((IntKind.i64.wrap ((IntKind.i64.wrap ((IntKind.i64.wrap ((IntKind.i64.wrap ((IntKind.i64.wrap ((IntKind.i64.wrap (x26 + 1)) + 1)) + 1)) + 1)) + 1)) + 1)) + 1)) _ g49) rfl rfl) ?_
   refine Ops.ghost (Ghost.back (x' := (TEvent.mk e45.id e45.room e45.author e45.kind e45.key e45.n e45.text r48.2 e45.time)) (ns := [1, 0]) rfl (getI_lt g46).2.2 rfl rfl) ?_
   refine zz ?_
   refine ob' h fun e50 g51 h => ?_
   refine Ops.v rfl (op_indexAddr_deep (p := 0) sl_28.h rfl rfl rfl g51 rfl) ?_
   refine Ops.v rfl (op_fieldAddr_deep (p := 0) fo_38_8.h rfl rfl (getI_lt g51).2.2 rfl) ?_
   refine Ops.hd (ns := [0]) rfl rfl (op_store_deep (e' := (TEvent.mk e50.id e50.room e50.author e50.kind e50.key e50.n e50.text e50.prev r48.1)) ld_2.h rfl rfl (One.val rfl) (getI_lt g51).2.2 (fun _ => rfl) (fun _ => rfl) (fun _ => rfl)) ?_
   refine zz ?_
   obtain rfl := Option.some.inj h
   exact ⟨k60, ((List.set (List.set (List.set (List.set (List.set (List.set (List.set (List.set (List.set l25 (Int.toNat x27) (TEvent.mk x26 e29.room e29.author e29.kind e29.key e29.n e29.text e29.prev e29.time)) (Int.toNat x27) (TEvent.mk e31.id (IntKind.i64.wrap (x26 + 1)) e31.author e31.kind e31.key e31.n e31.text e31.prev e31.time)) (Int.toNat x27) (TEvent.mk e33.id e33.room (IntKind.i64.wrap ((IntKind.i64.wrap (x26 + 1)) + 1)) e33.kind e33.key e33.n e33.text e33.prev e33.time)) (Int.toNat x27) (TEvent.mk e35.id e35.room e35.author (IntKind.i64.wrap ((IntKind.i64.wrap ((IntKind.i64.wrap (x26 + 1)) + 1)) + 1)) e35.key e35.n e35.text e35.prev e35.time)) (Int.toNat x27) (TEvent.mk e37.id e37.room e37.author e37.kind (IntKind.i64.wrap ((IntKind.i64.wrap ((IntKind.i64.wrap ((IntKind.i64.wrap (x26 + 1)) + 1)) + 1)) + 1)) e37.n e37.text e37.prev e37.time)) (Int.toNat x27) (TEvent.mk e39.id e39.room e39.author e39.kind e39.key (IntKind.i64.wrap ((IntKind.i64.wrap ((IntKind.i64.wrap ((IntKind.i64.wrap ((IntKind.i64.wrap (x26 + 1)) + 1)) + 1)) + 1)) + 1)) e39.text e39.prev e39.time)) (Int.toNat x27) (TEvent.mk e43.id e43.room e43.author e43.kind e43.key e43.n r41 e43.prev e43.time)) (Int.toNat x27) (TEvent.mk e45.id e45.room e45.author e45.kind e45.key e45.n e45.text r48.2 e45.time)) (Int.toNat x27) (TEvent.mk e50.id e50.room e50.author e50.kind e50.key e50.n e50.text e50.prev r48.1)), (IntKind.i64.wrap (r48.1 + 1)), (IntKind.i64.wrap (x27 + 1))), hlt_k60, h63, Ghost.both (ns := [0]) rfl rfl⟩
  refine AW.cf hb28 rfl ?_
  refine AW.exit ?_
  obtain rfl := Option.some.inj h
  obtain rfl := Option.some.inj h63
  replace h := q59
  exact ⟨(x26, l25), h, Ghost.both (ns := [0]) rfl rfl⟩
 rintro ⟨x52, l53⟩ h
 replace h : Z9k x52 l53 = some r := h
 unfold Z9k at h
 refine zz ?_
 refine AW.ret ?_
 rw [← Option.some.inj h]
 exact ⟨[C.int x52], _, Ghost.refl _, (.cons (.tmp rfl) .nil), [0], _, _, rfl, ⟨rfl, rfl⟩⟩

def Z7k (p0 : TGraph') (p1 : Int) : Option (Int × List TEvent × List TEvent) := (Z5l p0.events p1).bind fun r2 => (Z5l p0.parked r2.1).bind fun r4 => some (r4.1, r2.2, r4.2)
theorem Zcq {w00 : Value} {w01 : Value} (p0 : TGraph') (p1 : Int) (r : Int × List TEvent × List TEvent) (h : Z7k p0 p1 = some r) : Ok Tryz.prog 15 [C.agg [C.int p0.room, C.val w00, C.val w01], C.int p1] [Obj.deep w00 38 kdEvent obEvent 9 p0.events, Obj.deep w01 38 kdEvent obEvent 9 p0.parked] (fun c qs => c = C.int r.1 ∧ qs = [Obj.deep w00 38 kdEvent obEvent 9 r.2.1, Obj.deep w01 38 kdEvent obEvent 9 r.2.2]) := by
 refine Ok.of_body (rs := [.tmp 4]) Tryz.func15 rfl rfl rfl rfl rfl fun X => ?_
 unfold Z7k at h
 refine zz ?_
 refine Ops.h (ns := []) rfl rfl (op_boxA rfl rfl) ?_
 rintro _ _ ⟨b1, rfl, rfl⟩
 refine zz ?_
 refine ob' h fun r2 g3 h => ?_
 refine Ops.hd (ns := [1]) rfl rfl (op_callE (Zbh p0.events p1 _ g3) rfl rfl) ?_
 refine zz ?_
 refine ob' h fun r4 g5 h => ?_
 refine Ops.hd (ns := [2]) rfl rfl (op_callE (Zbh p0.parked r2.1 _ g5) rfl rfl) ?_
 refine zz ?_
 refine AW.ret ?_
 rw [← Option.some.inj h]
 exact ⟨[C.int r4.1], _, Ghost.refl _, (.cons (.tmp rfl) .nil), [1, 0], _, _, rfl, ⟨rfl, rfl⟩⟩

def Z9i (p0 : TEvent) (p1 : Int) : Option (Int × List Int) := (Z5m p0.prev p1).bind fun r2 => some (r2.1, r2.2)
theorem Zco {w00 : Value} (p0 : TEvent) (p1 : Int) (r : Int × List Int) (h : Z9i p0 p1 = some r) : Ok Tryz.prog 70 [C.agg [C.int p0.id, C.int p0.room, C.int p0.author, C.int p0.kind, C.int p0.key, C.int p0.n, C.str p0.text, C.val w00, C.int p0.time], C.int p1] [Obj.arr w00 2 kI64 1 p0.prev] (fun c qs => c = C.int r.1 ∧ qs = [Obj.arr w00 2 kI64 1 r.2]) := by
 refine Ok.of_body (rs := [.tmp 4]) Tryz.func70 rfl rfl rfl rfl rfl fun X => ?_
 unfold Z9i at h
 refine zz ?_
 refine Ops.h (ns := []) rfl rfl (op_boxA rfl rfl) ?_
 rintro _ _ ⟨b1, rfl, rfl⟩
 refine zz ?_
 refine ob' h fun r2 g3 h => ?_
 refine Ops.hd (ns := [1]) rfl rfl (op_callE (Zbi p0.prev p1 _ g3) rfl rfl) ?_
 refine zz ?_
 refine AW.ret ?_
 rw [← Option.some.inj h]
 exact ⟨[C.int r2.1], _, Ghost.refl _, (.cons (.tmp rfl) .nil), [0], _, _, rfl, ⟨rfl, rfl⟩⟩

def Z9j (p0 : TEventOut) (p1 : Int) : Option (Int × List Int) := (Z9i p0.event p1).bind fun r2 => some (r2.1, r2.2)
theorem Zcp {w00 : Value} (p0 : TEventOut) (p1 : Int) (r : Int × List Int) (h : Z9j p0 p1 = some r) : Ok Tryz.prog 23 [C.agg [C.int p0.event.id, C.int p0.event.room, C.int p0.event.author, C.int p0.event.kind, C.int p0.event.key, C.int p0.event.n, C.str p0.event.text, C.val w00, C.int p0.event.time, C.int p0.code], C.int p1] [Obj.arr w00 2 kI64 1 p0.event.prev] (fun c qs => c = C.int r.1 ∧ qs = [Obj.arr w00 2 kI64 1 r.2]) := by
 refine Ok.of_body (rs := [.tmp 4]) Tryz.func23 rfl rfl rfl rfl rfl fun X => ?_
 unfold Z9j at h
 refine zz ?_
 refine Ops.h (ns := []) rfl rfl (op_boxA rfl rfl) ?_
 rintro _ _ ⟨b1, rfl, rfl⟩
 refine zz ?_
 refine Ops.v rfl (op_loadA (p := 0) (ds := [C.int p0.event.id, C.int p0.event.room, C.int p0.event.author, C.int p0.event.kind, C.int p0.event.key, C.int p0.event.n, C.str p0.event.text, C.val w00, C.int p0.event.time]) ld_38.h rfl rfl rfl rfl rfl) ?_
 refine zz ?_
 refine ob' h fun r2 g3 h => ?_
 refine Ops.hd (ns := [1]) rfl rfl (op_callE (Zco p0.event p1 _ g3) rfl rfl) ?_
 refine zz ?_
 refine AW.ret ?_
 rw [← Option.some.inj h]
 exact ⟨[C.int r2.1], _, Ghost.refl _, (.cons (.tmp rfl) .nil), [0], _, _, rfl, ⟨rfl, rfl⟩⟩

def Z9h (x11 : Int) : Option Int := some x11
def Z1o (p0 : List Int) (x5 : Int) (x6 : Int) : Option ((Int × Int) ⊕ (Int ⊕ Int)) := cond (decide (x6 < (p0.length : Int))) ((getI p0 x6).bind fun e8 => cond (e8 != x5) (some (.inr (.inl (-1)))) (some (.inl ((IntKind.i64.wrap (x5 + 1)), (IntKind.i64.wrap (x6 + 1)))))) (some (.inr (.inr x5)))
def Z5k (p0 : List Int) (p1 : Int) : Option Int := (iter (fun z12 => Z1o p0 z12.1 z12.2) big (p1, 0)).bind (fun z15 => match z15 with | .inl y13 => some y13 | .inr y14 => Z9h y14)
theorem Zcn (p0 : List Int) (p1 : Int) (r : Int) (h : Z5k p0 p1 = some r) : Ok Tryz.prog 17 [C.im kI64 1 p0, C.int p1] [] (fun c qs => c = C.int r ∧ qs = []) := by
 refine Ok.of_body (rs := [.tmp 4]) Tryz.func17 rfl rfl rfl rfl rfl fun X => ?_
 unfold Z5k at h
 refine AW.seq ?_
 refine AW.region ?_
 refine Ops.v rfl (op_assign rfl rfl) ?_
 refine Ops.nil ?_
 refine AW.seq ?_
 refine AW.cut (τ := Int) (fun x11 => ⟨[(1, C.int x11)], []⟩) (fun x11 => Z9h x11 = some r) ?_ ?_
 ·
  refine zz ?_
  refine ob' h fun o16 g17 q18 => ?_
  refine AW.loop (τ := Int × Int) (x := (p1, 0)) (fun (x5, x6) => ⟨[(0, C.im kI64 1 p0), (1, C.int x5), (5, C.int x6)], []⟩) (fun k (x5, x6) => iter (fun z12 => Z1o p0 z12.1 z12.2) k (x5, x6) = some o16) g17 (Ghost.both (ns := []) rfl rfl) ?_
  rintro k ⟨x5, x6⟩ i20
  refine iter_succ' (show iter (fun z12 => Z1o p0 z12.1 z12.2) k (x5, x6) = some o16 from i20) fun k19 y21 hlt_k19 h h22 => ?_
  replace h : Z1o p0 x5 x6 = some y21 := h
  unfold Z1o at h
  refine zz ?_
  refine cnd h (fun hb7 h => ?_) fun hb7 h => ?_
  ·
   refine AW.ct hb7 rfl ?_
   refine zz ?_
   refine ob' h fun e8 g9 h => ?_
   refine Ops.v rfl (op_indexAddr_im sl_26.h rfl rfl g9 rfl) ?_
   refine Ops.v rfl (op_load_ip ld_2.h rfl rfl) ?_
   refine zz ?_
   refine cnd h (fun hb10 h => ?_) fun hb10 h => ?_
   ·
    refine AW.ct hb10 rfl ?_
    refine zz ?_
    refine AW.ret ?_
    obtain rfl := Option.some.inj h
    obtain rfl := Option.some.inj h22
    replace h := q18
    rw [← Option.some.inj h]
    exact ⟨[C.int (-1)], _, Ghost.refl _, (.cons (.tmp rfl) .nil), [], _, _, rfl, ⟨rfl, rfl⟩⟩
   refine AW.cf hb10 rfl ?_
   refine zz ?_
   obtain rfl := Option.some.inj h
   exact ⟨k19, ((IntKind.i64.wrap (x5 + 1)), (IntKind.i64.wrap (x6 + 1))), hlt_k19, h22, Ghost.both (ns := []) rfl rfl⟩
  refine AW.cf hb7 rfl ?_
  refine AW.exit ?_
  obtain rfl := Option.some.inj h
  obtain rfl := Option.some.inj h22
  replace h := q18
  exact ⟨x5, h, Ghost.both (ns := []) rfl rfl⟩
 intro x11 h
 replace h : Z9h x11 = some r := h
 unfold Z9h at h
 refine zz ?_
 refine AW.ret ?_
 rw [← Option.some.inj h]
 exact ⟨[C.int x11], _, Ghost.refl _, (.cons (.tmp rfl) .nil), [], _, _, rfl, ⟨rfl, rfl⟩⟩

def Z9g (p0 : TEvent) (p1 : Int) : Option Int := (Z5k p0.prev p1).bind fun r2 => cond (decide (r2 < 0)) (some (-1)) (some r2)
theorem Zcm (p0 : TEvent) (p1 : Int) (r : Int) (h : Z9g p0 p1 = some r) : Ok Tryz.prog 71 [C.agg [C.int p0.id, C.int p0.room, C.int p0.author, C.int p0.kind, C.int p0.key, C.int p0.n, C.str p0.text, C.im kI64 1 p0.prev, C.int p0.time], C.int p1] [] (fun c qs => c = C.int r ∧ qs = []) := by
 refine Ok.of_body (rs := [.tmp 4]) Tryz.func71 rfl rfl rfl rfl rfl fun X => ?_
 unfold Z9g at h
 refine zz ?_
 refine Ops.h (ns := []) rfl rfl (op_boxA rfl rfl) ?_
 rintro _ _ ⟨b1, rfl, rfl⟩
 refine zz ?_
 refine ob' h fun r2 g3 h => ?_
 refine Ops.hd (ns := []) rfl rfl (op_callE (Zcn _ _ _ g3) rfl rfl) ?_
 refine zz ?_
 refine cnd h (fun hb4 h => ?_) fun hb4 h => ?_
 ·
  refine AW.ct hb4 rfl ?_
  refine zz ?_
  refine AW.ret ?_
  rw [← Option.some.inj h]
  exact ⟨[C.int (-1)], _, Ghost.refl _, (.cons (.tmp rfl) .nil), [], _, _, rfl, ⟨rfl, rfl⟩⟩
 refine AW.cf hb4 rfl ?_
 refine zz ?_
 refine AW.ret ?_
 rw [← Option.some.inj h]
 exact ⟨[C.int r2], _, Ghost.refl _, (.cons (.tmp rfl) .nil), [], _, _, rfl, ⟨rfl, rfl⟩⟩

def Z7j (p0 : TEventOut) (p1 : Int) : Option Int := (Z9g p0.event p1).bind fun r2 => cond (decide (r2 < 0)) (some (-1)) (some r2)
theorem Zbg (p0 : TEventOut) (p1 : Int) (r : Int) (h : Z7j p0 p1 = some r) : Ok Tryz.prog 24 [C.agg [C.int p0.event.id, C.int p0.event.room, C.int p0.event.author, C.int p0.event.kind, C.int p0.event.key, C.int p0.event.n, C.str p0.event.text, C.im kI64 1 p0.event.prev, C.int p0.event.time, C.int p0.code], C.int p1] [] (fun c qs => c = C.int r ∧ qs = []) := by
 refine Ok.of_body (rs := [.tmp 4]) Tryz.func24 rfl rfl rfl rfl rfl fun X => ?_
 unfold Z7j at h
 refine zz ?_
 refine Ops.h (ns := []) rfl rfl (op_boxA rfl rfl) ?_
 rintro _ _ ⟨b1, rfl, rfl⟩
 refine zz ?_
 refine Ops.v rfl (op_loadA (p := 0) (ds := [C.int p0.event.id, C.int p0.event.room, C.int p0.event.author, C.int p0.event.kind, C.int p0.event.key, C.int p0.event.n, C.str p0.event.text, C.im kI64 1 p0.event.prev, C.int p0.event.time]) ld_38.h rfl rfl rfl rfl rfl) ?_
 refine zz ?_
 refine ob' h fun r2 g3 h => ?_
 refine Ops.hd (ns := []) rfl rfl (op_callE (Zcm _ _ _ g3) rfl rfl) ?_
 refine zz ?_
 refine cnd h (fun hb4 h => ?_) fun hb4 h => ?_
 ·
  refine AW.ct hb4 rfl ?_
  refine zz ?_
  refine AW.ret ?_
  rw [← Option.some.inj h]
  exact ⟨[C.int (-1)], _, Ghost.refl _, (.cons (.tmp rfl) .nil), [], _, _, rfl, ⟨rfl, rfl⟩⟩
 refine AW.cf hb4 rfl ?_
 refine zz ?_
 refine AW.ret ?_
 rw [← Option.some.inj h]
 exact ⟨[C.int r2], _, Ghost.refl _, (.cons (.tmp rfl) .nil), [], _, _, rfl, ⟨rfl, rfl⟩⟩

def Z5g (p0 : TGraph) (p1 : Int) (r7 : TEventOut) (r15 : TEventOut) (x45 : Bool) : Option Bool := cond x45 (some false) ((Z9j r15 1).bind fun r47 => (Z7j (TEventOut.mk (TEvent.mk r15.event.id r15.event.room r15.event.author r15.event.kind r15.event.key r15.event.n r15.event.text r47.2 r15.event.time) r15.code) 1).bind fun r49 => cond (decide (r49 < 0)) (some false) (cond (r49 != r47.1) (some false) ((Zo p0).bind fun r53 => (Z32 r53 p1).bind fun r55 => (Z5i r55 r7).bind fun r58 => cond r58 ((Z7j (TEventOut.mk (TEvent.mk r15.event.id r15.event.room r15.event.author r15.event.kind r15.event.key r15.event.n r15.event.text r47.2 r15.event.time) r15.code) 1).bind fun r61 => cond (decide (r61 < 0)) (some false) (cond (r61 != r47.1) (some false) (some true))) (some false))))
def Z9d (p0 : TGraph) (p1 : Int) : Option Bool := (Z7o p0 1048576).bind fun r2 => cond (decide (r2 < 0)) (some true) ((Zo p0).bind fun r5 => (Z8b r5 p1).bind fun r7 => (Zo p0).bind fun r10 => (Z32 r10 p1).bind fun r15 => (Z5i r15 r7).bind fun r20 => cond r20 ((Zo p0).bind fun r35 => (Z7h r10 r35).bind fun r37 => cond r37 ((Z7k r10 1).bind fun r40 => cond (decide (r40.1 < 0)) (Z5g p0 p1 r7 r15 true) ((Z5i r15 r7).bind fun r43 => Z5g p0 p1 r7 r15 (!r43))) (some false)) (some false))
set_option maxHeartbeats 1000000 in
theorem Zcj (p0 : TGraph) (p1 : Int) (r : Bool) (h : Z9d p0 p1 = some r) : Ok Tryz.prog 5 [C.agg [C.int p0.room, C.im kEvent 9 p0.events, C.im kEvent 9 p0.parked], C.int p1] [] (fun c qs => c = C.bool r ∧ qs = []) := by
 refine Ok.of_body (rs := [.tmp 4]) Tryz.func5 rfl rfl rfl rfl rfl fun X => ?_
 unfold Z9d at h
 refine zz ?_
 refine Ops.h (ns := []) rfl rfl (op_boxA rfl rfl) ?_
 rintro _ _ ⟨b1, rfl, rfl⟩
 refine zz ?_
 refine Ops.v rfl (op_loadA (p := 0) (ds := [C.int p0.room, C.im kEvent 9 p0.events, C.im kEvent 9 p0.parked]) ld_24.h rfl rfl rfl rfl rfl) ?_
 refine zz ?_
 refine ob' h fun r2 g3 h => ?_
 refine Ops.hd (ns := []) rfl rfl (op_callE (Zct _ _ _ g3) rfl rfl) ?_
 refine zz ?_
 refine cnd h (fun hb4 h => ?_) fun hb4 h => ?_
 ·
  refine AW.ct hb4 rfl ?_
  refine zz ?_
  refine AW.ret ?_
  rw [← Option.some.inj h]
  exact ⟨[C.bool true], _, Ghost.refl _, (.cons (.tmp rfl) .nil), [], _, _, rfl, ⟨rfl, rfl⟩⟩
 refine AW.cf hb4 rfl ?_
 refine zz ?_
 refine Ops.v rfl (op_loadA (p := 0) (ds := [C.int p0.room, C.im kEvent 9 p0.events, C.im kEvent 9 p0.parked]) ld_24.h rfl rfl rfl rfl rfl) ?_
 refine ob' h fun r5 g6 h => ?_
 refine Ops.hd (ns := []) rfl rfl (op_callE (Z5q' _ _ g6) rfl rfl) ?_
 refine zz ?_
 refine ob' h fun r7 g8 h => ?_
 refine Ops.hd (ns := []) rfl rfl (op_callE (Zdm _ _ _ g8) rfl rfl) ?_
 refine Ops.h (ns := []) rfl rfl (op_alloc (cs := [C.int 0, C.int 0, C.int 0, C.int 0, C.int 0, C.int 0, C.str ByteArray.empty, C.val (.slice none 0 0), C.int 0, C.int 0]) ze_40 (cells_zero rfl rfl) rfl) ?_
 rintro _ _ ⟨b9, rfl, rfl⟩
 refine Ops.hd (ns := [0]) rfl rfl (op_storeA (gs := [C.int r7.event.id, C.int r7.event.room, C.int r7.event.author, C.int r7.event.kind, C.int r7.event.key, C.int r7.event.n, C.str r7.event.text, C.im kI64 1 r7.event.prev, C.int r7.event.time, C.int r7.code]) ld_40.h rfl rfl rfl rfl rfl) ?_
 refine zz ?_
 refine Ops.v rfl (op_loadA (p := 1) (ds := [C.int p0.room, C.im kEvent 9 p0.events, C.im kEvent 9 p0.parked]) ld_24.h rfl rfl rfl rfl rfl) ?_
 refine ob' h fun r10 g11 h => ?_
 refine Ops.h (ns := []) rfl rfl (op_call (Z5q _ _ g11) rfl rfl) ?_
 rintro _ _ ⟨_, ⟨v12, v13, rfl, rfl⟩, rfl⟩
 refine Ops.h (ns := []) rfl rfl (op_alloc (cs := [C.int 0, C.val (.slice none 0 0), C.val (.slice none 0 0)]) ze_30 (cells_zero rfl rfl) rfl) ?_
 rintro _ _ ⟨b14, rfl, rfl⟩
 refine Ops.hd (ns := [0]) rfl rfl (op_storeA (gs := [C.int r10.room, C.val v12, C.val v13]) ld_30.h rfl rfl rfl rfl rfl) ?_
 refine zz ?_
 refine Ops.v rfl (op_loadA (p := 0) (ds := [C.int r10.room, C.val v12, C.val v13]) ld_30.h rfl rfl rfl rfl rfl) ?_
 refine zz ?_
 refine ob' h fun r15 g16 h => ?_
 refine Ops.h (ns := [1, 1]) rfl rfl (op_call (Ok.lend (Z9p r10 p1 _ g16) (FrzT.cons (os := [_, _]) (Frz.agg (FrzL.cons (os := []) (Frz.same _) (FrzL.cons (os := [_]) (Frz.deep frz_kdEvent) (FrzL.cons (os := [_]) (Frz.deep frz_kdEvent) (FrzL.nil))))) (FrzT.cons (os := []) (Frz.same _) (FrzT.nil))) (by rintro _ _ ⟨_, rfl, rfl⟩; exact ⟨(PlainC.agg (PlainCs.cons (PlainC.val _) (PlainCs.cons (PlainC.val _) (PlainCs.cons (PlainC.val _) (PlainCs.cons (PlainC.val _) (PlainCs.cons (PlainC.val _) (PlainCs.cons (PlainC.val _) (PlainCs.cons (PlainC.val _) (PlainCs.cons (PlainC.val _) (PlainCs.cons (PlainC.val _) (PlainCs.cons (PlainC.val _) (PlainCs.nil)))))))))))), plainO_cons (PlainO.arr plain_kI64) (plainO_nil)⟩)) rfl rfl) ?_
 rintro _ _ ⟨_, ⟨_, ⟨v17, rfl, rfl⟩, rfl⟩, rfl⟩
 refine Ops.h (ns := []) rfl rfl (op_alloc (cs := [C.int 0, C.int 0, C.int 0, C.int 0, C.int 0, C.int 0, C.str ByteArray.empty, C.val (.slice none 0 0), C.int 0, C.int 0]) ze_40 (cells_zero rfl rfl) rfl) ?_
 rintro _ _ ⟨b19, rfl, rfl⟩
 refine Ops.hd (ns := [0]) rfl rfl (op_storeA (gs := [C.int r15.event.id, C.int r15.event.room, C.int r15.event.author, C.int r15.event.kind, C.int r15.event.key, C.int r15.event.n, C.str r15.event.text, C.val v17, C.int r15.event.time, C.int r15.code]) ld_40.h rfl rfl rfl rfl rfl) ?_
 refine zz ?_
 refine Ops.v rfl (op_loadA (p := 0) (ds := [C.int r15.event.id, C.int r15.event.room, C.int r15.event.author, C.int r15.event.kind, C.int r15.event.key, C.int r15.event.n, C.str r15.event.text, C.val v17, C.int r15.event.time, C.int r15.code]) ld_40.h rfl rfl rfl rfl rfl) ?_
 refine Ops.v rfl (op_loadA (p := 5) (ds := [C.int r7.event.id, C.int r7.event.room, C.int r7.event.author, C.int r7.event.kind, C.int r7.event.key, C.int r7.event.n, C.str r7.event.text, C.im kI64 1 r7.event.prev, C.int r7.event.time, C.int r7.code]) ld_40.h rfl rfl rfl rfl rfl) ?_
 refine ob' h fun r20 g21 h => ?_
 refine Ops.hd (ns := [1]) rfl rfl (op_callE (Ok.lendE (Zat r15 r7 _ g21) (FrzT.cons (os := [_]) (Frz.agg (FrzL.cons (os := []) (Frz.same _) (FrzL.cons (os := []) (Frz.same _) (FrzL.cons (os := []) (Frz.same _) (FrzL.cons (os := []) (Frz.same _) (FrzL.cons (os := []) (Frz.same _) (FrzL.cons (os := []) (Frz.same _) (FrzL.cons (os := []) (Frz.same _) (FrzL.cons (os := [_]) Frz.arr (FrzL.cons (os := []) (Frz.same _) (FrzL.cons (os := []) (Frz.same _) (FrzL.nil)))))))))))) (FrzT.cons (os := []) (Frz.same _) (FrzT.nil))) (PlainC.val _)) rfl rfl) ?_
 refine zz ?_
 refine cnd h (fun hb22 h => ?_) fun hb22 h => ?_
 ·
  refine AW.cond rfl (fun hn => absurd ((not_t hb22).symm.trans hn) (by decide)) (fun _ => ?_)
  refine zz ?_
  refine AW.regionD (L := [0, 1]) (Lt := []) (k := .light 0 true (.light 1 true (.one 2 (.one 3 (.light 4 false .done))))) (ns := [0, 0, 2, 2, 2]) (by kernel_rfl) (by kernel_rfl) (by kernel_rfl) (by kernel_rfl) rfl ?_
  refine OpsD.v rfl rfl (op_loadA (p := 2) (ds := [C.int r10.room, C.val v12, C.val v13]) ld_30.h rfl rfl rfl rfl rfl) ?_
  refine OpsD.v rfl rfl (op_loadA (p := 4) (ds := [C.int p0.room, C.im kEvent 9 p0.events, C.im kEvent 9 p0.parked]) ld_24.h rfl rfl rfl rfl rfl) ?_
  refine zz ?_
  refine ob' h fun r35 g36 h => ?_
  refine StepD.h (ns := []) rfl rfl rfl (op_callE (Z5q' _ _ g36) rfl rfl) ?_
  rintro _ _ ⟨rfl, rfl⟩
  refine zz ?_
  refine ob' h fun r37 g38 h => ?_
  refine StepD.h (ns := [0, 0]) rfl rfl rfl (op_callE (Ok.lendE (Zck r10 r35 _ g38) (FrzT.cons (os := [_, _]) (Frz.agg (FrzL.cons (os := []) (Frz.same _) (FrzL.cons (os := [_]) (Frz.deep frz_kdEvent) (FrzL.cons (os := [_]) (Frz.deep frz_kdEvent) (FrzL.nil))))) (FrzT.cons (os := []) (Frz.same _) (FrzT.nil))) (PlainC.val _)) rfl rfl) ?_
  rintro _ _ ⟨rfl, rfl⟩
  refine zz ?_
  refine cnd h (fun hb39 h => ?_) fun hb39 h => ?_
  ·
   refine AW.cond rfl (fun hn => absurd ((not_t hb39).symm.trans hn) (by decide)) (fun _ => ?_)
   refine zz ?_
   refine Ops.v rfl (op_loadA (p := 2) (ds := [C.int r10.room, C.val v12, C.val v13]) ld_30.h rfl rfl rfl rfl rfl) ?_
   refine zz ?_
   refine ob' h fun r40 g41 h => ?_
   refine Ops.hd (ns := [5, 5]) rfl rfl (op_callE (Zcq r10 1 _ g41) rfl rfl) ?_
   refine Ops.v rfl (op_assign rfl rfl) ?_
   refine Ops.nil ?_
   refine AW.seq ?_
   refine AW.seq ?_
   refine AW.cut (τ := Bool) (fun x45 => ⟨[(1, C.int p1), (2, C.val (.pointer (some ⟨b1, 0, none⟩))), (6, C.val (.pointer (some ⟨b9, 0, none⟩))), (8, C.val (.pointer (some ⟨b19, 0, none⟩))), (46, C.bool x45)], [Obj.box b1 24 [C.int p0.room, C.im kEvent 9 p0.events, C.im kEvent 9 p0.parked], Obj.box b9 40 [C.int r7.event.id, C.int r7.event.room, C.int r7.event.author, C.int r7.event.kind, C.int r7.event.key, C.int r7.event.n, C.str r7.event.text, C.im kI64 1 r7.event.prev, C.int r7.event.time, C.int r7.code], Obj.box b19 40 [C.int r15.event.id, C.int r15.event.room, C.int r15.event.author, C.int r15.event.kind, C.int r15.event.key, C.int r15.event.n, C.str r15.event.text, C.val v17, C.int r15.event.time, C.int r15.code], Obj.arr v17 2 kI64 1 r15.event.prev]⟩) (fun x45 => Z5g p0 p1 r7 r15 x45 = some r) ?_ ?_
   ·
    refine zz ?_
    refine cnd h (fun hb42 h => ?_) fun hb42 h => ?_
    ·
     refine zz ?_
     exact ⟨true, h, Ghost.both (ns := [6, 5, 3, 2]) rfl rfl⟩
    refine Ops.gv rfl rfl rfl rfl hb42 (op_loadA (p := 3) (ds := [C.int r15.event.id, C.int r15.event.room, C.int r15.event.author, C.int r15.event.kind, C.int r15.event.key, C.int r15.event.n, C.str r15.event.text, C.val v17, C.int r15.event.time, C.int r15.code]) ld_40.h rfl rfl rfl rfl rfl) ?_
    refine Ops.gv rfl rfl rfl rfl hb42 (op_loadA (p := 5) (ds := [C.int r7.event.id, C.int r7.event.room, C.int r7.event.author, C.int r7.event.kind, C.int r7.event.key, C.int r7.event.n, C.str r7.event.text, C.im kI64 1 r7.event.prev, C.int r7.event.time, C.int r7.code]) ld_40.h rfl rfl rfl rfl rfl) ?_
    refine ob' h fun r43 g44 h => ?_
    refine Ops.ghd (ns := [2]) rfl rfl rfl rfl hb42 rfl (op_callE (Ok.lendE (Zat r15 r7 _ g44) (FrzT.cons (os := [_]) (Frz.agg (FrzL.cons (os := []) (Frz.same _) (FrzL.cons (os := []) (Frz.same _) (FrzL.cons (os := []) (Frz.same _) (FrzL.cons (os := []) (Frz.same _) (FrzL.cons (os := []) (Frz.same _) (FrzL.cons (os := []) (Frz.same _) (FrzL.cons (os := []) (Frz.same _) (FrzL.cons (os := [_]) Frz.arr (FrzL.cons (os := []) (Frz.same _) (FrzL.cons (os := []) (Frz.same _) (FrzL.nil)))))))))))) (FrzT.cons (os := []) (Frz.same _) (FrzT.nil))) (PlainC.val _)) rfl rfl) ?_
    refine zz ?_
    exact ⟨(!r43), h, Ghost.both (ns := [6, 5, 3, 0]) rfl rfl⟩
   intro x45 h
   replace h : Z5g p0 p1 r7 r15 x45 = some r := h
   unfold Z5g at h
   refine cnd h (fun hb46 h => ?_) fun hb46 h => ?_
   ·
    refine AW.ct hb46 rfl ?_
    refine zz ?_
    refine AW.ret ?_
    rw [← Option.some.inj h]
    exact ⟨[C.bool false], _, Ghost.refl _, (.cons (.tmp rfl) .nil), [], _, _, rfl, ⟨rfl, rfl⟩⟩
   refine AW.cf hb46 rfl ?_
   refine zz ?_
   refine Ops.v rfl (op_loadA (p := 2) (ds := [C.int r15.event.id, C.int r15.event.room, C.int r15.event.author, C.int r15.event.kind, C.int r15.event.key, C.int r15.event.n, C.str r15.event.text, C.val v17, C.int r15.event.time, C.int r15.code]) ld_40.h rfl rfl rfl rfl rfl) ?_
   refine zz ?_
   refine ob' h fun r47 g48 h => ?_
   refine Ops.hd (ns := [3]) rfl rfl (op_callE (Zcp r15 1 _ g48) rfl rfl) ?_
   refine zz ?_
   refine Ops.v rfl (op_loadA (p := 3) (ds := [C.int r15.event.id, C.int r15.event.room, C.int r15.event.author, C.int r15.event.kind, C.int r15.event.key, C.int r15.event.n, C.str r15.event.text, C.val v17, C.int r15.event.time, C.int r15.code]) ld_40.h rfl rfl rfl rfl rfl) ?_
   refine zz ?_
   refine ob' h fun r49 g50 h => ?_
   refine Ops.hd (ns := [0]) rfl rfl (op_callE (Ok.lendE (Zbg (TEventOut.mk (TEvent.mk r15.event.id r15.event.room r15.event.author r15.event.kind r15.event.key r15.event.n r15.event.text r47.2 r15.event.time) r15.code) 1 _ g50) (FrzT.cons (os := [_]) (Frz.agg (FrzL.cons (os := []) (Frz.same _) (FrzL.cons (os := []) (Frz.same _) (FrzL.cons (os := []) (Frz.same _) (FrzL.cons (os := []) (Frz.same _) (FrzL.cons (os := []) (Frz.same _) (FrzL.cons (os := []) (Frz.same _) (FrzL.cons (os := []) (Frz.same _) (FrzL.cons (os := [_]) Frz.arr (FrzL.cons (os := []) (Frz.same _) (FrzL.cons (os := []) (Frz.same _) (FrzL.nil)))))))))))) (FrzT.cons (os := []) (Frz.same _) (FrzT.nil))) (PlainC.val _)) rfl rfl) ?_
   refine zz ?_
   refine cnd h (fun hb51 h => ?_) fun hb51 h => ?_
   ·
    refine AW.ct hb51 rfl ?_
    refine zz ?_
    refine AW.ret ?_
    rw [← Option.some.inj h]
    exact ⟨[C.bool false], _, Ghost.refl _, (.cons (.tmp rfl) .nil), [], _, _, rfl, ⟨rfl, rfl⟩⟩
   refine AW.cf hb51 rfl ?_
   refine zz ?_
   refine cnd h (fun hb52 h => ?_) fun hb52 h => ?_
   ·
    refine AW.ct hb52 rfl ?_
    refine zz ?_
    refine AW.ret ?_
    rw [← Option.some.inj h]
    exact ⟨[C.bool false], _, Ghost.refl _, (.cons (.tmp rfl) .nil), [], _, _, rfl, ⟨rfl, rfl⟩⟩
   refine AW.cf hb52 rfl ?_
   refine zz ?_
   refine Ops.v rfl (op_loadA (p := 1) (ds := [C.int p0.room, C.im kEvent 9 p0.events, C.im kEvent 9 p0.parked]) ld_24.h rfl rfl rfl rfl rfl) ?_
   refine ob' h fun r53 g54 h => ?_
   refine Ops.hd (ns := []) rfl rfl (op_callE (Z5q' _ _ g54) rfl rfl) ?_
   refine zz ?_
   refine ob' h fun r55 g56 h => ?_
   refine Ops.hd (ns := []) rfl rfl (op_callE (Z9p' _ _ _ g56) rfl rfl) ?_
   refine Ops.h (ns := []) rfl rfl (op_alloc (cs := [C.int 0, C.int 0, C.int 0, C.int 0, C.int 0, C.int 0, C.str ByteArray.empty, C.val (.slice none 0 0), C.int 0, C.int 0]) ze_40 (cells_zero rfl rfl) rfl) ?_
   rintro _ _ ⟨b57, rfl, rfl⟩
   refine Ops.hd (ns := [0]) rfl rfl (op_storeA (gs := [C.int r55.event.id, C.int r55.event.room, C.int r55.event.author, C.int r55.event.kind, C.int r55.event.key, C.int r55.event.n, C.str r55.event.text, C.im kI64 1 r55.event.prev, C.int r55.event.time, C.int r55.code]) ld_40.h rfl rfl rfl rfl rfl) ?_
   refine zz ?_
   refine Ops.v rfl (op_loadA (p := 0) (ds := [C.int r55.event.id, C.int r55.event.room, C.int r55.event.author, C.int r55.event.kind, C.int r55.event.key, C.int r55.event.n, C.str r55.event.text, C.im kI64 1 r55.event.prev, C.int r55.event.time, C.int r55.code]) ld_40.h rfl rfl rfl rfl rfl) ?_
   refine Ops.v rfl (op_loadA (p := 3) (ds := [C.int r7.event.id, C.int r7.event.room, C.int r7.event.author, C.int r7.event.kind, C.int r7.event.key, C.int r7.event.n, C.str r7.event.text, C.im kI64 1 r7.event.prev, C.int r7.event.time, C.int r7.code]) ld_40.h rfl rfl rfl rfl rfl) ?_
   refine ob' h fun r58 g59 h => ?_
   refine Ops.hd (ns := []) rfl rfl (op_callE (Zat _ _ _ g59) rfl rfl) ?_
   refine zz ?_
   refine cnd h (fun hb60 h => ?_) fun hb60 h => ?_
   ·
    refine AW.cond rfl (fun hn => absurd ((not_t hb60).symm.trans hn) (by decide)) (fun _ => ?_)
    refine zz ?_
    refine Ops.v rfl (op_loadA (p := 4) (ds := [C.int r15.event.id, C.int r15.event.room, C.int r15.event.author, C.int r15.event.kind, C.int r15.event.key, C.int r15.event.n, C.str r15.event.text, C.val v17, C.int r15.event.time, C.int r15.code]) ld_40.h rfl rfl rfl rfl rfl) ?_
    refine zz ?_
    refine ob' h fun r61 g62 h => ?_
    refine Ops.hd (ns := [1]) rfl rfl (op_callE (Ok.lendE (Zbg (TEventOut.mk (TEvent.mk r15.event.id r15.event.room r15.event.author r15.event.kind r15.event.key r15.event.n r15.event.text r47.2 r15.event.time) r15.code) 1 _ g62) (FrzT.cons (os := [_]) (Frz.agg (FrzL.cons (os := []) (Frz.same _) (FrzL.cons (os := []) (Frz.same _) (FrzL.cons (os := []) (Frz.same _) (FrzL.cons (os := []) (Frz.same _) (FrzL.cons (os := []) (Frz.same _) (FrzL.cons (os := []) (Frz.same _) (FrzL.cons (os := []) (Frz.same _) (FrzL.cons (os := [_]) Frz.arr (FrzL.cons (os := []) (Frz.same _) (FrzL.cons (os := []) (Frz.same _) (FrzL.nil)))))))))))) (FrzT.cons (os := []) (Frz.same _) (FrzT.nil))) (PlainC.val _)) rfl rfl) ?_
    refine zz ?_
    refine cnd h (fun hb63 h => ?_) fun hb63 h => ?_
    ·
     refine AW.ct hb63 rfl ?_
     refine zz ?_
     refine AW.ret ?_
     rw [← Option.some.inj h]
     exact ⟨[C.bool false], _, Ghost.refl _, (.cons (.tmp rfl) .nil), [], _, _, rfl, ⟨rfl, rfl⟩⟩
    refine AW.cf hb63 rfl ?_
    refine zz ?_
    refine cnd h (fun hb64 h => ?_) fun hb64 h => ?_
    ·
     refine AW.ct hb64 rfl ?_
     refine zz ?_
     refine AW.ret ?_
     rw [← Option.some.inj h]
     exact ⟨[C.bool false], _, Ghost.refl _, (.cons (.tmp rfl) .nil), [], _, _, rfl, ⟨rfl, rfl⟩⟩
    refine AW.cf hb64 rfl ?_
    refine zz ?_
    refine AW.ret ?_
    rw [← Option.some.inj h]
    exact ⟨[C.bool true], _, Ghost.refl _, (.cons (.tmp rfl) .nil), [], _, _, rfl, ⟨rfl, rfl⟩⟩
   refine AW.cond rfl (fun _ => ?_) (fun hn => absurd ((not_f hb60).symm.trans hn) (by decide))
   refine zz ?_
   refine AW.ret ?_
   rw [← Option.some.inj h]
   exact ⟨[C.bool false], _, Ghost.refl _, (.cons (.tmp rfl) .nil), [], _, _, rfl, ⟨rfl, rfl⟩⟩
  refine AW.cond rfl (fun _ => ?_) (fun hn => absurd ((not_f hb39).symm.trans hn) (by decide))
  refine zz ?_
  refine AW.ret ?_
  rw [← Option.some.inj h]
  exact ⟨[C.bool false], _, Ghost.refl _, (.cons (.tmp rfl) .nil), [], _, _, rfl, ⟨rfl, rfl⟩⟩
 refine AW.cond rfl (fun _ => ?_) (fun hn => absurd ((not_f hb22).symm.trans hn) (by decide))
 refine zz ?_
 refine AW.ret ?_
 rw [← Option.some.inj h]
 exact ⟨[C.bool false], _, Ghost.refl _, (.cons (.tmp rfl) .nil), [], _, _, rfl, ⟨rfl, rfl⟩⟩

end Go.Proofs.YtnndihmamfomcaaGreat
