/- Printed by gen.py: plain functions for Go functions, and that the walks keep to them. -/
import Derived.Test.YtbgichfjcnibpaaGreatFQ5
set_option autoImplicit false
set_option linter.unusedVariables false
set_option linter.unusedSimpArgs false
set_option maxHeartbeats 1000000
set_option maxRecDepth 100000
namespace Go.Proofs.YtbgichfjcnibpaaGreat
open Go Go.Abs
attribute [local irreducible] AW Ops OpsD Y3k
def Zev (p0 : Y8q) (p1 : Y8h) (r5 : List Y8n) (x15 : Int) (x29 : Bool) : Option ((List (Int × List Y8n)) × (List (Int × List Y8n)) × (List (Int × Int))) := cond x29 ((Zdw r5 (Y8n.mk p1.kind p1.key p1.id)).bind fun r31 => some ((mset p0.before p1.id r5), (mset (mset p0.after p1.id r5) p1.id r31), (mset p0.refused p1.id x15))) (some ((mset p0.before p1.id r5), (mset p0.after p1.id r5), (mset p0.refused p1.id x15)))
def Zew (p0 : Y8q) (p1 : Y8h) (r5 : List Y8n) (x15 : Int) : Option ((List (Int × List Y8n)) × (List (Int × List Y8n)) × (List (Int × Int))) := cond (x15 == 0) (Zev p0 p1 r5 x15 (decide (p1.kind ≤ 6))) (Zev p0 p1 r5 x15 false)
def Zex (p0 : Y8q) (p1 : Y8h) (r5 : List Y8n) (r7 : Int) (x13 : Bool) : Option ((List (Int × List Y8n)) × (List (Int × List Y8n)) × (List (Int × Int))) := cond x13 (Zew p0 p1 r5 6) (Zew p0 p1 r5 r7)
def Zey (p0 : Y8q) (p1 : Y8h) : Option ((List (Int × List Y8n)) × (List (Int × List Y8n)) × (List (Int × Int))) := (Zc9 p0 p1.prev).bind fun r2 => (Zem p0 r2).bind fun r5 => (Zdn p0.graph r5 p1).bind fun r7 => cond (r7 == 0) (cond (p1.kind == 8) ((Zet p0.graph p1.key p1).bind fun r11 => Zex p0 p1 r5 r7 (!r11)) (Zex p0 p1 r5 r7 false)) (Zex p0 p1 r5 r7 false)
theorem Zez {b00 : Nat} {b01 : Nat} {b02 : Nat} {b03 : Nat} {b04 : Nat} (p0 : Y8q) (p1 : Y8h) (r : (List (Int × List Y8n)) × (List (Int × List Y8n)) × (List (Int × Int))) (h : Zey p0 p1 = some r) : Ok Tryz.prog 192 [pt b00, C.agg [cI p1.id, cI p1.room, cI p1.author, cI p1.kind, cI p1.key, cI p1.n, C.str p1.text, cM kI64 1 p1.prev, cI p1.time]] [oB b00 196 [cI p0.graph.room, cM Y8t 9 p0.graph.events, cM Y8t 9 p0.graph.parked, mt b01, mt b02, mt b03, mt b04], Abs.Obj.map b01 .i64 Y96 p0.depth, Abs.Obj.map b02 .i64 Y97 p0.before, Abs.Obj.map b03 .i64 Y97 p0.after, Abs.Obj.map b04 .i64 Y96 p0.refused] (fun c qs => c = C.tup [] ∧ qs = [oB b00 196 [cI p0.graph.room, cM Y8t 9 p0.graph.events, cM Y8t 9 p0.graph.parked, mt b01, mt b02, mt b03, mt b04], Abs.Obj.map b01 .i64 Y96 p0.depth, Abs.Obj.map b02 .i64 Y97 r.1, Abs.Obj.map b03 .i64 Y97 r.2.1, Abs.Obj.map b04 .i64 Y96 r.2.2]) := by
 refine Ok.of_body (rs := []) Tryz.func192 rfl rfl rfl rfl rfl fun X => ?_
 unfold Zey at h
 refine zw ?_
 refine ox fun b1 => ?_
 refine zw ?_
 refine ob' h fun r2 g3 h => ?_
 refine Ops.h (ns := [1, 1, 1, 1, 1]) rfl rfl (Y21 (Zca p0 p1.prev _ g3) rfl rfl) ?_
 rintro _ _ ⟨_, ⟨v4, rfl, rfl⟩, rfl⟩
 refine ob' h fun r5 g6 h => ?_
 refine Ops.hd (ns := [0, 0, 0, 0, 0, 0]) rfl rfl (HOp.frz (t := 10) rfl Frz.arr (Y22 (Zen p0 r2 _ g6) rfl rfl)) ?_
 refine zw ?_
 refine rD [0,0,0,0,0,0] [3,5] [] [0,4,8,13,16,21,26,28] ?_
 refine OpsD.v rfl rfl (Yq rfl rfl) ?_
 refine OpsD.v rfl rfl (Y12 rfl rfl) ?_
 refine OpsD.v rfl rfl (Y19 Ycn.h rfl rfl) ?_
 refine OpsD.v rfl rfl (Y1j (p := 0) (ds := [cI p0.graph.room, cM Y8t 9 p0.graph.events, cM Y8t 9 p0.graph.parked]) Yak.h rfl rfl rfl rfl rfl) ?_
 refine OpsD.v rfl rfl (Yq rfl rfl) ?_
 refine OpsD.v rfl rfl (Y1j (p := 5) (ds := [cI p1.id, cI p1.room, cI p1.author, cI p1.kind, cI p1.key, cI p1.n, C.str p1.text, cM kI64 1 p1.prev, cI p1.time]) Yaa.h rfl rfl rfl rfl rfl) ?_
 refine zw ?_
 refine dc h fun r7 g8 h => ?_
 refine OpsD.v rfl rfl (Yr rfl rfl) ?_
 refine OpsD.done ?_
 refine AW.seq ?_
 refine AW.cut (τ := Int) (fun x15 => ⟨[(0, pt b00), (3, pt b1), (4, cM Y91 3 r5), (5, cI x15)], [oB b00 196 [cI p0.graph.room, cM Y8t 9 p0.graph.events, cM Y8t 9 p0.graph.parked, mt b01, mt b02, mt b03, mt b04], Abs.Obj.map b01 .i64 Y96 p0.depth, Abs.Obj.map b02 .i64 Y97 p0.before, Abs.Obj.map b03 .i64 Y97 p0.after, Abs.Obj.map b04 .i64 Y96 p0.refused, oB b1 136 [cI p1.id, cI p1.room, cI p1.author, cI p1.kind, cI p1.key, cI p1.n, C.str p1.text, cM kI64 1 p1.prev, cI p1.time]]⟩) (fun x15 => Zew p0 p1 r5 x15 = some r) ?_ ?_
 ·
  refine AW.seq ?_
  refine AW.cut (τ := Bool) (fun x13 => ⟨[(0, pt b00), (3, pt b1), (4, cM Y91 3 r5), (5, cI r7), (36, C.bool x13)], [oB b00 196 [cI p0.graph.room, cM Y8t 9 p0.graph.events, cM Y8t 9 p0.graph.parked, mt b01, mt b02, mt b03, mt b04], Abs.Obj.map b01 .i64 Y96 p0.depth, Abs.Obj.map b02 .i64 Y97 p0.before, Abs.Obj.map b03 .i64 Y97 p0.after, Abs.Obj.map b04 .i64 Y96 p0.refused, oB b1 136 [cI p1.id, cI p1.room, cI p1.author, cI p1.kind, cI p1.key, cI p1.n, C.str p1.text, cM kI64 1 p1.prev, cI p1.time]]⟩) (fun x13 => Zex p0 p1 r5 r7 x13 = some r) ?_ ?_
  ·
   refine rD [0,0,0,0,0,0] [4,11,13,14] [] [0,4,8,12,17,20,24,28,32,36,40,45,48,53,57,62,64,68] ?_
   refine zw ?_
   refine cnd h (fun hb9 h => ?_) fun hb9 h => ?_
   ·
    refine OpsD.gv rfl rfl rfl rfl rfl hb9 (Y19 Ya1.h rfl rfl) ?_
    refine OpsD.gv rfl rfl rfl rfl rfl hb9 (Y1i (p := 5) ld_2.h rfl rfl rfl rfl) ?_
    refine zw ?_
    refine cnd h (fun hb10 h => ?_) fun hb10 h => ?_
    ·
     refine OpsD.gv rfl rfl rfl rfl rfl hb10 (Yq rfl rfl) ?_
     refine OpsD.gv rfl rfl rfl rfl rfl hb10 (Y12 rfl rfl) ?_
     refine OpsD.gv rfl rfl rfl rfl rfl hb10 (Y19 Ycn.h rfl rfl) ?_
     refine OpsD.gv rfl rfl rfl rfl rfl hb10 (Y1j (p := 0) (ds := [cI p0.graph.room, cM Y8t 9 p0.graph.events, cM Y8t 9 p0.graph.parked]) Yak.h rfl rfl rfl rfl rfl) ?_
     refine OpsD.gv rfl rfl rfl rfl rfl hb10 (Y19 Ya3.h rfl rfl) ?_
     refine OpsD.gv rfl rfl rfl rfl rfl hb10 (Y1i (p := 5) ld_2.h rfl rfl rfl rfl) ?_
     refine OpsD.gv rfl rfl rfl rfl rfl hb10 (Y1j (p := 5) (ds := [cI p1.id, cI p1.room, cI p1.author, cI p1.kind, cI p1.key, cI p1.n, C.str p1.text, cM kI64 1 p1.prev, cI p1.time]) Yaa.h rfl rfl rfl rfl rfl) ?_
     refine zw ?_
     refine ob' h fun r11 g12 h => ?_
     refine Y3k.gh (ns := []) rfl rfl rfl rfl rfl hb10 rfl (Y22 ((Zeu _ _ _).h _ g12) rfl rfl) ?_
     rintro _ _ ⟨rfl, rfl⟩
     refine zw ?_
     exact ⟨(!r11), h, Y1z.both (ns := [0, 0, 0, 0, 0, 0]) rfl rfl⟩
    refine OpsD.gs rfl rfl rfl rfl (.b rfl hb10) rfl rfl ?_
    refine OpsD.gs rfl rfl rfl rfl (.b rfl hb10) rfl rfl ?_
    refine OpsD.gs rfl rfl rfl rfl (.b rfl hb10) rfl rfl ?_
    refine OpsD.gs rfl rfl rfl rfl (.b rfl hb10) rfl rfl ?_
    refine OpsD.gs rfl rfl rfl rfl (.b rfl hb10) rfl rfl ?_
    refine OpsD.gs rfl rfl rfl rfl (.b rfl hb10) rfl rfl ?_
    refine OpsD.gs rfl rfl rfl rfl (.b rfl hb10) rfl rfl ?_
    refine OpsD.one ?_
    refine Y3k.gs rfl rfl rfl rfl (.b rfl hb10) rfl rfl ?_
    refine zw ?_
    exact ⟨false, h, Y1z.both (ns := [0, 0, 0, 0, 0, 0]) rfl rfl⟩
   refine OpsD.gs rfl rfl rfl rfl (.b rfl hb9) rfl rfl ?_
   refine OpsD.gs rfl rfl rfl rfl (.b rfl hb9) rfl rfl ?_
   refine OpsD.gs rfl rfl rfl rfl (.b rfl hb9) rfl rfl ?_
   refine OpsD.v rfl rfl (Yt rfl hb9 rfl rfl) ?_
   refine OpsD.v rfl rfl (Yq rfl rfl) ?_
   refine OpsD.gs rfl rfl rfl rfl (.b rfl rfl) rfl rfl ?_
   refine OpsD.gs rfl rfl rfl rfl (.b rfl rfl) rfl rfl ?_
   refine OpsD.gs rfl rfl rfl rfl (.b rfl rfl) rfl rfl ?_
   refine OpsD.gs rfl rfl rfl rfl (.b rfl rfl) rfl rfl ?_
   refine OpsD.gs rfl rfl rfl rfl (.b rfl rfl) rfl rfl ?_
   refine OpsD.gs rfl rfl rfl rfl (.b rfl rfl) rfl rfl ?_
   refine OpsD.gs rfl rfl rfl rfl (.b rfl rfl) rfl rfl ?_
   refine OpsD.one ?_
   refine Y3k.gs rfl rfl rfl rfl (.b rfl rfl) rfl rfl ?_
   refine zw ?_
   exact ⟨false, h, Y1z.both (ns := [0, 0, 0, 0, 0, 0]) rfl rfl⟩
  intro x13 h
  replace h : Zex p0 p1 r5 r7 x13 = some r := h
  unfold Zex at h
  refine cnd h (fun hb14 h => ?_) fun hb14 h => ?_
  ·
   refine AW.ct hb14 rfl ?_
   refine zw ?_
   exact ⟨6, h, Y1z.both (ns := [0, 0, 0, 0, 0, 0]) rfl rfl⟩
  refine AW.cf hb14 rfl ?_
  refine zw ?_
  exact ⟨r7, h, Y1z.both (ns := [0, 0, 0, 0, 0, 0]) rfl rfl⟩
 intro x15 h
 replace h : Zew p0 p1 r5 x15 = some r := h
 unfold Zew at h
 refine zw ?_
 refine rD [0,0,3] [3,5,9,11,15,17] [29] [0,4,8,13,16,21,24,28,32,37,40,45,48,52,56,61,64,69,72,76,80,86,88,94,98,100,106,110,112,119] ?_
 refine OpsD.v rfl rfl (Yq rfl rfl) ?_
 refine OpsD.v rfl rfl (Y12 rfl rfl) ?_
 refine OpsD.v rfl rfl (Y19 Ycr.h rfl rfl) ?_
 refine OpsD.v rfl rfl (Y1i (p := 0) Ych.h rfl rfl rfl rfl) ?_
 refine OpsD.v rfl rfl (Y19 Y9v.h rfl rfl) ?_
 refine OpsD.v rfl rfl (Y1i (p := 2) ld_2.h rfl rfl rfl rfl) ?_
 refine OpsD.v rfl rfl (Yq rfl rfl) ?_
 refine OpsD.v rfl rfl (Y12 rfl rfl) ?_
 refine OpsD.v rfl rfl (Y19 Ycg.h rfl rfl) ?_
 refine OpsD.v rfl rfl (Y1i (p := 0) Ych.h rfl rfl rfl rfl) ?_
 refine OpsD.v rfl rfl (Y19 Y9v.h rfl rfl) ?_
 refine OpsD.v rfl rfl (Y1i (p := 2) ld_2.h rfl rfl rfl rfl) ?_
 refine OpsD.v rfl rfl (Yq rfl rfl) ?_
 refine OpsD.v rfl rfl (Y12 rfl rfl) ?_
 refine OpsD.v rfl rfl (Y19 Ycs.h rfl rfl) ?_
 refine OpsD.v rfl rfl (Y1i (p := 0) Ycp.h rfl rfl rfl rfl) ?_
 refine OpsD.v rfl rfl (Y19 Y9v.h rfl rfl) ?_
 refine OpsD.v rfl rfl (Y1i (p := 2) ld_2.h rfl rfl rfl rfl) ?_
 refine OpsD.v rfl rfl (Yq rfl rfl) ?_
 refine OpsD.v rfl rfl (Yq rfl rfl) ?_
 refine OpsD.v rfl rfl (Yq rfl rfl) ?_
 refine OpsD.one ?_
 refine Y3k.h (ns := [0]) rfl rfl rfl (Y6f (kc := Y97) (z0 := ([] : List Y8n)) Yci Ycj (fun w F => Imp.nil Y91 3 w F _ rfl) rfl rfl rfl) ?_
 rintro _ _ ⟨st25, rfl, rfl⟩
 refine OpsD.v rfl rfl (Y11 rfl rfl rfl) ?_
 refine OpsD.one ?_
 refine Y3k.h (ns := [0]) rfl rfl rfl (Y6g (kc := Y97) (v := r5) rfl rfl rfl rfl) ?_
 rintro _ _ ⟨rfl, rfl⟩
 refine OpsD.one ?_
 refine Y3k.h (ns := [1]) rfl rfl rfl (Y6f (kc := Y97) (z0 := ([] : List Y8n)) Yci Ycj (fun w F => Imp.nil Y91 3 w F _ rfl) rfl rfl rfl) ?_
 rintro _ _ ⟨st26, rfl, rfl⟩
 refine OpsD.v rfl rfl (Y11 rfl rfl rfl) ?_
 refine OpsD.one ?_
 refine Y3k.h (ns := [0]) rfl rfl rfl (Y6g (kc := Y97) (v := r5) rfl rfl rfl rfl) ?_
 rintro _ _ ⟨rfl, rfl⟩
 refine OpsD.one ?_
 refine Y3k.h (ns := [2]) rfl rfl rfl (Y6f (kc := Y96) (z0 := 0) Ycq zv_2 (fun _ _ => rfl) rfl rfl rfl) ?_
 rintro _ _ ⟨st27, rfl, rfl⟩
 refine zw ?_
 refine OpsD.late (ns := [3]) rfl rfl rfl (Y6g (kc := Y96) (v := x15) rfl rfl rfl rfl) ?_
 rintro _ _ ⟨rfl, rfl⟩
 refine OpsD.done ?_
 refine AW.seq ?_
 refine AW.cut (τ := Bool) (fun x29 => ⟨[(0, pt b00), (3, pt b1), (4, cM Y91 3 r5), (70, C.bool x29)], [oB b00 196 [cI p0.graph.room, cM Y8t 9 p0.graph.events, cM Y8t 9 p0.graph.parked, mt b01, mt b02, mt b03, mt b04], Abs.Obj.map b01 .i64 Y96 p0.depth, Abs.Obj.map b02 .i64 Y97 (mset p0.before p1.id r5), Abs.Obj.map b03 .i64 Y97 (mset p0.after p1.id r5), Abs.Obj.map b04 .i64 Y96 (mset p0.refused p1.id x15), oB b1 136 [cI p1.id, cI p1.room, cI p1.author, cI p1.kind, cI p1.key, cI p1.n, C.str p1.text, cM kI64 1 p1.prev, cI p1.time]]⟩) (fun x29 => Zev p0 p1 r5 x15 x29 = some r) ?_ ?_
 ·
  refine zw ?_
  refine cnd h (fun hb28 h => ?_) fun hb28 h => ?_
  ·
   refine zw ?_
   exact ⟨decide (p1.kind ≤ 6), h, Y1z.both (ns := [1, 1, 3, 2, 0, 0]) rfl rfl⟩
  refine zw ?_
  exact ⟨false, h, Y1z.both (ns := [1, 1, 3, 2, 0, 0]) rfl rfl⟩
 intro x29 h
 replace h : Zev p0 p1 r5 x15 x29 = some r := h
 unfold Zev at h
 refine cnd h (fun hb30 h => ?_) fun hb30 h => ?_
 ·
  refine AW.ct hb30 rfl ?_
  refine rD [0,0,0,0,0,0] [3,5,8,10,12] [15] [0,4,8,13,16,21,24,28,33,36,41,44,49,52,58,63] ?_
  refine OpsD.v rfl rfl (Yq rfl rfl) ?_
  refine OpsD.v rfl rfl (Y12 rfl rfl) ?_
  refine OpsD.v rfl rfl (Y19 Ycg.h rfl rfl) ?_
  refine OpsD.v rfl rfl (Y1i (p := 0) Ych.h rfl rfl rfl rfl) ?_
  refine OpsD.v rfl rfl (Y19 Y9v.h rfl rfl) ?_
  refine OpsD.v rfl rfl (Y1i (p := 5) ld_2.h rfl rfl rfl rfl) ?_
  refine OpsD.v rfl rfl (Yq rfl rfl) ?_
  refine OpsD.v rfl rfl (Y19 Ya1.h rfl rfl) ?_
  refine OpsD.v rfl rfl (Y1i (p := 5) ld_2.h rfl rfl rfl rfl) ?_
  refine OpsD.v rfl rfl (Y19 Ya3.h rfl rfl) ?_
  refine OpsD.v rfl rfl (Y1i (p := 5) ld_2.h rfl rfl rfl rfl) ?_
  refine OpsD.v rfl rfl (Y19 Y9v.h rfl rfl) ?_
  refine OpsD.v rfl rfl (Y1i (p := 5) ld_2.h rfl rfl rfl rfl) ?_
  refine OpsD.v rfl rfl (Y35 (ds := [cI p1.kind, cI p1.key, cI p1.id]) Ybk Ybl (Y3z rfl rfl) (.one rfl (One.val rfl) rfl rfl (.one rfl (One.val rfl) rfl rfl (.one rfl (One.val rfl) rfl rfl .nil))) rfl) ?_
  refine zw ?_
  refine dc h fun r31 g32 h => ?_
  refine OpsD.late (ns := [3]) rfl rfl rfl (Y6d (kc := Y97) (v := r31) Yci rfl rfl rfl rfl) ?_
  rintro _ _ ⟨rfl, rfl⟩
  refine zw ?_
  rw [← Wj h]
  exact ⟨[], _, Y1z.refl _, .nil, [1, 1, 1, 0, 0], _, _, rfl, ⟨rfl, rfl⟩⟩
 refine AW.cf hb30 rfl ?_
 refine zw ?_
 rw [← Wj h]
 exact ⟨[], _, Y1z.refl _, .nil, [0, 0, 0, 0, 0], _, _, rfl, ⟨rfl, rfl⟩⟩

def Zf0 (p0 : Y8l) (m23 : List (Int × Int)) (m46 : List (Int × List Y8n)) (m47 : List (Int × List Y8n)) (m48 : List (Int × Int)) : Option Y8q := some (Y8q.mk p0 m23 m46 m47 m48)
def Zf1 (p0 : Y8l) (m23 : List (Int × Int)) (r24 : List Int) (m34 : List (Int × List Y8n)) (m35 : List (Int × List Y8n)) (m36 : List (Int × Int)) (x37 : Int) : Option (((List (Int × List Y8n)) × (List (Int × List Y8n)) × (List (Int × Int)) × Int) ⊕ (((List (Int × List Y8n)) × (List (Int × List Y8n)) × (List (Int × Int))))) := cond (decide (x37 < (r24.length : Int))) ((getI r24 x37).bind fun e39 => (Zc5 p0 e39).bind fun r41 => (Zey (Y8q.mk p0 m23 m34 m35 m36) r41.1).bind fun r44 => some (.inl (r44.1, r44.2.1, r44.2.2, (IntKind.i64.wrap (x37 + 1))))) (some (.inr (m34, m35, m36)))
def Zf2 (p0 : Y8l) (m23 : List (Int × Int)) : Option Y8q := (Zc3 p0).bind fun r24 => (iter (fun z54 => Zf1 p0 m23 r24 z54.1 z54.2.1 z54.2.2.1 z54.2.2.2) big (([] : List (Int × List Y8n)), ([] : List (Int × List Y8n)), ([] : List (Int × Int)), 0)).bind fun (y55, y56, y57) => Zf0 p0 m23 y55 y56 y57
def Zf3 (p0 : Y8l) (r7 : List Int × Bool) (m15 : List (Int × Int)) (x16 : Int) : Option (((List (Int × Int)) × Int) ⊕ ((List (Int × Int)))) := cond (decide (x16 < (p0.events.length : Int))) ((getI p0.events x16).bind fun e18 => (getI r7.1 x16).bind fun e21 => some (.inl ((mset m15 e18.id e21), (IntKind.i64.wrap (x16 + 1))))) (some (.inr m15))
def Zf4 (p0 : Y8l) : Option Y8q := (Za2 p0).bind fun r7 => (iter (fun z58 => Zf3 p0 r7 z58.1 z58.2) big (([] : List (Int × Int)), 0)).bind fun y59 => Zf2 p0 y59
theorem Zf5 (p0 : Y8l) (r : Y8q) (h : Zf4 p0 = some r) : Ok Tryz.prog 136 [C.agg [cI p0.room, cM Y8t 9 p0.events, cM Y8t 9 p0.parked]] [] (fun c qs => ∃ (b49 : Nat) (b50 : Nat) (b51 : Nat) (b52 : Nat) (b53 : Nat), c = pt b49 ∧ qs = [oB b49 196 [cI r.graph.room, cM Y8t 9 r.graph.events, cM Y8t 9 r.graph.parked, mt b50, mt b51, mt b52, mt b53], Abs.Obj.map b50 .i64 Y96 r.depth, Abs.Obj.map b51 .i64 Y97 r.before, Abs.Obj.map b52 .i64 Y97 r.after, Abs.Obj.map b53 .i64 Y96 r.refused]) := by
 refine Ok.of_body (rs := [.tmp 2]) Tryz.func136 rfl rfl rfl rfl rfl fun X => ?_
 unfold Zf4 at h
 refine zw ?_
 refine ox fun b1 => ?_
 refine zw ?_
 refine Ops.h (ns := []) rfl rfl (Y6a (kd := .i64) (kc := Y96) rfl) ?_
 rintro _ _ ⟨b2, rfl, rfl⟩
 refine Ops.h (ns := []) rfl rfl (Y6a (kd := .i64) (kc := Y97) rfl) ?_
 rintro _ _ ⟨b3, rfl, rfl⟩
 refine Ops.h (ns := []) rfl rfl (Y6a (kd := .i64) (kc := Y97) rfl) ?_
 rintro _ _ ⟨b4, rfl, rfl⟩
 refine Ops.h (ns := []) rfl rfl (Y6a (kd := .i64) (kc := Y96) rfl) ?_
 rintro _ _ ⟨b5, rfl, rfl⟩
 refine Ops.v rfl (Y35 (ds := [cI p0.room, cM Y8t 9 p0.events, cM Y8t 9 p0.parked, mt b2, mt b3, mt b4, mt b5]) Yct Ycu (Y3z rfl rfl) (.agg rfl rfl rfl (.one rfl (One.val rfl) rfl rfl (.one rfl (One.val rfl) rfl rfl (.one rfl (One.val rfl) rfl rfl (.one rfl (One.val rfl) rfl rfl .nil))))) rfl) ?_
 refine ox fun b6 => ?_
 refine Ops.v rfl (Yr rfl rfl) ?_
 refine Ops.nil ?_
 refine AW.seq ?_
 refine AW.region ?_
 refine Ops.v rfl (Y1j (p := 5) (ds := [cI p0.room, cM Y8t 9 p0.events, cM Y8t 9 p0.parked]) Yak.h rfl rfl rfl rfl rfl) ?_
 refine oc h fun r7 g8 h => ?_
 refine Ops.v rfl (Yq rfl rfl) ?_
 refine Ops.v rfl (Y11 rfl rfl rfl) ?_
 refine Ops.v rfl (Y11 rfl rfl rfl) ?_
 refine Ops.v rfl (Yr rfl rfl) ?_
 refine Ops.v rfl (Yr rfl rfl) ?_
 refine Ops.nil ?_
 refine AW.seq ?_
 refine AW.cut (τ := (List (Int × Int))) (fun m23 => ⟨[(1, pt b1), (3, pt b6)], [oB b1 139 [cI p0.room, cM Y8t 9 p0.events, cM Y8t 9 p0.parked], oB b6 196 [cI p0.room, cM Y8t 9 p0.events, cM Y8t 9 p0.parked, mt b2, mt b3, mt b4, mt b5], Abs.Obj.map b2 .i64 Y96 m23, Abs.Obj.map b3 .i64 Y97 ([] : List (Int × List Y8n)), Abs.Obj.map b4 .i64 Y97 ([] : List (Int × List Y8n)), Abs.Obj.map b5 .i64 Y96 ([] : List (Int × Int))]⟩) (fun m23 => Zf2 p0 m23 = some r) ?_ ?_
 ·
  refine AW.seq ?_
  refine AW.region ?_
  refine Ops.v rfl (Y19 Yah.h rfl rfl) ?_
  refine Ops.v rfl (Y1i (p := 5) Yai.h rfl rfl rfl rfl) ?_
  refine zw ?_
  refine AW.lp (v := ()) h (fun (m15, x16) (_ : Unit) => ⟨[(1, pt b1), (3, pt b6), (4, cM kI64 1 r7.1), (25, cM Y8t 9 p0.events), (26, cI (p0.events.length : Int)), (27, cI x16)], [oB b1 139 [cI p0.room, cM Y8t 9 p0.events, cM Y8t 9 p0.parked], oB b6 196 [cI p0.room, cM Y8t 9 p0.events, cM Y8t 9 p0.parked, mt b2, mt b3, mt b4, mt b5], Abs.Obj.map b2 .i64 Y96 m15, Abs.Obj.map b3 .i64 Y97 ([] : List (Int × List Y8n)), Abs.Obj.map b4 .i64 Y97 ([] : List (Int × List Y8n)), Abs.Obj.map b5 .i64 Y96 ([] : List (Int × Int))]⟩) (gb [5, 0, 3, 2, 1, 0]) ?_
  rintro ⟨m15, x16⟩ _ y72 h
  refine zw ?_
  refine cnd h (fun hb17 h => ?_) fun hb17 h => ?_
  ·
   refine AW.ct hb17 rfl ?_
   refine zw ?_
   refine oi h fun e18 g19 h => ?_
   refine zw ?_
   refine Ops.h (ns := []) rfl rfl (Y1n (cs := [cI 0, cI 0, cI 0, cI 0, cI 0, cI 0, C.str ByteArray.empty, cV s0, cI 0]) Y9t (Y3z rfl rfl) rfl) ?_
   rintro _ _ ⟨b20, rfl, rfl⟩
   refine zw ?_
   refine Ops.hd (ns := [0]) rfl rfl (Y1s (gs := [cI e18.id, cI e18.room, cI e18.author, cI e18.kind, cI e18.key, cI e18.n, C.str e18.text, cM kI64 1 e18.prev, cI e18.time]) Yaa.h rfl rfl rfl rfl rfl) ?_
   refine zw ?_
   refine rD [0,0,0,0,0,0,0] [3,5,9] [10] [0,4,8,13,16,21,24,28,32,37,43] ?_
   refine zw ?_
   refine di h fun e21 g22 h => ?_
   refine zw ?_
   refine OpsD.late (ns := [3]) rfl rfl rfl (Y6d (kc := Y96) (v := e21) Ycq rfl rfl rfl rfl) ?_
   rintro _ _ ⟨rfl, rfl⟩
   refine zw ?_
   exact lu h (gb [2, 2, 0, 1, 1, 1])
  refine AW.cf hb17 rfl ?_
  refine AW.exit ?_
  refine lx h fun h => ?_
  exact ⟨m15, h, Y1z.both (ns := [0, 0, 0, 0, 0, 0]) rfl rfl⟩
 intro m23 h
 replace h : Zf2 p0 m23 = some r := h
 unfold Zf2 at h
 refine AW.seq ?_
 refine AW.cut (τ := (List (Int × List Y8n)) × (List (Int × List Y8n)) × (List (Int × Int))) (fun (m46, m47, m48) => ⟨[(3, pt b6)], [oB b6 196 [cI p0.room, cM Y8t 9 p0.events, cM Y8t 9 p0.parked, mt b2, mt b3, mt b4, mt b5], Abs.Obj.map b2 .i64 Y96 m23, Abs.Obj.map b3 .i64 Y97 m46, Abs.Obj.map b4 .i64 Y97 m47, Abs.Obj.map b5 .i64 Y96 m48]⟩) (fun (m46, m47, m48) => Zf0 p0 m23 m46 m47 m48 = some r) ?_ ?_
 ·
  refine zw ?_
  refine oc h fun r24 g25 h => ?_
  refine zw ?_
  refine AW.lp (v := ()) h (fun (m34, m35, m36, x37) (_ : Unit) => ⟨[(1, pt b1), (3, pt b6), (44, cM kI64 1 r24), (45, cI (r24.length : Int)), (46, cI x37)], [oB b1 139 [cI p0.room, cM Y8t 9 p0.events, cM Y8t 9 p0.parked], oB b6 196 [cI p0.room, cM Y8t 9 p0.events, cM Y8t 9 p0.parked, mt b2, mt b3, mt b4, mt b5], Abs.Obj.map b2 .i64 Y96 m23, Abs.Obj.map b3 .i64 Y97 m34, Abs.Obj.map b4 .i64 Y97 m35, Abs.Obj.map b5 .i64 Y96 m36]⟩) (gb [0, 0, 0, 0, 0, 0]) ?_
  rintro ⟨m34, m35, m36, x37⟩ _ y65 h
  refine zw ?_
  refine cnd h (fun hb38 h => ?_) fun hb38 h => ?_
  ·
   refine AW.ct hb38 rfl ?_
   refine zw ?_
   refine oi h fun e39 g40 h => ?_
   refine zw ?_
   refine oc h fun r41 g42 h => ?_
   refine zw ?_
   refine Ops.h (ns := []) rfl rfl (Y1n (cs := [cI 0, cI 0, cI 0, cI 0, cI 0, cI 0, C.str ByteArray.empty, cV s0, cI 0]) Y9t (Y3z rfl rfl) rfl) ?_
   rintro _ _ ⟨b43, rfl, rfl⟩
   refine Ops.hd (ns := [0]) rfl rfl (Y1s (gs := [cI r41.1.id, cI r41.1.room, cI r41.1.author, cI r41.1.kind, cI r41.1.key, cI r41.1.n, C.str r41.1.text, cM kI64 1 r41.1.prev, cI r41.1.time]) Yaa.h rfl rfl rfl rfl rfl) ?_
   refine zw ?_
   refine ob' h fun r44 g45 h => ?_
   refine Ops.hd (ns := [2, 2, 2, 2, 2]) rfl rfl (Y22 (Zez (Y8q.mk p0 m23 m34 m35 m36) r41.1 _ g45) rfl rfl) ?_
   refine zw ?_
   exact lu h (gb [6, 0, 0, 0, 0, 0])
  refine AW.cf hb38 rfl ?_
  refine AW.exit ?_
  refine lx h fun h => ?_
  exact ⟨(m34, m35, m36), h, Y1z.both (ns := [1, 1, 1, 1, 1]) rfl rfl⟩
 rintro ⟨m46, m47, m48⟩ h
 replace h : Zf0 p0 m23 m46 m47 m48 = some r := h
 unfold Zf0 at h
 refine zw ?_
 refine AW.ret ?_
 rw [← Wj h]
 exact ⟨[pt b6], _, Y1z.refl _, (.cons (.tmp rfl) .nil), [0, 0, 0, 0, 0], _, _, rfl, ⟨b6, b2, b3, b4, b5, rfl, rfl⟩⟩
instance Zf5' (p0 : Y8l) : Sp Tryz.prog 136 [C.agg [cI p0.room, cM Y8t 9 p0.events, cM Y8t 9 p0.parked]] (Zf4 p0) (fun r => C.ip [cI r.graph.room, cM Y8t 9 r.graph.events, cM Y8t 9 r.graph.parked, C.imap .i64 Y96 r.depth, C.imap .i64 Y97 r.before, C.imap .i64 Y97 r.after, C.imap .i64 Y96 r.refused]) := ⟨fun r h => Ok.freeze (Zf5 p0 r h) (by rintro c qs ⟨b49, b50, b51, b52, b53, rfl, rfl⟩; exact Frz.box (fS (fS (fS (FrzL.cons (os := [_]) (Frz.map) (FrzL.cons (os := [_]) (Frz.map) (FrzL.cons (os := [_]) (Frz.map) (FrzL.cons (os := [_]) (Frz.map) (FrzL.nil)))))))))⟩

def Zf6 (l28 : List Int) : Option (List Int) := some l28
def Zf7 (x15 : Int) (l26 : List Int) : Option ((List Int × Int) ⊕ ((List Int))) := some (.inl (l26, (IntKind.i64.wrap (x15 + 1))))
def Zf8 (p0 : Y8q) (l14 : List Int) (x15 : Int) : Option ((List Int × Int) ⊕ ((List Int))) := cond (decide (x15 < (p0.graph.events.length : Int))) ((getI p0.graph.events x15).bind fun e17 => cond ((Option.getD (mget p0.refused e17.id) 0) == 0) ((chk (decide ((l14.length + [e17.id].length) * 8 ≤ 140737488355328))).bind fun u23 => Zf7 x15 (l14 ++ [e17.id])) (Zf7 x15 l14)) (some (.inr l14))
def Zf9 (p0 : Y8q) : Option (List Int) := (iter (fun z30 => Zf8 p0 z30.1 z30.2) big (([] : List Int), 0)).bind fun y31 => Zf6 y31
theorem Zfa (p0 : Y8q) (r : List Int) (h : Zf9 p0 = some r) : Ok Tryz.prog 137 [C.ip [cI p0.graph.room, cM Y8t 9 p0.graph.events, cM Y8t 9 p0.graph.parked, C.imap .i64 Y96 p0.depth, C.imap .i64 Y97 p0.before, C.imap .i64 Y97 p0.after, C.imap .i64 Y96 p0.refused]] [] (fun c qs => ∃ (v29 : Value), c = cV v29 ∧ qs = [oA v29 2 kI64 1 r]) := by
 refine Ok.of_body (rs := [.tmp 2]) Tryz.func137 rfl rfl rfl rfl rfl fun X => ?_
 unfold Zf9 at h
 refine zw ?_
 refine Ops.h (ns := []) rfl rfl (Y36 (k := kI64) (ys := ([] : List Int)) Y9s .nil rfl rfl rfl) ?_
 rintro _ _ ⟨b1, rfl, rfl⟩
 refine Ops.v rfl (Yr rfl rfl) ?_
 refine Ops.nil ?_
 refine AW.seq ?_
 refine AW.cut (τ := List Int × Value) (fun (l28, v27) => ⟨[(3, cV v27)], [oA v27 2 kI64 1 l28]⟩) (fun (l28, v27) => Zf6 l28 = some r) ?_ ?_
 ·
  refine zw ?_
  refine AW.lp h (fun (l14, x15) (v13 : Value) => ⟨[(0, C.ip [cI p0.graph.room, cM Y8t 9 p0.graph.events, cM Y8t 9 p0.graph.parked, C.imap .i64 Y96 p0.depth, C.imap .i64 Y97 p0.before, C.imap .i64 Y97 p0.after, C.imap .i64 Y96 p0.refused]), (3, cV v13), (11, cM Y8t 9 p0.graph.events), (12, cI (p0.graph.events.length : Int)), (13, cI x15)], [oA v13 2 kI64 1 l14]⟩) (gb [0]) ?_
  rintro ⟨l14, x15⟩ v13 y37 h
  refine zw ?_
  refine cnd h (fun hb16 h => ?_) fun hb16 h => ?_
  ·
   refine AW.ct hb16 rfl ?_
   refine zw ?_
   refine oi h fun e17 g18 h => ?_
   refine zw ?_
   refine Ops.h (ns := []) rfl rfl (Y1n (cs := [cI 0, cI 0, cI 0, cI 0, cI 0, cI 0, C.str ByteArray.empty, cV s0, cI 0]) Y9t (Y3z rfl rfl) rfl) ?_
   rintro _ _ ⟨b19, rfl, rfl⟩
   refine Ops.hd (ns := [0]) rfl rfl (Y1s (gs := [cI e17.id, cI e17.room, cI e17.author, cI e17.kind, cI e17.key, cI e17.n, C.str e17.text, cM kI64 1 e17.prev, cI e17.time]) Yaa.h rfl rfl rfl rfl rfl) ?_
   refine zw ?_
   refine rD [0,0] [3,5,6] [] [0,4,8,13,16,21,25,28] ?_
   refine zw ?_
   refine OpsD.v rfl rfl (Y7v (kc := Y96) (z0 := 0) Ycq zv_2 (fun _ _ => rfl) rfl rfl rfl) ?_
   refine zw ?_
   refine cnd h (fun hb20 h => ?_) fun hb20 h => ?_
   ·
    refine AW.ct hb20 rfl ?_
    refine zw ?_
    refine Ops.h (ns := []) rfl rfl (Y36 (k := kI64) (ys := [e17.id]) Y9s (.one rfl (One.val rfl) rfl rfl .nil) rfl rfl rfl) ?_
    rintro _ _ ⟨b21, rfl, rfl⟩
    refine ob' h fun u23 c22 h => ?_
    refine Ops.h (ns := [2, 0]) rfl rfl (Y2q Y9s rfl rfl (Wo (Y3q c22)) (Y3t (by decide) c22) rfl) ?_
    rintro _ _ ⟨v24, rfl, rfl⟩
    exact go
   exact go
  exact go
 rintro ⟨l28, v27⟩ h
 replace h : Zf6 l28 = some r := h
 unfold Zf6 at h
 refine zw ?_
 refine AW.ret ?_
 rw [← Wj h]
 exact ⟨[cV v27], _, Y1z.refl _, (.cons (.tmp rfl) .nil), [0], _, _, rfl, ⟨v27, rfl, rfl⟩⟩
instance Zfa' (p0 : Y8q) : Sp Tryz.prog 137 [C.ip [cI p0.graph.room, cM Y8t 9 p0.graph.events, cM Y8t 9 p0.graph.parked, C.imap .i64 Y96 p0.depth, C.imap .i64 Y97 p0.before, C.imap .i64 Y97 p0.after, C.imap .i64 Y96 p0.refused]] (Zf9 p0) (fun r => cM kI64 1 r) := ⟨fun r h => Ok.freeze (Zfa p0 r h) (by rintro c qs ⟨v29, rfl, rfl⟩; exact Frz.arr)⟩

def Zfb (p0 : Y8r) (p1 : Int) : Option Y8q := (getI p0.rooms (IntKind.i64.wrap (p1 - 1))).bind fun e1 => some e1
theorem Zfc {b00 : Nat} {w01 : Value} (p0 : Y8r) (p1 : Int) (r : Y8q) (h : Zfb p0 p1 = some r) : Ok Tryz.prog 138 [pt b00, cI p1] [oB b00 145 [cM Y8y 3 p0.hub.rooms, cM Y8v 2 p0.hub.stream, cV w01], oA w01 186 Y99 1 p0.rooms] (fun c qs => c = C.ip [cI r.graph.room, cM Y8t 9 r.graph.events, cM Y8t 9 r.graph.parked, C.imap .i64 Y96 r.depth, C.imap .i64 Y97 r.before, C.imap .i64 Y97 r.after, C.imap .i64 Y96 r.refused] ∧ qs = [oB b00 145 [cM Y8y 3 p0.hub.rooms, cM Y8v 2 p0.hub.stream, cV w01], oA w01 186 Y99 1 p0.rooms]) := by
 refine Ok.of_body (rs := [.tmp 4]) Tryz.func138 rfl rfl rfl rfl rfl fun X => ?_
 unfold Zfb at h
 refine zw ?_
 refine ob' h fun e1 g2 h => ?_
 refine Ops.v rfl (Y2v (p := 1) Ycx.h rfl rfl rfl g2 rfl) ?_
 refine Ops.v rfl (Y2x (p := 1) Ycm.h rfl rfl (Y27 g2).2.2 rfl rfl) ?_
 refine zw ?_
 refine AW.ret ?_
 rw [← Wj h]
 exact ⟨[C.ip [cI e1.graph.room, cM Y8t 9 e1.graph.events, cM Y8t 9 e1.graph.parked, C.imap .i64 Y96 e1.depth, C.imap .i64 Y97 e1.before, C.imap .i64 Y97 e1.after, C.imap .i64 Y96 e1.refused]], _, Y1z.refl _, (.cons (.tmp rfl) .nil), [0, 0], _, _, rfl, ⟨rfl, rfl⟩⟩

def Zfd (x2 : Bool) : Option Bool := some x2
def Zfe (p0 : Int) (q0 : Y8q) (q1 : List ((Int × Int) × Bool)) (q2 : Y8j) : Option Bool := cond ((Option.getD (mget q0.refused p0) 0) == 0) (Zfd (!(Option.getD (pget q1 (q2.room, p0)) false))) (Zfd false)
theorem Zff {b00 : Nat} {b01 : Nat} {b02 : Nat} {b03 : Nat} (p0 : Int) (q0 : Y8q) (q1 : List ((Int × Int) × Bool)) (q2 : Y8j) (r : Bool) (h : Zfe p0 q0 q1 q2 = some r) : Ok Tryz.prog 141 [cI p0, pt b00, pt b01, pt b03] [oB b00 186 [C.ip [cI q0.graph.room, cM Y8t 9 q0.graph.events, cM Y8t 9 q0.graph.parked, C.imap .i64 Y96 q0.depth, C.imap .i64 Y97 q0.before, C.imap .i64 Y97 q0.after, C.imap .i64 Y96 q0.refused]], oB b01 189 [mt b02], Abs.Obj.pmap b02 Y98 q1, oB b03 142 [cI q2.room, cI q2.id]] (fun c qs => c = C.bool r ∧ qs = [oB b00 186 [C.ip [cI q0.graph.room, cM Y8t 9 q0.graph.events, cM Y8t 9 q0.graph.parked, C.imap .i64 Y96 q0.depth, C.imap .i64 Y97 q0.before, C.imap .i64 Y97 q0.after, C.imap .i64 Y96 q0.refused]], oB b01 189 [mt b02], Abs.Obj.pmap b02 Y98 q1, oB b03 142 [cI q2.room, cI q2.id]]) := by
 refine Ok.of_body (rs := [.tmp 5]) Tryz.func141 rfl rfl rfl rfl rfl fun X => ?_
 unfold Zfe at h
 refine AW.seq ?_
 refine AW.region ?_
 refine Ops.v rfl (Yr rfl rfl) ?_
 refine Ops.nil ?_
 refine AW.seq ?_
 refine AW.cut (τ := Bool) (fun x2 => ⟨[(5, C.bool x2)], [oB b00 186 [C.ip [cI q0.graph.room, cM Y8t 9 q0.graph.events, cM Y8t 9 q0.graph.parked, C.imap .i64 Y96 q0.depth, C.imap .i64 Y97 q0.before, C.imap .i64 Y97 q0.after, C.imap .i64 Y96 q0.refused]], oB b01 189 [mt b02], Abs.Obj.pmap b02 Y98 q1, oB b03 142 [cI q2.room, cI q2.id]]⟩) (fun x2 => Zfd x2 = some r) ?_ ?_
 ·
  refine zw ?_
  refine Ops.v rfl (Y7v (kc := Y96) (z0 := 0) Ycq zv_2 (fun _ _ => rfl) rfl rfl rfl) ?_
  refine zw ?_
  refine cnd h (fun hb1 h => ?_) fun hb1 h => ?_
  ·
   refine zw ?_
   refine Ops.gv rfl rfl rfl rfl hb1 (Y35 (ds := [cI q2.room, cI p0]) Yd5 Yao (Y3z rfl rfl) (.one rfl (One.val rfl) rfl rfl (.one rfl (One.val rfl) rfl rfl .nil)) rfl) ?_
   refine Ops.gv rfl rfl rfl rfl hb1 (Y87 (p := 2) (j := (q2.room, p0)) (kc := Y98) (z0 := false) Yd3 zv_4 (fun _ _ => rfl) rfl rfl rfl rfl) ?_
   refine zw ?_
   exact ⟨(!(Option.getD (pget q1 (q2.room, p0)) false)), h, Y1z.both (ns := [0, 0, 0, 0]) rfl rfl⟩
  refine zw ?_
  exact ⟨false, h, Y1z.both (ns := [0, 0, 0, 0]) rfl rfl⟩
 intro x2 h
 replace h : Zfd x2 = some r := h
 unfold Zfd at h
 refine AW.ret ?_
 rw [← Wj h]
 exact ⟨[C.bool x2], _, Y1z.refl _, (.cons (.tmp rfl) .nil), [0, 0, 0, 0], _, _, rfl, ⟨rfl, rfl⟩⟩

def Zfg : Option Int := some (-1)
def Zfh (p0 : List Int) (p1_0 : Y8q) (p1_1 : List ((Int × Int) × Bool)) (p1_2 : Y8j) (x7 : Int) : Option (Int ⊕ (Int ⊕ Unit)) := cond (decide (x7 < (p0.length : Int))) ((getI p0 x7).bind fun e9 => (Zfe e9 p1_0 p1_1 p1_2).bind fun r11 => cond r11 (some (.inr (.inl x7))) (some (.inl (IntKind.i64.wrap (x7 + 1))))) (some (.inr (.inr ())))
def Zfi (p0 : List Int) (p1_0 : Y8q) (p1_1 : List ((Int × Int) × Bool)) (p1_2 : Y8j) : Option Int := (iter (Zfh p0 p1_0 p1_1 p1_2) big 0).bind (fun z15 => match z15 with | .inl y14 => some y14 | .inr () => Zfg)
theorem Zfj {b00 : Nat} {b01 : Nat} {b02 : Nat} {b03 : Nat} (p0 : List Int) (p1_0 : Y8q) (p1_1 : List ((Int × Int) × Bool)) (p1_2 : Y8j) (r : Int) (h : Zfi p0 p1_0 p1_1 p1_2 = some r) : Ok Tryz.prog 194 [cM kI64 1 p0, C.clo 141 [pt b00, pt b01, pt b03]] [oB b00 186 [C.ip [cI p1_0.graph.room, cM Y8t 9 p1_0.graph.events, cM Y8t 9 p1_0.graph.parked, C.imap .i64 Y96 p1_0.depth, C.imap .i64 Y97 p1_0.before, C.imap .i64 Y97 p1_0.after, C.imap .i64 Y96 p1_0.refused]], oB b01 189 [mt b02], Abs.Obj.pmap b02 Y98 p1_1, oB b03 142 [cI p1_2.room, cI p1_2.id]] (fun c qs => c = cI r ∧ qs = [oB b00 186 [C.ip [cI p1_0.graph.room, cM Y8t 9 p1_0.graph.events, cM Y8t 9 p1_0.graph.parked, C.imap .i64 Y96 p1_0.depth, C.imap .i64 Y97 p1_0.before, C.imap .i64 Y97 p1_0.after, C.imap .i64 Y96 p1_0.refused]], oB b01 189 [mt b02], Abs.Obj.pmap b02 Y98 p1_1, oB b03 142 [cI p1_2.room, cI p1_2.id]]) := by
 refine Ok.of_body (rs := [.tmp 4]) Tryz.func194 rfl rfl rfl rfl rfl fun X => ?_
 unfold Zfi at h
 refine AW.seq ?_
 refine AW.region ?_
 refine Ops.v rfl (Yr rfl rfl) ?_
 refine Ops.nil ?_
 refine AW.seq ?_
 refine AW.cut (τ := Unit) (fun (_ : Unit) => ⟨[], [oB b00 186 [C.ip [cI p1_0.graph.room, cM Y8t 9 p1_0.graph.events, cM Y8t 9 p1_0.graph.parked, C.imap .i64 Y96 p1_0.depth, C.imap .i64 Y97 p1_0.before, C.imap .i64 Y97 p1_0.after, C.imap .i64 Y96 p1_0.refused]], oB b01 189 [mt b02], Abs.Obj.pmap b02 Y98 p1_1, oB b03 142 [cI p1_2.room, cI p1_2.id]]⟩) (fun (_ : Unit) => Zfg = some r) ?_ ?_
 ·
  refine zw ?_
  refine AW.lp (v := ()) h (fun x7 (_ : Unit) => ⟨[(0, cM kI64 1 p0), (1, C.clo 141 [pt b00, pt b01, pt b03]), (7, cI (p0.length : Int)), (8, cI x7)], [oB b00 186 [C.ip [cI p1_0.graph.room, cM Y8t 9 p1_0.graph.events, cM Y8t 9 p1_0.graph.parked, C.imap .i64 Y96 p1_0.depth, C.imap .i64 Y97 p1_0.before, C.imap .i64 Y97 p1_0.after, C.imap .i64 Y96 p1_0.refused]], oB b01 189 [mt b02], Abs.Obj.pmap b02 Y98 p1_1, oB b03 142 [cI p1_2.room, cI p1_2.id]]⟩) (gb [0, 0, 0, 0]) ?_
  rintro x7 _ y21 h
  refine zw ?_
  refine cnd h (fun hb8 h => ?_) fun hb8 h => ?_
  ·
   refine AW.ct hb8 rfl ?_
   refine zw ?_
   refine oi h fun e9 g10 h => ?_
   refine zw ?_
   refine ob' h fun r11 g12 h => ?_
   refine Ops.hd (ns := [0, 0, 0, 0]) rfl rfl (Y6j (cs := [_]) (ds := [_, _, _]) rfl (Zff e9 p1_0 p1_1 p1_2 _ g12) rfl rfl) ?_
   refine zw ?_
   refine cnd h (fun hb13 h => ?_) fun hb13 h => ?_
   ·
    refine AW.ct hb13 rfl ?_
    refine zw ?_
    refine AW.ret ?_
    refine lx h fun h => ?_
    rw [← Wj h]
    exact ⟨[cI x7], _, Y1z.refl _, (.cons (.tmp rfl) .nil), [0, 0, 0, 0], _, _, rfl, ⟨rfl, rfl⟩⟩
   refine AW.cf hb13 rfl ?_
   refine zw ?_
   exact lu h (gb [0, 0, 0, 0])
  refine AW.cf hb8 rfl ?_
  refine AW.exit ?_
  refine lx h fun h => ?_
  exact ⟨(), h, Y1z.both (ns := [0, 0, 0, 0]) rfl rfl⟩
 rintro ⟨⟩ h
 replace h : Zfg = some r := h
 unfold Zfg at h
 refine zw ?_
 refine AW.ret ?_
 rw [← Wj h]
 exact ⟨[cI (-1)], _, Y1z.refl _, (.cons (.tmp rfl) .nil), [0, 0, 0, 0], _, _, rfl, ⟨rfl, rfl⟩⟩

def Zfk (p0 : List Int) (p1_0 : Y8q) (p1_1 : List ((Int × Int) × Bool)) (p1_2 : Y8j) : Option Bool := (Zfi p0 p1_0 p1_1 p1_2).bind fun r1 => some (decide (r1 ≥ 0))
theorem Zfl {b00 : Nat} {b01 : Nat} {b02 : Nat} {b03 : Nat} (p0 : List Int) (p1_0 : Y8q) (p1_1 : List ((Int × Int) × Bool)) (p1_2 : Y8j) (r : Bool) (h : Zfk p0 p1_0 p1_1 p1_2 = some r) : Ok Tryz.prog 140 [cM kI64 1 p0, C.clo 141 [pt b00, pt b01, pt b03]] [oB b00 186 [C.ip [cI p1_0.graph.room, cM Y8t 9 p1_0.graph.events, cM Y8t 9 p1_0.graph.parked, C.imap .i64 Y96 p1_0.depth, C.imap .i64 Y97 p1_0.before, C.imap .i64 Y97 p1_0.after, C.imap .i64 Y96 p1_0.refused]], oB b01 189 [mt b02], Abs.Obj.pmap b02 Y98 p1_1, oB b03 142 [cI p1_2.room, cI p1_2.id]] (fun c qs => c = C.bool r ∧ qs = [oB b00 186 [C.ip [cI p1_0.graph.room, cM Y8t 9 p1_0.graph.events, cM Y8t 9 p1_0.graph.parked, C.imap .i64 Y96 p1_0.depth, C.imap .i64 Y97 p1_0.before, C.imap .i64 Y97 p1_0.after, C.imap .i64 Y96 p1_0.refused]], oB b01 189 [mt b02], Abs.Obj.pmap b02 Y98 p1_1, oB b03 142 [cI p1_2.room, cI p1_2.id]]) := by
 refine Ok.of_body (rs := [.tmp 4]) Tryz.func140 rfl rfl rfl rfl rfl fun X => ?_
 unfold Zfk at h
 refine zw ?_
 refine ob' h fun r1 g2 h => ?_
 refine Ops.hd (ns := [0, 0, 0, 0]) rfl rfl (Y22 (Zfj p0 p1_0 p1_1 p1_2 _ g2) rfl rfl) ?_
 refine zw ?_
 refine AW.ret ?_
 rw [← Wj h]
 exact ⟨[C.bool (decide (r1 ≥ 0))], _, Y1z.refl _, (.cons (.tmp rfl) .nil), [0, 0, 0, 0], _, _, rfl, ⟨rfl, rfl⟩⟩

def Zfm (p0 : Y8m) (l100 : List Y8q) (x101 : Int) : Option (Y8r × Bool) := cond (x101 == (p0.stream.length : Int)) (some ((Y8r.mk p0 l100), (x101 == (p0.stream.length : Int)))) (some ((Y8r.mk (Y8m.mk [] []) []), (x101 == (p0.stream.length : Int))))
def Zfn (m178 : List ((Int × Int) × Bool)) (x179 : Int) (e181 : Y8j) (x252 : Bool) : Option (((List ((Int × Int) × Bool)) × Int) ⊕ ((Y8r × Bool) ⊕ Unit)) := cond x252 (some (.inr (.inl ((Y8r.mk (Y8m.mk [] []) []), false)))) (some (.inl ((pset m178 (e181.room, e181.id) true), (IntKind.i64.wrap (x179 + 1)))))
def Zfo (m178 : List ((Int × Int) × Bool)) (x179 : Int) (e181 : Y8j) (r189 : Y8q) (x196 : Int) (x197 : Int) (x198 : Int) (x199 : Int) (x200 : Int) (x201 : Int) (x202 : ByteArray) (l203 : List Int) (x204 : Int) (x205 : Bool) : Option (((List ((Int × Int) × Bool)) × Int) ⊕ ((Y8r × Bool) ⊕ Unit)) := cond x205 (cond ((Option.getD (mget r189.refused e181.id) 0) != 0) (Zfn m178 x179 e181 true) ((Zfk l203 r189 m178 e181).bind fun r244 => Zfn m178 x179 e181 r244)) (Zfn m178 x179 e181 true)
def Zfp (p0 : Y8m) (l100 : List Y8q) (m178 : List ((Int × Int) × Bool)) (x179 : Int) (e181 : Y8j) (x187 : Bool) : Option (((List ((Int × Int) × Bool)) × Int) ⊕ ((Y8r × Bool) ⊕ Unit)) := cond x187 (some (.inr (.inl ((Y8r.mk (Y8m.mk [] []) []), false)))) ((Zfb (Y8r.mk p0 l100) e181.room).bind fun r189 => (Zc5 r189.graph e181.id).bind fun r192 => Zfo m178 x179 e181 r189 r192.1.id r192.1.room r192.1.author r192.1.kind r192.1.key r192.1.n r192.1.text r192.1.prev r192.1.time r192.2)
def Zfq (p0 : Y8m) (l100 : List Y8q) (m178 : List ((Int × Int) × Bool)) (x179 : Int) : Option (((List ((Int × Int) × Bool)) × Int) ⊕ ((Y8r × Bool) ⊕ Unit)) := cond (decide (x179 < (p0.stream.length : Int))) ((getI p0.stream x179).bind fun e181 => (Z82 e181.room).bind fun r184 => cond r184 (Zfp p0 l100 m178 x179 e181 (Option.getD (pget m178 (e181.room, e181.id)) false)) (Zfp p0 l100 m178 x179 e181 true)) (some (.inr (.inr ())))
def Zfr (p0 : Y8m) (l100 : List Y8q) (x101 : Int) : Option (Y8r × Bool) := (iter (fun z255 => Zfq p0 l100 z255.1 z255.2) big (([] : List ((Int × Int) × Bool)), 0)).bind (fun z257 => match z257 with | .inl y256 => some y256 | .inr () => Zfm p0 l100 x101)
def Zfs (l57 : List Y8q) (x58 : Int) (x59 : Int) (e61 : Y8l) (x67 : Bool) : Option ((List Y8q × Int × Int) ⊕ ((Y8r × Bool) ⊕ (List Y8q × Int))) := cond x67 (some (.inr (.inl ((Y8r.mk (Y8m.mk [] []) []), false)))) ((Zf4 e61).bind fun r83 => (chk (decide ((l57.length + [r83].length) * 8 ≤ 140737488355328))).bind fun u92 => (getI (l57 ++ [r83]) x59).bind fun e95 => (Zf9 e95).bind fun r97 => some (.inl ((l57 ++ [r83]), (IntKind.i64.wrap (x58 + (r97.length : Int))), (IntKind.i64.wrap (x59 + 1)))))
def Zft (p0 : Y8m) (l57 : List Y8q) (x58 : Int) (x59 : Int) : Option ((List Y8q × Int × Int) ⊕ ((Y8r × Bool) ⊕ (List Y8q × Int))) := cond (decide (x59 < (p0.rooms.length : Int))) ((getI p0.rooms x59).bind fun e61 => (Zam e61).bind fun r64 => cond r64 (Zfs l57 x58 x59 e61 (e61.room != (IntKind.i64.wrap (x59 + 1)))) (Zfs l57 x58 x59 e61 true)) (some (.inr (.inr (l57, x58))))
def Zfu (p0 : Y8m) (x3 : Bool) : Option (Y8r × Bool) := cond x3 (some ((Y8r.mk (Y8m.mk [] []) []), false)) ((iter (fun z258 => Zft p0 z258.1 z258.2.1 z258.2.2) big ([], 0, 0)).bind (fun z262 => match z262 with | .inl y259 => some y259 | .inr (y260, y261) => Zfr p0 y260 y261))
def Zfv (p0 : Y8m) : Option (Y8r × Bool) := cond ((p0.rooms.length : Int) != 3) (Zfu p0 true) (Zfu p0 (decide ((p0.stream.length : Int) > 120)))
theorem Zfw (p0 : Y8m) (r : Y8r × Bool) (h : Zfv p0 = some r) : Ok Tryz.prog 73 [C.agg [cM Y8y 3 p0.rooms, cM Y8v 2 p0.stream]] [] (fun c qs => (r.2 = true ∧ c = C.tup [C.ip [cM Y8y 3 r.1.hub.rooms, cM Y8v 2 r.1.hub.stream, cM Y99 1 r.1.rooms], C.bool r.2] ∧ qs = []) ∨ (r.2 = false ∧ c = C.tup [C.any, C.bool r.2] ∧ qs = [])) := by
 refine Ok.of_body (rs := [.tmp 2, .tmp 3]) Tryz.func73 rfl rfl rfl rfl rfl fun X => ?_
 unfold Zfv at h
 refine zw ?_
 refine ox fun b1 => ?_
 refine Ops.v rfl (Yr rfl rfl) ?_
 refine Ops.v rfl (Yr rfl rfl) ?_
 refine Ops.nil ?_
 refine AW.seq ?_
 refine AW.seq ?_
 refine AW.cut (τ := Bool) (fun x3 => ⟨[(1, pt b1), (23, C.bool x3)], [oB b1 32 [cM Y8y 3 p0.rooms, cM Y8v 2 p0.stream]]⟩) (fun x3 => Zfu p0 x3 = some r) go fun x3 h => ?_
 replace h : Zfu p0 x3 = some r := h
 unfold Zfu at h
 refine cnd h (fun hb4 h => ?_) fun hb4 h => ?_
 ·
  refine AW.ct hb4 rfl ?_
  refine zw ?_
  refine AW.ret ?_
  rw [← Wj h]
  exact ⟨[C.any, C.bool false], _, Y1z.imp (t := 2) rfl (Imp.any _), (.cons (.tmp rfl) (.cons (.tmp rfl) .nil)), [], _, _, rfl, .inr ⟨rfl, rfl, rfl⟩⟩
 refine AW.cf hb4 rfl ?_
 refine zw ?_
 refine Ops.v rfl (Y35 (ds := [cM Y8y 3 p0.rooms, cM Y8v 2 p0.stream, cV s0]) Ycy Ycz (Y3z rfl rfl) (.agg rfl rfl rfl .nil) rfl) ?_
 refine ox fun b5 => ?_
 refine Ops.v rfl (Yr rfl rfl) ?_
 refine Ops.v rfl (Yr rfl rfl) ?_
 refine Ops.nil ?_
 refine AW.seq ?_
 refine AW.cut (τ := List Y8q × Int × Value) (fun (l100, x101, v99) => ⟨[(1, pt b1), (4, pt b5), (5, cI x101)], [oB b1 32 [cM Y8y 3 p0.rooms, cM Y8v 2 p0.stream], oB b5 145 [cM Y8y 3 p0.rooms, cM Y8v 2 p0.stream, cV v99], oA v99 186 Y99 1 l100]⟩) (fun (l100, x101, v99) => Zfr p0 l100 x101 = some r) ?_ ?_
 ·
  refine zw ?_
  refine AW.lp h (fun (l57, x58, x59) (v56 : Value) => ⟨[(1, pt b1), (4, pt b5), (5, cI x58), (28, cM Y8y 3 p0.rooms), (29, cI (p0.rooms.length : Int)), (30, cI x59)], [oB b1 32 [cM Y8y 3 p0.rooms, cM Y8v 2 p0.stream], oB b5 145 [cM Y8y 3 p0.rooms, cM Y8v 2 p0.stream, cV v56], oA v56 186 Y99 1 l57]⟩) ((Y1z.nil 186 Y99 1).trans (Y1z.both (ns := [2, 1, 0]) rfl rfl)) ?_
  rintro ⟨l57, x58, x59⟩ v56 y275 h
  refine zw ?_
  refine cnd h (fun hb60 h => ?_) fun hb60 h => ?_
  ·
   refine AW.ct hb60 rfl ?_
   refine zw ?_
   refine oi h fun e61 g62 h => ?_
   refine zw ?_
   refine Ops.h (ns := []) rfl rfl (Y1n (cs := [cI 0, cV s0, cV s0]) Yae (Y3z rfl rfl) rfl) ?_
   rintro _ _ ⟨b63, rfl, rfl⟩
   refine zw ?_
   refine Ops.hd (ns := [0]) rfl rfl (Y1s (gs := [cI e61.room, cM Y8t 9 e61.events, cM Y8t 9 e61.parked]) Yak.h rfl rfl rfl rfl rfl) ?_
   refine Ops.nil ?_
   refine AW.seq ?_
   refine AW.seq ?_
   refine AW.cut (τ := Bool) (fun x67 => ⟨[(1, pt b1), (4, pt b5), (5, cI x58), (6, cI x59), (7, pt b63), (28, cM Y8y 3 p0.rooms), (29, cI (p0.rooms.length : Int)), (30, cI x59), (44, C.bool x67)], [oB b1 32 [cM Y8y 3 p0.rooms, cM Y8v 2 p0.stream], oB b5 145 [cM Y8y 3 p0.rooms, cM Y8v 2 p0.stream, cV v56], oA v56 186 Y99 1 l57, oB b63 139 [cI e61.room, cM Y8t 9 e61.events, cM Y8t 9 e61.parked]]⟩) (fun x67 => Zfs l57 x58 x59 e61 x67 = some y275) ?_ ?_
   ·
    refine zw ?_
    refine oc h fun r64 g65 h => ?_
    refine zw ?_
    refine cnd h (fun hb66 h => ?_) fun hb66 h => ?_
    ·
     refine zw ?_
     exact ⟨(e61.room != (IntKind.i64.wrap (x59 + 1))), h, Y1z.both (ns := [1, 1, 1, 0]) rfl rfl⟩
    refine zw ?_
    exact ⟨true, h, Y1z.both (ns := [1, 1, 1, 0]) rfl rfl⟩
   intro x67 h
   replace h : Zfs l57 x58 x59 e61 x67 = some y275 := h
   unfold Zfs at h
   refine cnd h (fun hb68 h => ?_) fun hb68 h => ?_
   ·
    refine AW.ct hb68 rfl ?_
    refine zw ?_
    refine AW.ret ?_
    refine lx h fun h => ?_
    rw [← Wj h]
    exact ⟨[C.any, C.bool false], _, Y1z.imp (t := 2) rfl (Imp.any _), (.cons (.tmp rfl) (.cons (.tmp rfl) .nil)), [], _, _, rfl, .inr ⟨rfl, rfl, rfl⟩⟩
   refine AW.cf hb68 rfl ?_
   refine zw ?_
   refine rD [0,0,1] [4,5] [11] [0,4,8,12,17,21,26,30,34,36,40,47] ?_
   refine zw ?_
   refine ob' h fun r83 g84 h => ?_
   refine Y3k.h (ns := []) rfl rfl rfl (Y21 (Zf5 _ _ g84) rfl rfl) ?_
   rintro _ _ ⟨_, ⟨b85, b86, b87, b88, b89, rfl, rfl⟩, rfl⟩
   refine OpsD.one ?_
   refine Y3k.h (ns := [0, 0, 0, 0, 0]) rfl rfl rfl (HOp.frz (t := 51) rfl (Frz.box (fS (fS (fS (FrzL.cons (os := [_]) Frz.map (FrzL.cons (os := [_]) Frz.map (FrzL.cons (os := [_]) Frz.map (FrzL.cons (os := [_]) Frz.map FrzL.nil)))))))) (Y36 (k := Y99) (ys := [r83]) Yd0 (.one rfl One.ip rfl rfl .nil) rfl rfl rfl)) ?_
   rintro _ _ ⟨b90, rfl, rfl⟩
   refine zw ?_
   refine ob' h fun u92 c91 h => ?_
   refine Y3k.h (ns := [1, 0]) rfl rfl rfl (Y2q Yd0 rfl rfl (Wo (Y3q c91)) (Y3t (by decide) c91) rfl) ?_
   rintro _ _ ⟨v93, rfl, rfl⟩
   refine OpsD.v rfl rfl (Y12 rfl rfl) ?_
   refine OpsD.v rfl rfl (Y19 Ycv.h rfl rfl) ?_
   refine OpsD.learn (Sim.arr_one (p := 3) rfl) fun n94 => ?_
   refine OpsD.late (ns := [1]) rfl rfl rfl (Y1r (gs := [cM Y8y 3 p0.rooms, cM Y8v 2 p0.stream, cV v93]) Ycw.h rfl rfl (One.val n94) rfl rfl) ?_
   rintro _ _ ⟨rfl, rfl⟩
   refine zw ?_
   refine ob' h fun e95 g96 h => ?_
   refine Ops.v rfl (Y2v (p := 3) Ycx.h rfl rfl rfl g96 rfl) ?_
   refine Ops.v rfl (Y2x (p := 3) Ycm.h rfl rfl (Y27 g96).2.2 rfl rfl) ?_
   exact go
  exact go
 rintro ⟨l100, x101, v99⟩ h
 replace h : Zfr p0 l100 x101 = some r := h
 unfold Zfr at h
 refine zw ?_
 refine Ops.h (ns := []) rfl rfl (Y85 (kc := Y98) rfl) ?_
 rintro _ _ ⟨b102, rfl, rfl⟩
 refine Ops.h (ns := []) rfl rfl (Y1n (cs := [cV (.map none)]) Yd1 (Y3z rfl rfl) rfl) ?_
 rintro _ _ ⟨b103, rfl, rfl⟩
 refine Ops.hd (ns := [0]) rfl rfl (Y1r (gs := [mt b102]) Yd2.h rfl rfl (One.val rfl) rfl rfl) ?_
 refine Ops.nil ?_
 refine AW.seq ?_
 refine AW.cut (τ := Unit) (fun (_ : Unit) => ⟨[(1, pt b1), (4, pt b5), (5, cI x101)], [oB b1 32 [cM Y8y 3 p0.rooms, cM Y8v 2 p0.stream], oB b5 145 [cM Y8y 3 p0.rooms, cM Y8v 2 p0.stream, cV v99], oA v99 186 Y99 1 l100]⟩) (fun (_ : Unit) => Zfm p0 l100 x101 = some r) ?_ ?_
 ·
  refine zw ?_
  refine AW.lp (v := ()) h (fun (m178, x179) (_ : Unit) => ⟨[(1, pt b1), (4, pt b5), (5, cI x101), (8, pt b103), (70, cM Y8v 2 p0.stream), (71, cI (p0.stream.length : Int)), (72, cI x179)], [oB b1 32 [cM Y8y 3 p0.rooms, cM Y8v 2 p0.stream], oB b5 145 [cM Y8y 3 p0.rooms, cM Y8v 2 p0.stream, cV v99], oA v99 186 Y99 1 l100, oB b103 189 [mt b102], Abs.Obj.pmap b102 Y98 m178]⟩) (gb [2, 2, 2, 0, 0]) ?_
  rintro ⟨m178, x179⟩ _ y268 h
  refine zw ?_
  refine cnd h (fun hb180 h => ?_) fun hb180 h => ?_
  ·
   refine AW.ct hb180 rfl ?_
   refine zw ?_
   refine oi h fun e181 g182 h => ?_
   refine zw ?_
   refine Ops.h (ns := []) rfl rfl (Y1n (cs := [cI 0, cI 0]) Yao (Y3z rfl rfl) rfl) ?_
   rintro _ _ ⟨b183, rfl, rfl⟩
   refine Ops.hd (ns := [0]) rfl rfl (Y1s (gs := [cI e181.room, cI e181.id]) Yat.h rfl rfl rfl rfl rfl) ?_
   refine Ops.nil ?_
   refine AW.seq ?_
   refine AW.seq ?_
   refine AW.cut (τ := Bool) (fun x187 => ⟨[(1, pt b1), (4, pt b5), (5, cI x101), (8, pt b103), (10, pt b183), (70, cM Y8v 2 p0.stream), (71, cI (p0.stream.length : Int)), (72, cI x179), (84, C.bool x187)], [oB b1 32 [cM Y8y 3 p0.rooms, cM Y8v 2 p0.stream], oB b5 145 [cM Y8y 3 p0.rooms, cM Y8v 2 p0.stream, cV v99], oA v99 186 Y99 1 l100, oB b103 189 [mt b102], Abs.Obj.pmap b102 Y98 m178, oB b183 142 [cI e181.room, cI e181.id]]⟩) (fun x187 => Zfp p0 l100 m178 x179 e181 x187 = some y268) ?_ ?_
   ·
    refine zw ?_
    refine oc h fun r184 g185 h => ?_
    refine zw ?_
    refine cnd h (fun hb186 h => ?_) fun hb186 h => ?_
    ·
     refine Ops.gv rfl rfl rfl rfl (Y3r hb186) (Y1i (p := 4) Yd2.h rfl rfl rfl rfl) ?_
     refine zw ?_
     refine Ops.gv rfl rfl rfl rfl (Y3r hb186) (Y87 (p := 5) (j := (e181.room, e181.id)) (kc := Y98) (z0 := false) Yd3 zv_4 (fun _ _ => rfl) rfl rfl rfl rfl) ?_
     refine zw ?_
     exact ⟨(Option.getD (pget m178 (e181.room, e181.id)) false), h, Y1z.both (ns := [1, 1, 1, 1, 1, 0]) rfl rfl⟩
    refine zw ?_
    exact ⟨true, h, Y1z.both (ns := [1, 1, 1, 1, 1, 0]) rfl rfl⟩
   intro x187 h
   replace h : Zfp p0 l100 m178 x179 e181 x187 = some y268 := h
   unfold Zfp at h
   refine cnd h (fun hb188 h => ?_) fun hb188 h => ?_
   ·
    refine AW.ct hb188 rfl ?_
    refine zw ?_
    refine AW.ret ?_
    refine lx h fun h => ?_
    rw [← Wj h]
    exact ⟨[C.any, C.bool false], _, Y1z.imp (t := 2) rfl (Imp.any _), (.cons (.tmp rfl) (.cons (.tmp rfl) .nil)), [], _, _, rfl, .inr ⟨rfl, rfl, rfl⟩⟩
   refine AW.cf hb188 rfl ?_
   refine AW.skip ?_
   refine AW.seq ?_
   refine AW.region ?_
   refine Ops.v rfl (Yq rfl rfl) ?_
   refine Ops.v rfl (Y19 Yaq.h rfl rfl) ?_
   refine Ops.v rfl (Y1i (p := 5) ld_2.h rfl rfl rfl rfl) ?_
   refine ob' h fun r189 g190 h => ?_
   refine Ops.hd (ns := [1, 1]) rfl rfl (Y22 (Zfc (Y8r.mk p0 l100) e181.room _ g190) rfl rfl) ?_
   refine Ops.h (ns := []) rfl rfl (Y1n (cs := [cV (.pointer none)]) Yd4 (Y3z rfl rfl) rfl) ?_
   rintro _ _ ⟨b191, rfl, rfl⟩
   refine Ops.hd (ns := [0]) rfl rfl (Y1r (gs := [C.ip [cI r189.graph.room, cM Y8t 9 r189.graph.events, cM Y8t 9 r189.graph.parked, C.imap .i64 Y96 r189.depth, C.imap .i64 Y97 r189.before, C.imap .i64 Y97 r189.after, C.imap .i64 Y96 r189.refused]]) Ycm.h rfl rfl One.ip rfl rfl) ?_
   refine Ops.nil ?_
   refine AW.seq ?_
   refine AW.cut (τ := Int × Int × Int × Int × Int × Int × ByteArray × List Int × Int × Bool × Nat) (fun (x196, x197, x198, x199, x200, x201, x202, l203, x204, x205, b195) => ⟨[(1, pt b1), (4, pt b5), (5, cI x101), (8, pt b103), (10, pt b183), (11, pt b191), (12, pt b195), (13, C.bool x205), (70, cM Y8v 2 p0.stream), (71, cI (p0.stream.length : Int)), (72, cI x179)], [oB b1 32 [cM Y8y 3 p0.rooms, cM Y8v 2 p0.stream], oB b5 145 [cM Y8y 3 p0.rooms, cM Y8v 2 p0.stream, cV v99], oA v99 186 Y99 1 l100, oB b103 189 [mt b102], Abs.Obj.pmap b102 Y98 m178, oB b183 142 [cI e181.room, cI e181.id], oB b191 186 [C.ip [cI r189.graph.room, cM Y8t 9 r189.graph.events, cM Y8t 9 r189.graph.parked, C.imap .i64 Y96 r189.depth, C.imap .i64 Y97 r189.before, C.imap .i64 Y97 r189.after, C.imap .i64 Y96 r189.refused]], oB b195 136 [cI x196, cI x197, cI x198, cI x199, cI x200, cI x201, C.str x202, cM kI64 1 l203, cI x204]]⟩) (fun (x196, x197, x198, x199, x200, x201, x202, l203, x204, x205, b195) => Zfo m178 x179 e181 r189 x196 x197 x198 x199 x200 x201 x202 l203 x204 x205 = some y268) ?_ ?_
   ·
    refine AW.regionD (L := [0, 3, 5]) (Lt := [11]) (k := .light 0 true (.light 1 false (.light 2 false (.light 3 true (.light 4 false (.light 5 true (.two 6 10 (.light 7 false (.light 8 false (.light 9 false (.one 10 (.late 11 (.light 12 false .done)))))) (.one 6 (.light 7 false (.light 8 false (.light 9 false (.late 11 (.light 12 false .done))))))))))))) (ns := [0, 0, 0, 0, 0, 0, 0]) (by kernel_rfl) (by kernel_rfl) (by kernel_rfl) (by kernel_rfl) rfl ?_
    refine OpsD.v rfl rfl (Y1i (p := 0) Ycm.h rfl rfl rfl rfl) ?_
    refine OpsD.v rfl rfl (Y13 rfl rfl) ?_
    refine OpsD.v rfl rfl (Y1a Ycn.h rfl rfl rfl) ?_
    refine OpsD.v rfl rfl (Y1g Yak.h rfl rfl rfl rfl) ?_
    refine OpsD.v rfl rfl (Y19 Yas.h rfl rfl) ?_
    refine OpsD.v rfl rfl (Y1i (p := 6) ld_2.h rfl rfl rfl rfl) ?_
    refine ob' h fun r192 g193 h => ?_
    refine OpsD.two ?_ ?_
    ·
     refine Y3k.h (ns := []) rfl rfl rfl (Y22 ((Zc6 _ _).h _ g193) rfl rfl) ?_
     rintro _ _ ⟨rfl, rfl⟩
     refine OpsD.v rfl rfl (Yq rfl rfl) ?_
     refine OpsD.v rfl rfl (Y11 rfl rfl rfl) ?_
     refine OpsD.v rfl rfl (Y11 rfl rfl rfl) ?_
     refine OpsD.one ?_
     refine Y3k.h (ns := []) rfl rfl rfl (Y1n (cs := [cI 0, cI 0, cI 0, cI 0, cI 0, cI 0, C.str ByteArray.empty, cV s0, cI 0]) Y9t (Y3z rfl rfl) rfl) ?_
     rintro _ _ ⟨b194, rfl, rfl⟩
     refine OpsD.late (ns := [7]) rfl rfl rfl (Y1s (gs := [cI r192.1.id, cI r192.1.room, cI r192.1.author, cI r192.1.kind, cI r192.1.key, cI r192.1.n, C.str r192.1.text, cM kI64 1 r192.1.prev, cI r192.1.time]) Yaa.h rfl rfl rfl rfl rfl) ?_
     rintro _ _ ⟨rfl, rfl⟩
     refine zw ?_
     exact ⟨(r192.1.id, r192.1.room, r192.1.author, r192.1.kind, r192.1.key, r192.1.n, r192.1.text, r192.1.prev, r192.1.time, r192.2, b194), h, Y1z.both (ns := [4, 2, 2, 2, 2, 2, 1, 0]) rfl rfl⟩
    refine Y3k.h (ns := []) rfl rfl rfl (Y1n (cs := [cI 0, cI 0, cI 0, cI 0, cI 0, cI 0, C.str ByteArray.empty, cV s0, cI 0]) Y9t (Y3z rfl rfl) rfl) ?_
    rintro _ _ ⟨b194, rfl, rfl⟩
    refine OpsD.one ?_
    refine Y3k.h (ns := []) rfl rfl rfl (Y22 ((Zc6 _ _).h _ g193) rfl rfl) ?_
    rintro _ _ ⟨rfl, rfl⟩
    refine zw ?_
    refine OpsD.late (ns := [7]) rfl rfl rfl (Y1s (gs := [cI r192.1.id, cI r192.1.room, cI r192.1.author, cI r192.1.kind, cI r192.1.key, cI r192.1.n, C.str r192.1.text, cM kI64 1 r192.1.prev, cI r192.1.time]) Yaa.h rfl rfl rfl rfl rfl) ?_
    rintro _ _ ⟨rfl, rfl⟩
    refine zw ?_
    exact ⟨(r192.1.id, r192.1.room, r192.1.author, r192.1.kind, r192.1.key, r192.1.n, r192.1.text, r192.1.prev, r192.1.time, r192.2, b194), h, Y1z.both (ns := [4, 2, 2, 2, 2, 2, 1, 0]) rfl rfl⟩
   rintro ⟨x196, x197, x198, x199, x200, x201, x202, l203, x204, x205, b195⟩ h
   replace h : Zfo m178 x179 e181 r189 x196 x197 x198 x199 x200 x201 x202 l203 x204 x205 = some y268 := h
   unfold Zfo at h
   refine AW.seq ?_
   refine AW.seq ?_
   refine AW.cut (τ := Bool) (fun x252 => ⟨[(1, pt b1), (4, pt b5), (5, cI x101), (8, pt b103), (10, pt b183), (70, cM Y8v 2 p0.stream), (71, cI (p0.stream.length : Int)), (72, cI x179), (116, C.bool x252)], [oB b1 32 [cM Y8y 3 p0.rooms, cM Y8v 2 p0.stream], oB b5 145 [cM Y8y 3 p0.rooms, cM Y8v 2 p0.stream, cV v99], oA v99 186 Y99 1 l100, oB b103 189 [mt b102], Abs.Obj.pmap b102 Y98 m178, oB b183 142 [cI e181.room, cI e181.id]]⟩) (fun x252 => Zfn m178 x179 e181 x252 = some y268) ?_ ?_
   ·
    refine AW.regionD (L := [3, 6, 8, 9, 14]) (Lt := []) (k := .light 0 false (.light 1 false (.light 2 false (.light 7 false (.two 3 8 (.light 4 false (.light 5 false (.two 6 8 (.one 8 (.one 9 (.light 10 false (.light 11 false (.light 12 false (.light 13 false (.light 15 false (.one 14 (.one 16 (.light 17 false .done)))))))))) (.one 6 (.one 9 (.light 10 false (.light 11 false (.light 12 false (.light 13 false (.light 15 false (.one 14 (.one 16 (.light 17 false .done))))))))))))) (.one 3 (.light 4 false (.light 5 false (.one 6 (.one 9 (.light 10 false (.light 11 false (.light 12 false (.light 13 false (.light 15 false (.one 14 (.one 16 (.light 17 false .done)))))))))))))))))) (ns := [0, 0, 0, 4]) (by kernel_rfl) (by kernel_rfl) (by kernel_rfl) (by kernel_rfl) rfl ?_
    refine zw ?_
    refine cnd h (fun hb242 h => ?_) fun hb242 h => ?_
    ·
     refine zw ?_
     refine OpsD.two ?_ ?_
     ·
      refine Y3k.gv rfl rfl rfl rfl rfl (Y3r hb242) (Y1i (p := 7) Ycm.h rfl rfl rfl rfl) ?_
      refine zw ?_
      refine OpsD.two ?_ ?_
      ·
       refine Y3k.gv rfl rfl rfl rfl rfl (Y3r hb242) (Y1f Ycp.h rfl rfl) ?_
       refine OpsD.one ?_
       refine Y3k.gv rfl rfl rfl rfl rfl (Y3r hb242) (Y1i (p := 6) ld_2.h rfl rfl rfl rfl) ?_
       refine OpsD.one ?_
       refine Y3k.gv rfl rfl rfl rfl rfl (Y3r hb242) (Y7v (kc := Y96) (z0 := 0) Ycq zv_2 (fun _ _ => rfl) rfl rfl rfl) ?_
       refine zw ?_
       refine cnd h (fun hb243 h => ?_) fun hb243 h => ?_
       ·
        refine OpsD.gs rfl rfl rfl rfl (.b rfl hb243) rfl rfl ?_
        refine OpsD.gs rfl rfl rfl rfl (.b rfl hb243) rfl rfl ?_
        refine OpsD.one ?_
        refine Y3k.gs rfl rfl rfl rfl (.b rfl hb243) rfl rfl ?_
        refine OpsD.one ?_
        refine Y3k.gs rfl rfl rfl rfl (.b rfl hb243) rfl rfl ?_
        refine zw ?_
        exact ⟨true, h, Y1z.both (ns := [0, 0, 0, 1, 1, 1]) rfl rfl⟩
       refine zw ?_
       refine OpsD.gv rfl rfl rfl rfl rfl hb243 (Y6h rfl rfl) ?_
       refine OpsD.one ?_
       refine Y3k.gv rfl rfl rfl rfl rfl hb243 (Y1i (p := 3) Y9e.h rfl rfl rfl rfl) ?_
       refine zw ?_
       refine ob' h fun r244 g245 h => ?_
       refine Y3k.gh (ns := [3, 0, 0, 0]) rfl rfl rfl rfl rfl hb243 rfl (Y22 (Zfl l203 r189 m178 e181 _ g245) rfl rfl) ?_
       rintro _ _ ⟨rfl, rfl⟩
       refine zw ?_
       exact ⟨r244, h, Y1z.both (ns := [0, 0, 0, 2, 2, 2]) rfl rfl⟩
      refine Y3k.gv rfl rfl rfl rfl rfl (Y3r hb242) (Y1i (p := 6) ld_2.h rfl rfl rfl rfl) ?_
      refine OpsD.one ?_
      refine Y3k.gv rfl rfl rfl rfl rfl (Y3r hb242) (Y1f Ycp.h rfl rfl) ?_
      refine OpsD.one ?_
      refine Y3k.gv rfl rfl rfl rfl rfl (Y3r hb242) (Y7v (kc := Y96) (z0 := 0) Ycq zv_2 (fun _ _ => rfl) rfl rfl rfl) ?_
      refine zw ?_
      refine cnd h (fun hb246 h => ?_) fun hb246 h => ?_
      ·
       refine OpsD.gs rfl rfl rfl rfl (.b rfl hb246) rfl rfl ?_
       refine OpsD.gs rfl rfl rfl rfl (.b rfl hb246) rfl rfl ?_
       refine OpsD.one ?_
       refine Y3k.gs rfl rfl rfl rfl (.b rfl hb246) rfl rfl ?_
       refine OpsD.one ?_
       refine Y3k.gs rfl rfl rfl rfl (.b rfl hb246) rfl rfl ?_
       refine zw ?_
       exact ⟨true, h, Y1z.both (ns := [0, 0, 0, 1, 1, 1]) rfl rfl⟩
      refine zw ?_
      refine OpsD.gv rfl rfl rfl rfl rfl hb246 (Y6h rfl rfl) ?_
      refine OpsD.one ?_
      refine Y3k.gv rfl rfl rfl rfl rfl hb246 (Y1i (p := 3) Y9e.h rfl rfl rfl rfl) ?_
      refine zw ?_
      refine ob' h fun r247 g248 h => ?_
      refine Y3k.gh (ns := [3, 0, 0, 0]) rfl rfl rfl rfl rfl hb246 rfl (Y22 (Zfl l203 r189 m178 e181 _ g248) rfl rfl) ?_
      rintro _ _ ⟨rfl, rfl⟩
      refine zw ?_
      exact ⟨r247, h, Y1z.both (ns := [0, 0, 0, 2, 2, 2]) rfl rfl⟩
     refine Y3k.gv rfl rfl rfl rfl rfl (Y3r hb242) (Y1i (p := 6) ld_2.h rfl rfl rfl rfl) ?_
     refine OpsD.one ?_
     refine Y3k.gv rfl rfl rfl rfl rfl (Y3r hb242) (Y1i (p := 7) Ycm.h rfl rfl rfl rfl) ?_
     refine OpsD.gv rfl rfl rfl rfl rfl (Y3r hb242) (Y13 rfl rfl) ?_
     refine OpsD.gv rfl rfl rfl rfl rfl (Y3r hb242) (Y1a Ycs.h rfl rfl rfl) ?_
     refine OpsD.one ?_
     refine Y3k.gv rfl rfl rfl rfl rfl (Y3r hb242) (Y1f Ycp.h rfl rfl) ?_
     refine OpsD.one ?_
     refine Y3k.gv rfl rfl rfl rfl rfl (Y3r hb242) (Y7v (kc := Y96) (z0 := 0) Ycq zv_2 (fun _ _ => rfl) rfl rfl rfl) ?_
     refine zw ?_
     refine cnd h (fun hb249 h => ?_) fun hb249 h => ?_
     ·
      refine OpsD.gs rfl rfl rfl rfl (.b rfl hb249) rfl rfl ?_
      refine OpsD.gs rfl rfl rfl rfl (.b rfl hb249) rfl rfl ?_
      refine OpsD.one ?_
      refine Y3k.gs rfl rfl rfl rfl (.b rfl hb249) rfl rfl ?_
      refine OpsD.one ?_
      refine Y3k.gs rfl rfl rfl rfl (.b rfl hb249) rfl rfl ?_
      refine zw ?_
      exact ⟨true, h, Y1z.both (ns := [0, 0, 0, 1, 1, 1]) rfl rfl⟩
     refine zw ?_
     refine OpsD.gv rfl rfl rfl rfl rfl hb249 (Y6h rfl rfl) ?_
     refine OpsD.one ?_
     refine Y3k.gv rfl rfl rfl rfl rfl hb249 (Y1i (p := 3) Y9e.h rfl rfl rfl rfl) ?_
     refine zw ?_
     refine ob' h fun r250 g251 h => ?_
     refine Y3k.gh (ns := [3, 0, 0, 0]) rfl rfl rfl rfl rfl hb249 rfl (Y22 (Zfl l203 r189 m178 e181 _ g251) rfl rfl) ?_
     rintro _ _ ⟨rfl, rfl⟩
     refine zw ?_
     exact ⟨r250, h, Y1z.both (ns := [0, 0, 0, 2, 2, 2]) rfl rfl⟩
    refine zw ?_
    refine OpsD.two ?_ ?_
    ·
     refine Y3k.gs rfl rfl rfl rfl (.b rfl (Y3s hb242)) rfl rfl ?_
     refine zw ?_
     refine OpsD.two ?_ ?_
     ·
      refine Y3k.gs rfl rfl rfl rfl (.b rfl (Y3s hb242)) rfl rfl ?_
      refine OpsD.one ?_
      refine Y3k.gs rfl rfl rfl rfl (.b rfl (Y3s hb242)) rfl rfl ?_
      refine OpsD.one ?_
      refine Y3k.gs rfl rfl rfl rfl (.b rfl (Y3s hb242)) rfl rfl ?_
      refine OpsD.gs rfl rfl rfl rfl (.b rfl (Y3s hb242)) rfl rfl ?_
      refine OpsD.v rfl rfl (Ys rfl (Y3s hb242) rfl rfl) ?_
      refine OpsD.v rfl rfl (Yq rfl rfl) ?_
      refine OpsD.gs rfl rfl rfl rfl (.b rfl rfl) rfl rfl ?_
      refine OpsD.gs rfl rfl rfl rfl (.b rfl rfl) rfl rfl ?_
      refine OpsD.one ?_
      refine Y3k.gs rfl rfl rfl rfl (.b rfl rfl) rfl rfl ?_
      refine OpsD.one ?_
      refine Y3k.gs rfl rfl rfl rfl (.b rfl rfl) rfl rfl ?_
      refine zw ?_
      exact ⟨true, h, Y1z.both (ns := [0, 0, 0, 1, 1, 1]) rfl rfl⟩
     refine Y3k.gs rfl rfl rfl rfl (.b rfl (Y3s hb242)) rfl rfl ?_
     refine OpsD.one ?_
     refine Y3k.gs rfl rfl rfl rfl (.b rfl (Y3s hb242)) rfl rfl ?_
     refine OpsD.one ?_
     refine Y3k.gs rfl rfl rfl rfl (.b rfl (Y3s hb242)) rfl rfl ?_
     refine OpsD.gs rfl rfl rfl rfl (.b rfl (Y3s hb242)) rfl rfl ?_
     refine OpsD.v rfl rfl (Ys rfl (Y3s hb242) rfl rfl) ?_
     refine OpsD.v rfl rfl (Yq rfl rfl) ?_
     refine OpsD.gs rfl rfl rfl rfl (.b rfl rfl) rfl rfl ?_
     refine OpsD.gs rfl rfl rfl rfl (.b rfl rfl) rfl rfl ?_
     refine OpsD.one ?_
     refine Y3k.gs rfl rfl rfl rfl (.b rfl rfl) rfl rfl ?_
     refine OpsD.one ?_
     refine Y3k.gs rfl rfl rfl rfl (.b rfl rfl) rfl rfl ?_
     refine zw ?_
     exact ⟨true, h, Y1z.both (ns := [0, 0, 0, 1, 1, 1]) rfl rfl⟩
    refine Y3k.gs rfl rfl rfl rfl (.b rfl (Y3s hb242)) rfl rfl ?_
    refine OpsD.one ?_
    refine Y3k.gs rfl rfl rfl rfl (.b rfl (Y3s hb242)) rfl rfl ?_
    refine OpsD.gs rfl rfl rfl rfl (.b rfl (Y3s hb242)) rfl rfl ?_
    refine OpsD.gs rfl rfl rfl rfl (.b rfl (Y3s hb242)) rfl rfl ?_
    refine OpsD.one ?_
    refine Y3k.gs rfl rfl rfl rfl (.b rfl (Y3s hb242)) rfl rfl ?_
    refine OpsD.one ?_
    refine Y3k.gs rfl rfl rfl rfl (.b rfl (Y3s hb242)) rfl rfl ?_
    refine OpsD.gs rfl rfl rfl rfl (.b rfl (Y3s hb242)) rfl rfl ?_
    refine OpsD.v rfl rfl (Ys rfl (Y3s hb242) rfl rfl) ?_
    refine OpsD.v rfl rfl (Yq rfl rfl) ?_
    refine OpsD.gs rfl rfl rfl rfl (.b rfl rfl) rfl rfl ?_
    refine OpsD.gs rfl rfl rfl rfl (.b rfl rfl) rfl rfl ?_
    refine OpsD.one ?_
    refine Y3k.gs rfl rfl rfl rfl (.b rfl rfl) rfl rfl ?_
    refine OpsD.one ?_
    refine Y3k.gs rfl rfl rfl rfl (.b rfl rfl) rfl rfl ?_
    refine zw ?_
    exact ⟨true, h, Y1z.both (ns := [0, 0, 0, 1, 1, 1]) rfl rfl⟩
   intro x252 h
   replace h : Zfn m178 x179 e181 x252 = some y268 := h
   unfold Zfn at h
   refine cnd h (fun hb253 h => ?_) fun hb253 h => ?_
   ·
    refine AW.ct hb253 rfl ?_
    refine zw ?_
    refine AW.ret ?_
    refine lx h fun h => ?_
    rw [← Wj h]
    exact ⟨[C.any, C.bool false], _, Y1z.imp (t := 2) rfl (Imp.any _), (.cons (.tmp rfl) (.cons (.tmp rfl) .nil)), [], _, _, rfl, .inr ⟨rfl, rfl, rfl⟩⟩
   refine AW.cf hb253 rfl ?_
   refine AW.skip ?_
   refine AW.region ?_
   refine Ops.v rfl (Y1i (p := 3) Yd2.h rfl rfl rfl rfl) ?_
   refine Ops.v rfl (Y1j (p := 5) (ds := [cI e181.room, cI e181.id]) Yat.h rfl rfl rfl rfl rfl) ?_
   refine Ops.hd (ns := [4]) rfl rfl (Y88 (j := (e181.room, e181.id)) (kc := Y98) (v := true) Yd3 rfl rfl rfl rfl) ?_
   refine zw ?_
   exact lu h (gb [1, 1, 1, 1, 0])
  exact go
 rintro ⟨⟩ h
 replace h : Zfm p0 l100 x101 = some r := h
 unfold Zfm at h
 refine zw ?_
 refine rD [0,0,0] [3] [] [0,4,8,13,16,20,24,28] ?_
 refine zw ?_
 refine AW.ret ?_
 refine cnd h (fun hb254 h => ?_) fun hb254 h => ?_
 ·
  rw [← Wj h]
  exact ⟨[C.ip [cM Y8y 3 p0.rooms, cM Y8v 2 p0.stream, cM Y99 1 l100], C.bool (x101 == (p0.stream.length : Int))], _, Y1z.freezeBy (ns := [1, 1]) (t := 2) rfl rfl (Frz.box (fS (fS (FrzL.cons (os := [_]) Frz.arr FrzL.nil)))), (.cons (.tmp rfl) (.cons (.tmp rfl) .nil)), [], _, _, rfl, .inl ⟨hb254, rfl, rfl⟩⟩
 rw [← Wj h]
 exact ⟨[C.any, C.bool (x101 == (p0.stream.length : Int))], _, Y1z.imp (t := 2) rfl (Imp.any _), (.cons (.tmp rfl) (.cons (.tmp rfl) .nil)), [], _, _, rfl, .inr ⟨hb254, rfl, rfl⟩⟩

def Zfx (p0 : Int) : Option Bool := (Z80 p0 0 120).bind fun r1 => some (!r1)
instance Zfy (p0 : Int) : Sp Tryz.prog 158 [cI p0] (Zfx p0) C.bool := sp Tryz.func158 rfl rfl fun r X h => go

def Zfz : Option Int := some (-1)
def Zg0 (p0 : List Int) (x7 : Int) : Option (Int ⊕ (Int ⊕ Unit)) := cond (decide (x7 < (p0.length : Int))) ((getI p0 x7).bind fun e9 => (Zfx e9).bind fun r11 => cond r11 (some (.inr (.inl x7))) (some (.inl (IntKind.i64.wrap (x7 + 1))))) (some (.inr (.inr ())))
def Zg1 (p0 : List Int) : Option Int := (iter (Zg0 p0) big 0).bind (fun z15 => match z15 with | .inl y14 => some y14 | .inr () => Zfz)
instance Zg2 (p0 : List Int) : Sp Tryz.prog 194 [cM kI64 1 p0, cV (.func (.func 158) #[] #[])] (Zg1 p0) cI := sp Tryz.func194 rfl rfl fun r X h => by
 unfold Zg1 at h
 refine zw ?_
 refine AW.lp (v := ()) h (fun x7 (_ : Unit) => ⟨[(0, cM kI64 1 p0), (1, cV (.func (.func 158) #[] #[])), (7, cI (p0.length : Int)), (8, cI x7)], []⟩) (gb []) ?_
 rintro x7 _ y21 h
 refine zw ?_
 refine cnd h (fun hb8 h => ?_) fun hb8 h => ?_
 ·
  refine AW.ct hb8 rfl ?_
  refine zw ?_
  refine oi h fun e9 g10 h => ?_
  refine zw ?_
  refine ob' h fun r11 g12 h => ?_
  refine Ops.h (ns := []) rfl rfl (Y24 (cs := [_]) rfl rfl ((Zfy _).h _ g12) rfl rfl) ?_
  rintro _ _ ⟨_, ⟨rfl, rfl⟩, rfl⟩
  exact go
 exact go

def Zg3 (p0 : List Int) : Option Bool := (Zg1 p0).bind fun r1 => some (decide (r1 ≥ 0))
instance Zg4 (p0 : List Int) : Sp Tryz.prog 140 [cM kI64 1 p0, cV (.func (.func 158) #[] #[])] (Zg3 p0) C.bool := sp Tryz.func140 rfl rfl fun r X h => go

def Zg5 (x8 : Bool) : Option Bool := some x8
def Zg6 (p0 : Y8k) : Option Bool := (Z86 p0.user).bind fun r2 => cond r2 (cond ((p0.at_.length : Int) == 3) ((Zg3 p0.at_).bind fun r6 => Zg5 (!r6)) (Zg5 false)) (Zg5 false)
instance Zg7 (p0 : Y8k) : Sp Tryz.prog 105 [C.agg [cI p0.user, cM kI64 1 p0.at_]] (Zg6 p0) C.bool := sp Tryz.func105 rfl rfl fun r X h => by
 unfold Zg6 at h
 refine zw ?_
 refine ox fun b1 => ?_
 refine zw ?_
 refine oc h fun r2 g3 h => ?_
 refine zw ?_
 refine cnd h (fun hb4 h => ?_) fun hb4 h => ?_
 ·
  refine zw ?_
  refine cnd h (fun hb5 h => ?_) fun hb5 h => ?_
  ·
   refine zw ?_
   refine ob' h fun r6 g7 h => ?_
   refine Ops.ghd (ns := []) rfl rfl rfl rfl hb5 rfl (Y22 ((Zg4 _).h _ g7) rfl rfl) ?_
   exact go
  exact go
 exact go

def Zg8 : Option Int := some (-1)
def Zg9 (p0 : List Y8j) (p1 : Y8j) (x6 : Int) : Option (Int ⊕ (Int ⊕ Unit)) := cond (decide (x6 < (p0.length : Int))) ((getI p0 x6).bind fun e8 => cond ((p1.room == e8.room) && ((p1.id == e8.id) && true)) (some (.inr (.inl x6))) (some (.inl (IntKind.i64.wrap (x6 + 1))))) (some (.inr (.inr ())))
def Zga (p0 : List Y8j) (p1 : Y8j) : Option Int := (iter (Zg9 p0 p1) big 0).bind (fun z12 => match z12 with | .inl y11 => some y11 | .inr () => Zg8)
instance Zgb (p0 : List Y8j) (p1 : Y8j) : Sp Tryz.prog 166 [cM Y8v 2 p0, C.agg [cI p1.room, cI p1.id]] (Zga p0 p1) cI := sp Tryz.func166 rfl rfl fun r X h => by
 unfold Zga at h
 refine zw ?_
 refine ox fun b1 => ?_
 refine zw ?_
 refine AW.lp (v := ()) h (fun x6 (_ : Unit) => ⟨[(0, cM Y8v 2 p0), (3, pt b1), (7, cI (p0.length : Int)), (8, cI x6)], [oB b1 142 [cI p1.room, cI p1.id]]⟩) (gb [0]) ?_
 rintro x6 _ y18 h
 refine zw ?_
 refine cnd h (fun hb7 h => ?_) fun hb7 h => ?_
 ·
  refine AW.ct hb7 rfl ?_
  refine zw ?_
  refine rD [0] [0,4] [] [1,4,8,12,17,20] ?_
  refine zw ?_
  refine di h fun e8 g9 h => ?_
  refine zw ?_
  refine OpsD.v rfl rfl (Y5i [.int .i64 p1.room, .int .i64 p1.id] [.int .i64 e8.room, .int .i64 e8.id] Ycb rfl rfl rfl rfl rfl rfl) ?_
  exact go
 exact go

def Zgc (p0 : Y8l) (p1 : List Y8n) : Option Int := (Zcz p0 p1 6 0).bind fun r2 => cond r2.2 (some r2.1.n) (some 2)
instance Zgd (p0 : Y8l) (p1 : List Y8n) : Sp Tryz.prog 164 [C.agg [cI p0.room, cM Y8t 9 p0.events, cM Y8t 9 p0.parked], cM Y91 3 p1] (Zgc p0 p1) cI := sp Tryz.func164 rfl rfl fun r X h => by
 unfold Zgc at h
 refine zw ?_
 refine ox fun b1 => ?_
 refine zw ?_
 refine oc h fun r2 g3 h => ?_
 refine zw ?_
 refine Ops.h (ns := []) rfl rfl (Y1n (cs := [cI 0, cI 0, cI 0, cI 0, cI 0, cI 0, C.str ByteArray.empty, cV s0, cI 0]) Y9t (Y3z rfl rfl) rfl) ?_
 rintro _ _ ⟨b4, rfl, rfl⟩
 refine Ops.hd (ns := [0]) rfl rfl (Y1s (gs := [cI r2.1.id, cI r2.1.room, cI r2.1.author, cI r2.1.kind, cI r2.1.key, cI r2.1.n, C.str r2.1.text, cM kI64 1 r2.1.prev, cI r2.1.time]) Yaa.h rfl rfl rfl rfl rfl) ?_
 exact go

def Zge (p0 : List Int) : Option (List Int) := some p0
def Zgf (l85 : List Int) (x86 : Int) : Option (Int ⊕ ((List Int) ⊕ Unit)) := (chk (decide ((0 : Int) ≤ x86 ∧ x86 ≤ (l85.length : Int)))).bind fun u88 => (chk (decide ((Int.toNat x86) ≤ l85.length))).bind fun u90 => (chk (decide ((0 : Int) ≤ x86 ∧ x86 ≤ ((List.take (Int.toNat x86) l85 ++ List.replicate (l85.length - (Int.toNat x86)) 0).length : Int)))).bind fun u92 => some (.inr (.inl (List.take (Int.toNat x86) (List.take (Int.toNat x86) l85 ++ List.replicate (l85.length - (Int.toNat x86)) 0))))
def Zgg (x70 : Int) (l83 : List Int) (x84 : Int) : Option ((List Int × Int × Int) ⊕ ((List Int × Int))) := some (.inl (l83, x84, (IntKind.i64.wrap (x70 + 1))))
def Zgh (x47 : Int) (l68 : List Int) (x69 : Int) (x70 : Int) : Option ((List Int × Int × Int) ⊕ ((List Int × Int))) := (chk (decide ((Int.toNat x47) ≤ l68.length))).bind fun u72 => cond (decide (x70 < ((List.drop (Int.toNat x47) l68).length : Int))) ((getI (List.drop (Int.toNat x47) l68) x70).bind fun e74 => (getI (List.drop (Int.toNat x47) l68) (IntKind.i64.wrap (x70 - 1))).bind fun e76 => cond (e74 != e76) ((getI (List.drop (Int.toNat x47) l68) x70).bind fun e79 => (getI l68 x69).bind fun e81 => Zgg x70 (List.set l68 (Int.toNat x69) e79) (IntKind.i64.wrap (x69 + 1))) (Zgg x70 l68 x69)) (some (.inr (l68, x69)))
def Zgi (p0 : List Int) (x47 : Int) : Option (Int ⊕ ((List Int) ⊕ Unit)) := cond (decide (x47 < (p0.length : Int))) ((getI p0 x47).bind fun e49 => (getI p0 (IntKind.i64.wrap (x47 - 1))).bind fun e51 => cond (e49 == e51) ((chk (decide ((0 : Int) ≤ x47 ∧ x47 ≤ (p0.length : Int)))).bind fun u55 => (iter (fun z94 => Zgh x47 z94.1 z94.2.1 z94.2.2) big (p0, x47, 1)).bind fun (y95, y96) => Zgf y95 y96) (some (.inl (IntKind.i64.wrap (x47 + 1))))) (some (.inr (.inr ())))
def Zgj (p0 : List Int) : Option (List Int) := cond (decide ((p0.length : Int) < 2)) (some p0) ((iter (Zgi p0) big 1).bind (fun z98 => match z98 with | .inl y97 => some y97 | .inr () => Zge p0))
theorem Zgk {w00 : Value} (p0 : List Int) (r : List Int) (h : Zgj p0 = some r) : Ok Tryz.prog 257 [cV w00] [oA w00 2 kI64 1 p0] (fun c qs => ∃ (v93 : Value), c = cV v93 ∧ qs = [oA v93 2 kI64 1 r]) := by
 refine Ok.of_body (rs := [.tmp 2]) Tryz.func257 rfl rfl rfl rfl rfl fun X => ?_
 unfold Zgj at h
 refine zw ?_
 refine cnd h (fun hb1 h => ?_) fun hb1 h => ?_
 ·
  refine AW.ct hb1 rfl ?_
  refine zw ?_
  refine AW.ret ?_
  rw [← Wj h]
  exact ⟨[cV w00], _, Y1z.refl _, (.cons (.tmp rfl) .nil), [0], _, _, rfl, ⟨w00, rfl, rfl⟩⟩
 refine AW.cf hb1 rfl ?_
 refine AW.skip ?_
 refine AW.seq ?_
 refine AW.cut (τ := Unit) (fun (_ : Unit) => ⟨[(0, cV w00)], [oA w00 2 kI64 1 p0]⟩) (fun (_ : Unit) => Zge p0 = some r) ?_ ?_
 ·
  refine zw ?_
  refine AW.lp (v := ()) h (fun x47 (_ : Unit) => ⟨[(0, cV w00), (3, cI x47)], [oA w00 2 kI64 1 p0]⟩) (gb [0]) ?_
  rintro x47 _ y104 h
  refine zw ?_
  refine cnd h (fun hb48 h => ?_) fun hb48 h => ?_
  ·
   refine AW.ct hb48 rfl ?_
   refine zw ?_
   refine rD [0] [3,8] [] [0,4,8,13,16,20,24,28,33,36] ?_
   refine zw ?_
   refine di h fun e49 g50 h => ?_
   refine OpsD.v rfl rfl (Y2x (p := 0) ld_2.h rfl rfl (Y27 g50).2.2 rfl rfl) ?_
   refine zw ?_
   refine di h fun e51 g52 h => ?_
   refine OpsD.v rfl rfl (Y2x (p := 0) ld_2.h rfl rfl (Y27 g52).2.2 rfl rfl) ?_
   refine zw ?_
   refine cnd h (fun hb53 h => ?_) fun hb53 h => ?_
   ·
    refine AW.ct hb53 rfl ?_
    refine zw ?_
    refine ob' h fun u55 c54 h => ?_
    refine Ops.v rfl (Y6q (p := 0) (l := (Int.toNat x47)) Y9b.h rfl rfl rfl (Wo (Y3q c54)) rfl rfl) ?_
    refine Ops.v rfl (Yr rfl rfl) ?_
    refine Ops.nil ?_
    refine AW.seq ?_
    refine AW.cut (τ := List Int × Int) (fun (l85, x86) => ⟨[(0, cV w00), (3, cI x86)], [oA w00 2 kI64 1 l85]⟩) (fun (l85, x86) => Zgf l85 x86 = some y104) ?_ ?_
    ·
     refine zw ?_
     refine AW.lp (v := ()) h (fun (l68, x69, x70) (_ : Unit) => ⟨[(0, cV w00), (3, cI x69), (4, cV (Y6n w00 1 (Int.toNat x47))), (5, cI x70)], [oA w00 2 kI64 1 l68]⟩) (gb [0]) ?_
     rintro ⟨l68, x69, x70⟩ _ y111 h
     refine zw ?_
     refine ob' h fun u72 c71 h => ?_
     refine Ops.v rfl (Y6s (p := 0) Y9b.h rfl rfl (Wo (Y3q c71)) rfl) ?_
     refine zw ?_
     refine cnd h (fun hb73 h => ?_) fun hb73 h => ?_
     ·
      refine AW.ct hb73 rfl ?_
      refine zw ?_
      refine rD [0] [3,8] [] [0,4,8,13,16,20,24,28,33,36] ?_
      refine zw ?_
      refine ob' h fun e74 g75 h => ?_
      refine OpsD.v rfl rfl (Y6t (p := 0) Y9b.h rfl rfl rfl g75 rfl) ?_
      refine OpsD.v rfl rfl (Y2x (p := 0) ld_2.h rfl rfl (Y6u g75) rfl rfl) ?_
      refine zw ?_
      refine ob' h fun e76 g77 h => ?_
      refine OpsD.v rfl rfl (Y6t (p := 0) Y9b.h rfl rfl rfl g77 rfl) ?_
      refine OpsD.v rfl rfl (Y2x (p := 0) ld_2.h rfl rfl (Y6u g77) rfl rfl) ?_
      refine zw ?_
      refine cnd h (fun hb78 h => ?_) fun hb78 h => ?_
      ·
       refine AW.ct hb78 rfl ?_
       refine zw ?_
       refine ob' h fun e79 g80 h => ?_
       refine Ops.v rfl (Y6t (p := 0) Y9b.h rfl rfl rfl g80 rfl) ?_
       refine Ops.v rfl (Y2x (p := 0) ld_2.h rfl rfl (Y6u g80) rfl rfl) ?_
       refine oi h fun e81 g82 h => ?_
       refine Ops.hd (ns := [0]) rfl rfl (Y30 (e' := e79) ld_2.h rfl rfl (One.val rfl) (Y27 g82).2.2 rfl rfl) ?_
       exact go
      exact go
     exact go
    rintro ⟨l85, x86⟩ h
    replace h : Zgf l85 x86 = some y104 := h
    unfold Zgf at h
    refine zw ?_
    refine ob' h fun u88 c87 h => ?_
    refine Ops.v rfl (Y6q (p := 0) (l := (Int.toNat x86)) Y9b.h rfl rfl rfl (Wo (Y3q c87)) rfl rfl) ?_
    refine ob' h fun u90 c89 h => ?_
    refine Ops.hd (ns := [0]) rfl rfl (Y6y (z := 0) Y9s ze_2 (Y3z rfl rfl) rfl (Wo (Y3q c89))) ?_
    refine zw ?_
    refine ob' h fun u92 c91 h => ?_
    refine Ops.v rfl (Y6r (p := 0) (l := (Int.toNat x86)) Y9b.h rfl rfl rfl (Wo (Y3q c91)) rfl rfl) ?_
    refine zw ?_
    refine AW.ret ?_
    refine lx h fun h => ?_
    rw [← Wj h]
    exact ⟨[cV (Y6o w00 (Int.toNat x86))], _, Y1z.prefix (p := 0) (h := (Int.toNat x86)) rfl (Int.le_toNat_len c91), (.cons (.tmp rfl) .nil), [0], _, _, rfl, ⟨(Y6o w00 (Int.toNat x86)), rfl, rfl⟩⟩
   exact go
  exact go
 rintro ⟨⟩ h
 replace h : Zge p0 = some r := h
 unfold Zge at h
 refine zw ?_
 refine AW.ret ?_
 rw [← Wj h]
 exact ⟨[cV w00], _, Y1z.refl _, (.cons (.tmp rfl) .nil), [0], _, _, rfl, ⟨w00, rfl, rfl⟩⟩
def Zgl (p0 : List Int) : Option (List Int) := (chk (decide (p0.length < 4611686018427387904))).bind fun u2 => (Zgj (List.mergeSort p0 (fun x y => decide (x ≤ y)))).bind fun r3 => some r3
theorem Zgm {w00 : Value} (p0 : List Int) (r : List Int) (h : Zgl p0 = some r) : Ok Tryz.prog 205 [cV w00] [oA w00 2 kI64 1 p0] (fun c qs => ∃ (v6 : Value), c = cV v6 ∧ qs = [oA v6 2 kI64 1 r]) := by
 refine Ok.of_body (rs := [.tmp 2]) Tryz.func205 rfl rfl rfl rfl rfl fun X => ?_
 unfold Zgl at h
 refine zw ?_
 refine ob' h fun u2 c1 h => ?_
 refine Ops.hd (ns := [0]) rfl rfl (Y7u Y8g (fun _ => rfl) (Wo (Y3q c1)) rfl rfl) ?_
 refine zw ?_
 refine ob' h fun r3 g4 h => ?_
 refine Ops.h (ns := [0]) rfl rfl (Y21 (Zgk (List.mergeSort p0 (fun x y => decide (x ≤ y))) _ g4) rfl rfl) ?_
 rintro _ _ ⟨_, ⟨v5, rfl, rfl⟩, rfl⟩
 refine zw ?_
 refine AW.ret ?_
 rw [← Wj h]
 exact ⟨[cV v5], _, Y1z.refl _, (.cons (.tmp rfl) .nil), [0], _, _, rfl, ⟨v5, rfl, rfl⟩⟩
def Zgn (p0 : Int) (q0 : Y8h) : Option Bool := (Z8j q0.prev p0).bind fun r1 => some r1
theorem Zgo {b00 : Nat} (p0 : Int) (q0 : Y8h) (r : Bool) (h : Zgn p0 q0 = some r) : Ok Tryz.prog 207 [cI p0, pt b00] [oB b00 136 [cI q0.id, cI q0.room, cI q0.author, cI q0.kind, cI q0.key, cI q0.n, C.str q0.text, cM kI64 1 q0.prev, cI q0.time]] (fun c qs => c = C.bool r ∧ qs = [oB b00 136 [cI q0.id, cI q0.room, cI q0.author, cI q0.kind, cI q0.key, cI q0.n, C.str q0.text, cM kI64 1 q0.prev, cI q0.time]]) := by
 refine Ok.of_body (rs := [.tmp 3]) Tryz.func207 rfl rfl rfl rfl rfl fun X => ?_
 unfold Zgn at h
 refine zw ?_
 refine oc h fun r1 g2 h => ?_
 refine zw ?_
 refine AW.ret ?_
 rw [← Wj h]
 exact ⟨[C.bool r1], _, Y1z.refl _, (.cons (.tmp rfl) .nil), [0], _, _, rfl, ⟨rfl, rfl⟩⟩

def Zgp : Option Int := some (-1)
def Zgq (p0 : List Int) (p1_0 : Y8h) (x7 : Int) : Option (Int ⊕ (Int ⊕ Unit)) := cond (decide (x7 < (p0.length : Int))) ((getI p0 x7).bind fun e9 => (Zgn e9 p1_0).bind fun r11 => cond r11 (some (.inr (.inl x7))) (some (.inl (IntKind.i64.wrap (x7 + 1))))) (some (.inr (.inr ())))
def Zgr (p0 : List Int) (p1_0 : Y8h) : Option Int := (iter (Zgq p0 p1_0) big 0).bind (fun z15 => match z15 with | .inl y14 => some y14 | .inr () => Zgp)
theorem Zgs {w00 : Value} {b01 : Nat} (p0 : List Int) (p1_0 : Y8h) (r : Int) (h : Zgr p0 p1_0 = some r) : Ok Tryz.prog 194 [cV w00, C.clo 207 [pt b01]] [oA w00 2 kI64 1 p0, oB b01 136 [cI p1_0.id, cI p1_0.room, cI p1_0.author, cI p1_0.kind, cI p1_0.key, cI p1_0.n, C.str p1_0.text, cM kI64 1 p1_0.prev, cI p1_0.time]] (fun c qs => c = cI r ∧ qs = [oA w00 2 kI64 1 p0, oB b01 136 [cI p1_0.id, cI p1_0.room, cI p1_0.author, cI p1_0.kind, cI p1_0.key, cI p1_0.n, C.str p1_0.text, cM kI64 1 p1_0.prev, cI p1_0.time]]) := by
 refine Ok.of_body (rs := [.tmp 4]) Tryz.func194 rfl rfl rfl rfl rfl fun X => ?_
 unfold Zgr at h
 refine AW.seq ?_
 refine AW.region ?_
 refine Ops.v rfl (Yr rfl rfl) ?_
 refine Ops.nil ?_
 refine AW.seq ?_
 refine AW.cut (τ := Unit) (fun (_ : Unit) => ⟨[], [oA w00 2 kI64 1 p0, oB b01 136 [cI p1_0.id, cI p1_0.room, cI p1_0.author, cI p1_0.kind, cI p1_0.key, cI p1_0.n, C.str p1_0.text, cM kI64 1 p1_0.prev, cI p1_0.time]]⟩) (fun (_ : Unit) => Zgp = some r) ?_ ?_
 ·
  refine zw ?_
  refine AW.lp (v := ()) h (fun x7 (_ : Unit) => ⟨[(0, cV w00), (1, C.clo 207 [pt b01]), (7, cI (p0.length : Int)), (8, cI x7)], [oA w00 2 kI64 1 p0, oB b01 136 [cI p1_0.id, cI p1_0.room, cI p1_0.author, cI p1_0.kind, cI p1_0.key, cI p1_0.n, C.str p1_0.text, cM kI64 1 p1_0.prev, cI p1_0.time]]⟩) (gb [0, 0]) ?_
  rintro x7 _ y21 h
  refine zw ?_
  refine cnd h (fun hb8 h => ?_) fun hb8 h => ?_
  ·
   refine AW.ct hb8 rfl ?_
   refine zw ?_
   refine oi h fun e9 g10 h => ?_
   refine Ops.v rfl (Y2x (p := 0) ld_2.h rfl rfl (Y27 g10).2.2 rfl rfl) ?_
   refine ob' h fun r11 g12 h => ?_
   refine Ops.hd (ns := [1]) rfl rfl (Y6j (cs := [_]) (ds := [_]) rfl (Zgo e9 p1_0 _ g12) rfl rfl) ?_
   refine zw ?_
   refine cnd h (fun hb13 h => ?_) fun hb13 h => ?_
   ·
    refine AW.ct hb13 rfl ?_
    refine zw ?_
    refine AW.ret ?_
    refine lx h fun h => ?_
    rw [← Wj h]
    exact ⟨[cI x7], _, Y1z.refl _, (.cons (.tmp rfl) .nil), [1, 0], _, _, rfl, ⟨rfl, rfl⟩⟩
   exact go
  exact go
 rintro ⟨⟩ h
 replace h : Zgp = some r := h
 unfold Zgp at h
 refine zw ?_
 refine AW.ret ?_
 rw [← Wj h]
 exact ⟨[cI (-1)], _, Y1z.refl _, (.cons (.tmp rfl) .nil), [0, 0], _, _, rfl, ⟨rfl, rfl⟩⟩

def Zgt (l27 : List Int) (x28 : Int) : Option (List Int) := (chk (decide ((0 : Int) ≤ x28 ∧ x28 ≤ (l27.length : Int)))).bind fun u30 => (chk (decide ((Int.toNat x28) ≤ l27.length))).bind fun u32 => (chk (decide ((0 : Int) ≤ x28 ∧ x28 ≤ ((List.take (Int.toNat x28) l27 ++ List.replicate (l27.length - (Int.toNat x28)) 0).length : Int)))).bind fun u34 => some (List.take (Int.toNat x28) (List.take (Int.toNat x28) l27 ++ List.replicate (l27.length - (Int.toNat x28)) 0))
def Zgu (x16 : Int) (l25 : List Int) (x26 : Int) : Option ((List Int × Int × Int) ⊕ ((List Int × Int))) := some (.inl (l25, x26, (IntKind.i64.wrap (x16 + 1))))
def Zgv (p1_0 : Y8h) (l14 : List Int) (x15 : Int) (x16 : Int) : Option ((List Int × Int × Int) ⊕ ((List Int × Int))) := cond (decide (x16 < (l14.length : Int))) ((getI l14 x16).bind fun e18 => (Zgn e18 p1_0).bind fun r20 => cond r20 (Zgu x16 l14 x15) ((getI l14 x15).bind fun e23 => Zgu x16 (List.set l14 (Int.toNat x15) e18) (IntKind.i64.wrap (x15 + 1)))) (some (.inr (l14, x15)))
def Zgw (p0 : List Int) (p1_0 : Y8h) : Option (List Int) := (Zgr p0 p1_0).bind fun r1 => cond (r1 == (-1)) (some p0) ((iter (fun z36 => Zgv p1_0 z36.1 z36.2.1 z36.2.2) big (p0, r1, (IntKind.i64.wrap (r1 + 1)))).bind fun (y37, y38) => Zgt y37 y38)
theorem Zgx {w00 : Value} {b01 : Nat} (p0 : List Int) (p1_0 : Y8h) (r : List Int) (h : Zgw p0 p1_0 = some r) : Ok Tryz.prog 206 [cV w00, C.clo 207 [pt b01]] [oA w00 2 kI64 1 p0, oB b01 136 [cI p1_0.id, cI p1_0.room, cI p1_0.author, cI p1_0.kind, cI p1_0.key, cI p1_0.n, C.str p1_0.text, cM kI64 1 p1_0.prev, cI p1_0.time]] (fun c qs => ∃ (v35 : Value), c = cV v35 ∧ qs = [oA v35 2 kI64 1 r, oB b01 136 [cI p1_0.id, cI p1_0.room, cI p1_0.author, cI p1_0.kind, cI p1_0.key, cI p1_0.n, C.str p1_0.text, cM kI64 1 p1_0.prev, cI p1_0.time]]) := by
 refine Ok.of_body (rs := [.tmp 4]) Tryz.func206 rfl rfl rfl rfl rfl fun X => ?_
 unfold Zgw at h
 refine zw ?_
 refine ob' h fun r1 g2 h => ?_
 refine Ops.hd (ns := [0, 0]) rfl rfl (Y22 (Zgs p0 p1_0 _ g2) rfl rfl) ?_
 refine zw ?_
 refine cnd h (fun hb3 h => ?_) fun hb3 h => ?_
 ·
  refine AW.ct hb3 rfl ?_
  refine zw ?_
  refine AW.ret ?_
  rw [← Wj h]
  exact ⟨[cV w00], _, Y1z.refl _, (.cons (.tmp rfl) .nil), [0, 0], _, _, rfl, ⟨w00, rfl, rfl⟩⟩
 refine AW.cf hb3 rfl ?_
 refine AW.skip ?_
 refine AW.seq ?_
 refine AW.cut (τ := List Int × Int) (fun (l27, x28) => ⟨[(0, cV w00), (5, cI x28)], [oA w00 2 kI64 1 l27, oB b01 136 [cI p1_0.id, cI p1_0.room, cI p1_0.author, cI p1_0.kind, cI p1_0.key, cI p1_0.n, C.str p1_0.text, cM kI64 1 p1_0.prev, cI p1_0.time]]⟩) (fun (l27, x28) => Zgt l27 x28 = some r) ?_ ?_
 ·
  refine zw ?_
  refine AW.lp (v := ()) h (fun (l14, x15, x16) (_ : Unit) => ⟨[(0, cV w00), (1, C.clo 207 [pt b01]), (5, cI x15), (6, cI x16)], [oA w00 2 kI64 1 l14, oB b01 136 [cI p1_0.id, cI p1_0.room, cI p1_0.author, cI p1_0.kind, cI p1_0.key, cI p1_0.n, C.str p1_0.text, cM kI64 1 p1_0.prev, cI p1_0.time]]⟩) (gb [0, 0]) ?_
  rintro ⟨l14, x15, x16⟩ _ y44 h
  refine zw ?_
  refine cnd h (fun hb17 h => ?_) fun hb17 h => ?_
  ·
   refine AW.ct hb17 rfl ?_
   refine zw ?_
   refine oi h fun e18 g19 h => ?_
   refine Ops.v rfl (Y2x (p := 0) ld_2.h rfl rfl (Y27 g19).2.2 rfl rfl) ?_
   refine zw ?_
   refine ob' h fun r20 g21 h => ?_
   refine Ops.hd (ns := [1]) rfl rfl (Y6j (cs := [_]) (ds := [_]) rfl (Zgo e18 p1_0 _ g21) rfl rfl) ?_
   refine zw ?_
   refine cnd h (fun hb22 h => go) fun hb22 h => ?_
   refine AW.cond rfl (fun _ => ?_) (fun hn => absurd ((Y3s hb22).symm.trans hn) (by decide))
   refine zw ?_
   refine ob' h fun e23 g24 h => ?_
   refine Ops.v rfl (Y2v (p := 1) Y9b.h rfl rfl rfl g24 rfl) ?_
   refine Ops.hd (ns := [1]) rfl rfl (Y30 (e' := e18) ld_2.h rfl rfl (One.val rfl) (Y27 g24).2.2 rfl rfl) ?_
   exact go
  exact go
 rintro ⟨l27, x28⟩ h
 replace h : Zgt l27 x28 = some r := h
 unfold Zgt at h
 refine zw ?_
 refine ob' h fun u30 c29 h => ?_
 refine Ops.v rfl (Y6q (p := 0) (l := (Int.toNat x28)) Y9b.h rfl rfl rfl (Wo (Y3q c29)) rfl rfl) ?_
 refine ob' h fun u32 c31 h => ?_
 refine Ops.hd (ns := [0]) rfl rfl (Y6y (z := 0) Y9s ze_2 (Y3z rfl rfl) rfl (Wo (Y3q c31))) ?_
 refine zw ?_
 refine ob' h fun u34 c33 h => ?_
 refine Ops.v rfl (Y6r (p := 0) (l := (Int.toNat x28)) Y9b.h rfl rfl rfl (Wo (Y3q c33)) rfl rfl) ?_
 refine zw ?_
 refine AW.ret ?_
 rw [← Wj h]
 exact ⟨[cV (Y6o w00 (Int.toNat x28))], _, Y1z.prefix (p := 0) (h := (Int.toNat x28)) rfl (Int.le_toNat_len c33), (.cons (.tmp rfl) .nil), [0, 0], _, _, rfl, ⟨(Y6o w00 (Int.toNat x28)), rfl, rfl⟩⟩

def Zgy (l29 : List Int) : Option (List Int) := some l29
def Zgz (p0 : Y8q) (p1 : List Int) (l17 : List Int) (x18 : Int) : Option ((List Int × Int) ⊕ ((List Int))) := cond (decide (x18 < (p1.length : Int))) ((getI p1 x18).bind fun e20 => (Zc5 p0.graph e20).bind fun r22 => (Zgw l17 r22.1).bind fun r25 => some (.inl (r25, (IntKind.i64.wrap (x18 + 1))))) (some (.inr l17))
def Zh0 (p0 : Y8q) (p1 : List Int) : Option (List Int) := (Zeo p1).bind fun r1 => (Zgl r1).bind fun r4 => (iter (fun z31 => Zgz p0 p1 z31.1 z31.2) big (r4, 0)).bind fun y32 => Zgy y32
theorem Zh1 (p0 : Y8q) (p1 : List Int) (r : List Int) (h : Zh0 p0 p1 = some r) : Ok Tryz.prog 144 [C.ip [cI p0.graph.room, cM Y8t 9 p0.graph.events, cM Y8t 9 p0.graph.parked, C.imap .i64 Y96 p0.depth, C.imap .i64 Y97 p0.before, C.imap .i64 Y97 p0.after, C.imap .i64 Y96 p0.refused], cM kI64 1 p1] [] (fun c qs => ∃ (v30 : Value), c = cV v30 ∧ qs = [oA v30 2 kI64 1 r]) := by
 refine Ok.of_body (rs := [.tmp 4]) Tryz.func144 rfl rfl rfl rfl rfl fun X => ?_
 unfold Zh0 at h
 refine zw ?_
 refine ob' h fun r1 g2 h => ?_
 refine Ops.h (ns := []) rfl rfl (Y21 (Zep _ _ g2) rfl rfl) ?_
 rintro _ _ ⟨_, ⟨v3, rfl, rfl⟩, rfl⟩
 refine ob' h fun r4 g5 h => ?_
 refine Ops.h (ns := [0]) rfl rfl (Y21 (Zgm r1 _ g5) rfl rfl) ?_
 rintro _ _ ⟨_, ⟨v6, rfl, rfl⟩, rfl⟩
 refine Ops.v rfl (Yr rfl rfl) ?_
 refine Ops.nil ?_
 refine AW.seq ?_
 refine AW.cut (τ := List Int × Value) (fun (l29, v28) => ⟨[(5, cV v28)], [oA v28 2 kI64 1 l29]⟩) (fun (l29, v28) => Zgy l29 = some r) ?_ ?_
 ·
  refine zw ?_
  refine AW.lp h (fun (l17, x18) (v16 : Value) => ⟨[(0, C.ip [cI p0.graph.room, cM Y8t 9 p0.graph.events, cM Y8t 9 p0.graph.parked, C.imap .i64 Y96 p0.depth, C.imap .i64 Y97 p0.before, C.imap .i64 Y97 p0.after, C.imap .i64 Y96 p0.refused]), (5, cV v16), (13, cM kI64 1 p1), (14, cI (p1.length : Int)), (15, cI x18)], [oA v16 2 kI64 1 l17]⟩) (gb [0]) ?_
  rintro ⟨l17, x18⟩ v16 y38 h
  refine zw ?_
  refine cnd h (fun hb19 h => ?_) fun hb19 h => ?_
  ·
   refine AW.ct hb19 rfl ?_
   refine zw ?_
   refine oi h fun e20 g21 h => ?_
   refine zw ?_
   refine oc h fun r22 g23 h => ?_
   refine zw ?_
   refine Ops.h (ns := []) rfl rfl (Y1n (cs := [cI 0, cI 0, cI 0, cI 0, cI 0, cI 0, C.str ByteArray.empty, cV s0, cI 0]) Y9t (Y3z rfl rfl) rfl) ?_
   rintro _ _ ⟨b24, rfl, rfl⟩
   refine Ops.hd (ns := [0]) rfl rfl (Y1s (gs := [cI r22.1.id, cI r22.1.room, cI r22.1.author, cI r22.1.kind, cI r22.1.key, cI r22.1.n, C.str r22.1.text, cM kI64 1 r22.1.prev, cI r22.1.time]) Yaa.h rfl rfl rfl rfl rfl) ?_
   refine zw ?_
   refine Ops.v rfl (Y6h rfl rfl) ?_
   refine ob' h fun r25 g26 h => ?_
   refine Ops.h (ns := [1, 0]) rfl rfl (Y21 (Zgx l17 r22.1 _ g26) rfl rfl) ?_
   rintro _ _ ⟨_, ⟨v27, rfl, rfl⟩, rfl⟩
   exact go
  exact go
 rintro ⟨l29, v28⟩ h
 replace h : Zgy l29 = some r := h
 unfold Zgy at h
 refine zw ?_
 refine AW.ret ?_
 rw [← Wj h]
 exact ⟨[cV v28], _, Y1z.refl _, (.cons (.tmp rfl) .nil), [0], _, _, rfl, ⟨v28, rfl, rfl⟩⟩
instance Zh1' (p0 : Y8q) (p1 : List Int) : Sp Tryz.prog 144 [C.ip [cI p0.graph.room, cM Y8t 9 p0.graph.events, cM Y8t 9 p0.graph.parked, C.imap .i64 Y96 p0.depth, C.imap .i64 Y97 p0.before, C.imap .i64 Y97 p0.after, C.imap .i64 Y96 p0.refused], cM kI64 1 p1] (Zh0 p0 p1) (fun r => cM kI64 1 r) := ⟨fun r h => Ok.freeze (Zh1 p0 p1 r h) (by rintro c qs ⟨v30, rfl, rfl⟩; exact Frz.arr)⟩

def Zh2 (p0 : Y8q) : Option (List Int) := (Zf9 p0).bind fun r1 => (Zh0 p0 r1).bind fun r3 => some r3
instance Zh3 (p0 : Y8q) : Sp Tryz.prog 265 [C.ip [cI p0.graph.room, cM Y8t 9 p0.graph.events, cM Y8t 9 p0.graph.parked, C.imap .i64 Y96 p0.depth, C.imap .i64 Y97 p0.before, C.imap .i64 Y97 p0.after, C.imap .i64 Y96 p0.refused]] (Zh2 p0) (fun r => cM kI64 1 r) := sp Tryz.func265 rfl rfl fun r X h => go

def Zh4 (l20 : List (List Y8n)) : Option (List (List Y8n)) := some l20
def Zh5 (p0 : Y8q) (p1 : List Int) (l10 : List (List Y8n)) (x11 : Int) : Option ((List (List Y8n) × Int) ⊕ ((List (List Y8n)))) := cond (decide (x11 < (p1.length : Int))) ((getI p1 x11).bind fun e13 => (chk (decide ((l10.length + [(Option.getD (mget p0.after e13) ([] : List Y8n))].length) * 24 ≤ 140737488355328))).bind fun u17 => some (.inl ((l10 ++ [(Option.getD (mget p0.after e13) ([] : List Y8n))]), (IntKind.i64.wrap (x11 + 1))))) (some (.inr l10))
def Zh6 (p0 : Y8q) (p1 : List Int) : Option (List (List Y8n)) := (iter (fun z22 => Zh5 p0 p1 z22.1 z22.2) big (([] : List (List Y8n)), 0)).bind fun y23 => Zh4 y23
theorem Zh7 (p0 : Y8q) (p1 : List Int) (r : List (List Y8n)) (h : Zh6 p0 p1 = some r) : Ok Tryz.prog 143 [C.ip [cI p0.graph.room, cM Y8t 9 p0.graph.events, cM Y8t 9 p0.graph.parked, C.imap .i64 Y96 p0.depth, C.imap .i64 Y97 p0.before, C.imap .i64 Y97 p0.after, C.imap .i64 Y96 p0.refused], cM kI64 1 p1] [] (fun c qs => ∃ (v21 : Value), c = cV v21 ∧ qs = [oA v21 27 Y92 1 r]) := by
 refine Ok.of_body (rs := [.tmp 4]) Tryz.func143 rfl rfl rfl rfl rfl fun X => ?_
 unfold Zh6 at h
 refine zw ?_
 refine Ops.h (ns := []) rfl rfl (Y36 (k := Y92) (ys := ([] : List (List Y8n))) Ybp .nil rfl rfl rfl) ?_
 rintro _ _ ⟨b1, rfl, rfl⟩
 refine Ops.v rfl (Yr rfl rfl) ?_
 refine Ops.nil ?_
 refine AW.seq ?_
 refine AW.cut (τ := List (List Y8n) × Value) (fun (l20, v19) => ⟨[(5, cV v19)], [oA v19 27 Y92 1 l20]⟩) (fun (l20, v19) => Zh4 l20 = some r) ?_ ?_
 ·
  refine zw ?_
  refine AW.lp h (fun (l10, x11) (v9 : Value) => ⟨[(0, C.ip [cI p0.graph.room, cM Y8t 9 p0.graph.events, cM Y8t 9 p0.graph.parked, C.imap .i64 Y96 p0.depth, C.imap .i64 Y97 p0.before, C.imap .i64 Y97 p0.after, C.imap .i64 Y96 p0.refused]), (5, cV v9), (9, cM kI64 1 p1), (10, cI (p1.length : Int)), (11, cI x11)], [oA v9 27 Y92 1 l10]⟩) (gb [0]) ?_
  rintro ⟨l10, x11⟩ v9 y29 h
  refine zw ?_
  refine cnd h (fun hb12 h => ?_) fun hb12 h => ?_
  ·
   refine AW.ct hb12 rfl ?_
   refine zw ?_
   refine oi h fun e13 g14 h => ?_
   refine zw ?_
   refine Ops.v rfl (Y7v (kc := Y97) (z0 := ([] : List Y8n)) Yci Ycj (fun w F => Imp.nil Y91 3 w F _ rfl) rfl rfl rfl) ?_
   refine Ops.h (ns := []) rfl rfl (Y36 (k := Y92) (ys := [(Option.getD (mget p0.after e13) ([] : List Y8n))]) Ybp (.one rfl One.im rfl rfl .nil) rfl rfl rfl) ?_
   rintro _ _ ⟨b15, rfl, rfl⟩
   refine ob' h fun u17 c16 h => ?_
   refine Ops.h (ns := [1, 0]) rfl rfl (Y2q Ybp rfl rfl (Wo (Y3q c16)) (Y3t (by decide) c16) rfl) ?_
   rintro _ _ ⟨v18, rfl, rfl⟩
   exact go
  exact go
 rintro ⟨l20, v19⟩ h
 replace h : Zh4 l20 = some r := h
 unfold Zh4 at h
 refine zw ?_
 refine AW.ret ?_
 rw [← Wj h]
 exact ⟨[cV v19], _, Y1z.refl _, (.cons (.tmp rfl) .nil), [0], _, _, rfl, ⟨v19, rfl, rfl⟩⟩
instance Zh7' (p0 : Y8q) (p1 : List Int) : Sp Tryz.prog 143 [C.ip [cI p0.graph.room, cM Y8t 9 p0.graph.events, cM Y8t 9 p0.graph.parked, C.imap .i64 Y96 p0.depth, C.imap .i64 Y97 p0.before, C.imap .i64 Y97 p0.after, C.imap .i64 Y96 p0.refused], cM kI64 1 p1] (Zh6 p0 p1) (fun r => cM Y92 1 r) := ⟨fun r h => Ok.freeze (Zh7 p0 p1 r h) (by rintro c qs ⟨v21, rfl, rfl⟩; exact Frz.arr)⟩

def Zh8 (l205 : List Y8n) : Option (List Y8n) := some l205
def Zh9 (x194 : Int) (l204 : List Y8n) : Option ((List Y8n × Int) ⊕ ((List Y8n))) := some (.inl (l204, (IntKind.i64.wrap (x194 + 1))))
def Zha (p0 : Y8q) (r176 : List Y8h) (l193 : List Y8n) (x194 : Int) : Option ((List Y8n × Int) ⊕ ((List Y8n))) := cond (decide (x194 < (r176.length : Int))) ((getI r176 x194).bind fun e196 => (Zdn p0.graph l193 e196).bind fun r199 => cond (r199 == 0) ((Zdw l193 (Y8n.mk e196.kind e196.key e196.id)).bind fun r202 => Zh9 x194 r202) (Zh9 x194 l193)) (some (.inr l193))
def Zhb (p0 : Y8q) (l37 : List Y8n) (l175 : List Y8h) : Option (List Y8n) := (Y7h (fun z1 z2 => Ze6 z1 z2 p0) l175).bind fun r176 => (iter (fun z206 => Zha p0 r176 z206.1 z206.2) big (l37, 0)).bind fun y207 => Zh8 y207
def Zhc (x113 : Int) (l172 : List Y8h) (m173 : List (Int × Bool)) : Option ((List Y8h × (List (Int × Bool)) × Int) ⊕ ((List Y8h))) := some (.inl (l172, m173, (IntKind.i64.wrap (x113 + 1))))
def Zhd (x145 : Int) (l169 : List Y8h) (m170 : List (Int × Bool)) : Option ((List Y8h × (List (Int × Bool)) × Int) ⊕ ((List Y8h × (List (Int × Bool))))) := some (.inl (l169, m170, (IntKind.i64.wrap (x145 + 1))))
def Zhe (l143 : List Y8h) (m144 : List (Int × Bool)) (x145 : Int) (e147 : Y8n) (x155 : Int) (x156 : Int) (x157 : Int) (x158 : Int) (x159 : Int) (x160 : Int) (x161 : ByteArray) (l162 : List Int) (x163 : Int) : Option ((List Y8h × (List (Int × Bool)) × Int) ⊕ ((List Y8h × (List (Int × Bool))))) := (chk (decide ((l143.length + [(Y8h.mk x155 x156 x157 x158 x159 x160 x161 l162 x163)].length) * 96 ≤ 140737488355328))).bind fun u166 => Zhd x145 (l143 ++ [(Y8h.mk x155 x156 x157 x158 x159 x160 x161 l162 x163)]) (mset m144 e147.id true)
def Zhf (p0 : Y8q) (e115 : List Y8n) (l143 : List Y8h) (m144 : List (Int × Bool)) (x145 : Int) : Option ((List Y8h × (List (Int × Bool)) × Int) ⊕ ((List Y8h × (List (Int × Bool))))) := cond (decide (x145 < (e115.length : Int))) ((getI e115 x145).bind fun e147 => cond (Option.getD (mget m144 e147.id) false) (Zhd x145 l143 m144) ((Zc5 p0.graph e147.id).bind fun r151 => Zhe l143 m144 x145 e147 r151.1.id r151.1.room r151.1.author r151.1.kind r151.1.key r151.1.n r151.1.text r151.1.prev r151.1.time)) (some (.inr (l143, m144)))
def Zhg (p0 : Y8q) (p1 : List (List Y8n)) (l111 : List Y8h) (m112 : List (Int × Bool)) (x113 : Int) : Option ((List Y8h × (List (Int × Bool)) × Int) ⊕ ((List Y8h))) := cond (decide (x113 < (p1.length : Int))) ((getI p1 x113).bind fun e115 => (iter (fun z208 => Zhf p0 e115 z208.1 z208.2.1 z208.2.2) big (l111, m112, 0)).bind fun (y209, y210) => Zhc x113 y209 y210) (some (.inr l111))
def Zhh (p0 : Y8q) (p1 : List (List Y8n)) (l37 : List Y8n) (m49 : List (Int × Bool)) : Option (List Y8n) := (iter (fun z211 => Zhg p0 p1 z211.1 z211.2.1 z211.2.2) big (([] : List Y8h), m49, 0)).bind fun y212 => Zhb p0 l37 y212
def Zhi (l37 : List Y8n) (m43 : List (Int × Bool)) (x44 : Int) : Option (((List (Int × Bool)) × Int) ⊕ ((List (Int × Bool)))) := cond (decide (x44 < (l37.length : Int))) ((getI l37 x44).bind fun e46 => some (.inl ((mset m43 e46.id true), (IntKind.i64.wrap (x44 + 1))))) (some (.inr m43))
def Zhj (p0 : Y8q) (p1 : List (List Y8n)) (l37 : List Y8n) : Option (List Y8n) := (iter (fun z213 => Zhi l37 z213.1 z213.2) big (([] : List (Int × Bool)), 0)).bind fun y214 => Zhh p0 p1 l37 y214
def Zhk (x22 : Int) (l35 : List Y8n) : Option ((List Y8n × Int) ⊕ ((List Y8n))) := some (.inl (l35, (IntKind.i64.wrap (x22 + 1))))
def Zhl (p1 : List (List Y8n)) (e5 : List Y8n) (l21 : List Y8n) (x22 : Int) : Option ((List Y8n × Int) ⊕ ((List Y8n))) := cond (decide (x22 < (e5.length : Int))) ((getI e5 x22).bind fun e24 => (Ze4 p1 e24).bind fun r27 => cond r27 (Zhk x22 l21) ((chk (decide ((l21.length + [e24].length) * 24 ≤ 140737488355328))).bind fun u32 => Zhk x22 (l21 ++ [e24]))) (some (.inr l21))
def Zhm (p0 : Y8q) (p1 : List (List Y8n)) : Option (List Y8n) := cond (decide ((p1.length : Int) > 0)) ((getI p1 0).bind fun e5 => (iter (fun z215 => Zhl p1 e5 z215.1 z215.2) big (([] : List Y8n), 0)).bind fun y216 => Zhj p0 p1 y216) (Zhj p0 p1 ([] : List Y8n))
instance Zhn (p0 : Y8q) (p1 : List (List Y8n)) : Sp Tryz.prog 142 [C.ip [cI p0.graph.room, cM Y8t 9 p0.graph.events, cM Y8t 9 p0.graph.parked, C.imap .i64 Y96 p0.depth, C.imap .i64 Y97 p0.before, C.imap .i64 Y97 p0.after, C.imap .i64 Y96 p0.refused], cM Y92 1 p1] (Zhm p0 p1) (fun r => cM Y91 3 r) := sp Tryz.func142 rfl rfl fun r X h => by
 unfold Zhm at h
 refine zw ?_
 refine Ops.h (ns := []) rfl rfl (Y1o rfl One.ip rfl) ?_
 rintro _ _ ⟨b1, rfl, rfl⟩
 refine zw ?_
 refine Ops.h (ns := []) rfl rfl (Y36 (k := Y91) (ys := ([] : List Y8n)) Ybe .nil rfl rfl rfl) ?_
 rintro _ _ ⟨b2, rfl, rfl⟩
 refine Ops.h (ns := []) rfl rfl (Y36 (k := Y8t) (ys := ([] : List Y8h)) Yab .nil rfl rfl rfl) ?_
 rintro _ _ ⟨b3, rfl, rfl⟩
 refine Ops.v rfl (Yr rfl rfl) ?_
 refine Ops.v rfl (Yr rfl rfl) ?_
 refine Ops.nil ?_
 refine AW.seq ?_
 refine AW.cut (τ := List Y8n × Value) (fun (l37, v36) => ⟨[(1, cM Y92 1 p1), (2, pt b1), (5, cV v36), (6, cV (sv b3 0 0))], [oB b1 186 [C.ip [cI p0.graph.room, cM Y8t 9 p0.graph.events, cM Y8t 9 p0.graph.parked, C.imap .i64 Y96 p0.depth, C.imap .i64 Y97 p0.before, C.imap .i64 Y97 p0.after, C.imap .i64 Y96 p0.refused]], oA v36 106 Y91 3 l37, oA (sv b3 0 0) 136 Y8t 9 ([] : List Y8h)]⟩) (fun (l37, v36) => Zhj p0 p1 l37 = some r) ?_ ?_
 ·
  refine zw ?_
  refine cnd h (fun hb4 h => ?_) fun hb4 h => ?_
  ·
   refine AW.ct hb4 rfl ?_
   refine zw ?_
   refine oi h fun e5 g6 h => ?_
   refine zw ?_
   refine AW.lp h (fun (l21, x22) (v20 : Value) => ⟨[(1, cM Y92 1 p1), (2, pt b1), (5, cV v20), (6, cV (sv b3 0 0)), (27, cM Y91 3 e5), (28, cI (e5.length : Int)), (29, cI x22)], [oB b1 186 [C.ip [cI p0.graph.room, cM Y8t 9 p0.graph.events, cM Y8t 9 p0.graph.parked, C.imap .i64 Y96 p0.depth, C.imap .i64 Y97 p0.before, C.imap .i64 Y97 p0.after, C.imap .i64 Y96 p0.refused]], oA v20 106 Y91 3 l21, oA (sv b3 0 0) 136 Y8t 9 ([] : List Y8h)]⟩) (gb [2, 1, 0]) ?_
   rintro ⟨l21, x22⟩ v20 y250 h
   refine zw ?_
   refine cnd h (fun hb23 h => ?_) fun hb23 h => ?_
   ·
    refine AW.ct hb23 rfl ?_
    refine zw ?_
    refine oi h fun e24 g25 h => ?_
    refine zw ?_
    refine Ops.h (ns := []) rfl rfl (Y1n (cs := [cI 0, cI 0, cI 0]) Ybl (Y3z rfl rfl) rfl) ?_
    rintro _ _ ⟨b26, rfl, rfl⟩
    refine Ops.hd (ns := [0]) rfl rfl (Y1s (gs := [cI e24.kind, cI e24.key, cI e24.id]) Ybf.h rfl rfl rfl rfl rfl) ?_
    refine zw ?_
    refine Ops.v rfl (Y6h rfl rfl) ?_
    refine ob' h fun r27 g28 h => ?_
    refine Ops.hd (ns := [0]) rfl rfl (Y22 (Ze5 p1 e24 _ g28) rfl rfl) ?_
    refine zw ?_
    refine cnd h (fun hb29 h => go) fun hb29 h => ?_
    refine AW.cond rfl (fun _ => ?_) (fun hn => absurd ((Y3s hb29).symm.trans hn) (by decide))
    refine zw ?_
    refine Ops.h (ns := []) rfl rfl (Y36 (k := Y91) (ys := [e24]) Ybe (.agg rfl rfl .nil) rfl rfl rfl) ?_
    rintro _ _ ⟨b30, rfl, rfl⟩
    refine ob' h fun u32 c31 h => ?_
    refine Ops.h (ns := [3, 0]) rfl rfl (Y2q Ybe rfl rfl (Wo (Y3q c31)) (Y3t (by decide) c31) rfl) ?_
    rintro _ _ ⟨v33, rfl, rfl⟩
    exact go
   exact go
  refine AW.cf hb4 rfl ?_
  refine zw ?_
  exact ⟨(([] : List Y8n), (sv b2 0 0)), h, Y1z.both (ns := [2, 1, 0]) rfl rfl⟩
 rintro ⟨l37, v36⟩ h
 replace h : Zhj p0 p1 l37 = some r := h
 unfold Zhj at h
 refine zw ?_
 refine Ops.h (ns := []) rfl rfl (Y6a (kd := .i64) (kc := Y98) rfl) ?_
 rintro _ _ ⟨b38, rfl, rfl⟩
 refine Ops.v rfl (Yr rfl rfl) ?_
 refine Ops.nil ?_
 refine AW.seq ?_
 refine AW.cut (τ := (List (Int × Bool))) (fun m49 => ⟨[(1, cM Y92 1 p1), (2, pt b1), (5, cV v36), (6, cV (sv b3 0 0)), (9, mt b38)], [oB b1 186 [C.ip [cI p0.graph.room, cM Y8t 9 p0.graph.events, cM Y8t 9 p0.graph.parked, C.imap .i64 Y96 p0.depth, C.imap .i64 Y97 p0.before, C.imap .i64 Y97 p0.after, C.imap .i64 Y96 p0.refused]], oA v36 106 Y91 3 l37, oA (sv b3 0 0) 136 Y8t 9 ([] : List Y8h), Abs.Obj.map b38 .i64 Y98 m49]⟩) (fun m49 => Zhh p0 p1 l37 m49 = some r) ?_ ?_
 ·
  refine AW.seq ?_
  refine AW.region ?_
  refine Ops.v rfl (Yq rfl rfl) ?_
  refine Ops.v rfl (Y2s (p := 2) Yb8.h rfl rfl rfl) ?_
  refine zw ?_
  refine AW.lp (v := ()) h (fun (m43, x44) (_ : Unit) => ⟨[(1, cM Y92 1 p1), (2, pt b1), (5, cV v36), (6, cV (sv b3 0 0)), (9, mt b38), (43, cV v36), (44, cI (l37.length : Int)), (45, cI x44)], [oB b1 186 [C.ip [cI p0.graph.room, cM Y8t 9 p0.graph.events, cM Y8t 9 p0.graph.parked, C.imap .i64 Y96 p0.depth, C.imap .i64 Y97 p0.before, C.imap .i64 Y97 p0.after, C.imap .i64 Y96 p0.refused]], oA v36 106 Y91 3 l37, oA (sv b3 0 0) 136 Y8t 9 ([] : List Y8h), Abs.Obj.map b38 .i64 Y98 m43]⟩) (gb [1, 1, 1, 0]) ?_
  rintro ⟨m43, x44⟩ _ y243 h
  refine zw ?_
  refine cnd h (fun hb45 h => ?_) fun hb45 h => ?_
  ·
   refine AW.ct hb45 rfl ?_
   refine zw ?_
   refine ob' h fun e46 g47 h => ?_
   refine Ops.v rfl (Y2v (p := 1) Yb8.h rfl rfl rfl g47 rfl) ?_
   refine Ops.v rfl (Y2y (p := 1) Ybf.h rfl rfl (Y27 g47).2.2 rfl rfl rfl) ?_
   refine Ops.h (ns := []) rfl rfl (Y1n (cs := [cI 0, cI 0, cI 0]) Ybl (Y3z rfl rfl) rfl) ?_
   rintro _ _ ⟨b48, rfl, rfl⟩
   refine Ops.hd (ns := [0]) rfl rfl (Y1s (gs := [cI e46.kind, cI e46.key, cI e46.id]) Ybf.h rfl rfl rfl rfl rfl) ?_
   refine zw ?_
   refine Ops.hd (ns := [4]) rfl rfl (Y6d (kc := Y98) (v := true) Ycl rfl rfl rfl rfl) ?_
   refine zw ?_
   exact lu h (gb [2, 2, 2, 0])
  refine AW.cf hb45 rfl ?_
  refine AW.exit ?_
  refine lx h fun h => ?_
  exact ⟨m43, h, Y1z.both (ns := [0, 0, 0, 0]) rfl rfl⟩
 intro m49 h
 replace h : Zhh p0 p1 l37 m49 = some r := h
 unfold Zhh at h
 refine AW.seq ?_
 refine AW.cut (τ := List Y8h × Value) (fun (l175, v174) => ⟨[(2, pt b1), (5, cV v36), (6, cV v174)], [oB b1 186 [C.ip [cI p0.graph.room, cM Y8t 9 p0.graph.events, cM Y8t 9 p0.graph.parked, C.imap .i64 Y96 p0.depth, C.imap .i64 Y97 p0.before, C.imap .i64 Y97 p0.after, C.imap .i64 Y96 p0.refused]], oA v36 106 Y91 3 l37, oA v174 136 Y8t 9 l175]⟩) (fun (l175, v174) => Zhb p0 l37 l175 = some r) ?_ ?_
 ·
  refine zw ?_
  refine AW.lp h (fun (l111, m112, x113) (v110 : Value) => ⟨[(2, pt b1), (5, cV v36), (6, cV v110), (9, mt b38), (53, cM Y92 1 p1), (54, cI (p1.length : Int)), (55, cI x113)], [oB b1 186 [C.ip [cI p0.graph.room, cM Y8t 9 p0.graph.events, cM Y8t 9 p0.graph.parked, C.imap .i64 Y96 p0.depth, C.imap .i64 Y97 p0.before, C.imap .i64 Y97 p0.after, C.imap .i64 Y96 p0.refused]], oA v36 106 Y91 3 l37, oA v110 136 Y8t 9 l111, Abs.Obj.map b38 .i64 Y98 m112]⟩) (gb [0, 0, 0, 0]) ?_
  rintro ⟨l111, m112, x113⟩ v110 y229 h
  refine zw ?_
  refine cnd h (fun hb114 h => ?_) fun hb114 h => ?_
  ·
   refine AW.ct hb114 rfl ?_
   refine AW.skip ?_
   refine AW.seq ?_
   refine AW.cut (τ := List Y8h × (List (Int × Bool)) × Value) (fun (l172, m173, v171) => ⟨[(2, pt b1), (5, cV v36), (6, cV v171), (9, mt b38), (53, cM Y92 1 p1), (54, cI (p1.length : Int)), (55, cI x113)], [oB b1 186 [C.ip [cI p0.graph.room, cM Y8t 9 p0.graph.events, cM Y8t 9 p0.graph.parked, C.imap .i64 Y96 p0.depth, C.imap .i64 Y97 p0.before, C.imap .i64 Y97 p0.after, C.imap .i64 Y96 p0.refused]], oA v36 106 Y91 3 l37, oA v171 136 Y8t 9 l172, Abs.Obj.map b38 .i64 Y98 m173]⟩) (fun (l172, m173, v171) => Zhc x113 l172 m173 = some y229) ?_ ?_
   ·
    refine zw ?_
    refine oi h fun e115 g116 h => ?_
    refine zw ?_
    refine AW.lp h (fun (l143, m144, x145) (v142 : Value) => ⟨[(2, pt b1), (5, cV v36), (6, cV v142), (9, mt b38), (53, cM Y92 1 p1), (54, cI (p1.length : Int)), (55, cI x113), (59, cM Y91 3 e115), (60, cI (e115.length : Int)), (61, cI x145)], [oB b1 186 [C.ip [cI p0.graph.room, cM Y8t 9 p0.graph.events, cM Y8t 9 p0.graph.parked, C.imap .i64 Y96 p0.depth, C.imap .i64 Y97 p0.before, C.imap .i64 Y97 p0.after, C.imap .i64 Y96 p0.refused]], oA v36 106 Y91 3 l37, oA v142 136 Y8t 9 l143, Abs.Obj.map b38 .i64 Y98 m144]⟩) (gb [0, 0, 0, 0]) ?_
    rintro ⟨l143, m144, x145⟩ v142 y236 h
    refine zw ?_
    refine cnd h (fun hb146 h => ?_) fun hb146 h => ?_
    ·
     refine AW.ct hb146 rfl ?_
     refine AW.skip ?_
     refine AW.seq ?_
     refine AW.cut (τ := List Y8h × (List (Int × Bool)) × Value) (fun (l169, m170, v168) => ⟨[(2, pt b1), (5, cV v36), (6, cV v168), (9, mt b38), (53, cM Y92 1 p1), (54, cI (p1.length : Int)), (55, cI x113), (59, cM Y91 3 e115), (60, cI (e115.length : Int)), (61, cI x145)], [oB b1 186 [C.ip [cI p0.graph.room, cM Y8t 9 p0.graph.events, cM Y8t 9 p0.graph.parked, C.imap .i64 Y96 p0.depth, C.imap .i64 Y97 p0.before, C.imap .i64 Y97 p0.after, C.imap .i64 Y96 p0.refused]], oA v36 106 Y91 3 l37, oA v168 136 Y8t 9 l169, Abs.Obj.map b38 .i64 Y98 m170]⟩) (fun (l169, m170, v168) => Zhd x145 l169 m170 = some y236) ?_ ?_
     ·
      refine zw ?_
      refine oi h fun e147 g148 h => ?_
      refine zw ?_
      refine Ops.h (ns := []) rfl rfl (Y1n (cs := [cI 0, cI 0, cI 0]) Ybl (Y3z rfl rfl) rfl) ?_
      rintro _ _ ⟨b149, rfl, rfl⟩
      refine Ops.hd (ns := [0]) rfl rfl (Y1s (gs := [cI e147.kind, cI e147.key, cI e147.id]) Ybf.h rfl rfl rfl rfl rfl) ?_
      refine zw ?_
      refine Ops.v rfl (Y6c (p := 4) (kc := Y98) (z0 := false) Ycl zv_4 (fun _ _ => rfl) rfl rfl rfl rfl) ?_
      refine zw ?_
      refine cnd h (fun hb150 h => ?_) fun hb150 h => ?_
      ·
       refine AW.cond rfl (fun hn => absurd ((Y3r hb150).symm.trans hn) (by decide)) (fun _ => ?_)
       refine zw ?_
       exact ⟨(l143, m144, v142), h, Y1z.both (ns := [1, 1, 1, 1]) rfl rfl⟩
      refine AW.cond rfl (fun _ => ?_) (fun hn => absurd ((Y3s hb150).symm.trans hn) (by decide))
      refine zw ?_
      refine Ops.hd (ns := [4]) rfl rfl (Y6d (kc := Y98) (v := true) Ycl rfl rfl rfl rfl) ?_
      refine Ops.nil ?_
      refine AW.seq ?_
      refine AW.cut (τ := Int × Int × Int × Int × Int × Int × ByteArray × List Int × Int × Nat) (fun (x155, x156, x157, x158, x159, x160, x161, l162, x163, b154) => ⟨[(2, pt b1), (5, cV v36), (6, cV v142), (9, mt b38), (16, pt b154), (53, cM Y92 1 p1), (54, cI (p1.length : Int)), (55, cI x113), (59, cM Y91 3 e115), (60, cI (e115.length : Int)), (61, cI x145)], [oB b1 186 [C.ip [cI p0.graph.room, cM Y8t 9 p0.graph.events, cM Y8t 9 p0.graph.parked, C.imap .i64 Y96 p0.depth, C.imap .i64 Y97 p0.before, C.imap .i64 Y97 p0.after, C.imap .i64 Y96 p0.refused]], oA v36 106 Y91 3 l37, oA v142 136 Y8t 9 l143, Abs.Obj.map b38 .i64 Y98 (mset m144 e147.id true), oB b154 136 [cI x155, cI x156, cI x157, cI x158, cI x159, cI x160, C.str x161, cM kI64 1 l162, cI x163]]⟩) (fun (x155, x156, x157, x158, x159, x160, x161, l162, x163, b154) => Zhe l143 m144 x145 e147 x155 x156 x157 x158 x159 x160 x161 l162 x163 = some y236) ?_ ?_
      ·
       refine AW.regionD (L := [0, 3, 5]) (Lt := [11]) (k := .light 0 true (.light 1 false (.light 2 false (.light 3 true (.light 4 false (.light 5 true (.two 6 10 (.light 7 false (.light 8 false (.light 9 false (.one 10 (.late 11 (.light 12 false .done)))))) (.one 6 (.light 7 false (.light 8 false (.light 9 false (.late 11 (.light 12 false .done))))))))))))) (ns := [0, 0, 0, 0, 0]) (by kernel_rfl) (by kernel_rfl) (by kernel_rfl) (by kernel_rfl) rfl ?_
       refine zw ?_
       refine ob' h fun r151 g152 h => ?_
       refine OpsD.two ?_ ?_
       ·
        refine Y3k.h (ns := []) rfl rfl rfl (Y22 ((Zc6 _ _).h _ g152) rfl rfl) ?_
        rintro _ _ ⟨rfl, rfl⟩
        refine OpsD.v rfl rfl (Yq rfl rfl) ?_
        refine OpsD.v rfl rfl (Y11 rfl rfl rfl) ?_
        refine OpsD.v rfl rfl (Y11 rfl rfl rfl) ?_
        refine OpsD.one ?_
        refine Y3k.h (ns := []) rfl rfl rfl (Y1n (cs := [cI 0, cI 0, cI 0, cI 0, cI 0, cI 0, C.str ByteArray.empty, cV s0, cI 0]) Y9t (Y3z rfl rfl) rfl) ?_
        rintro _ _ ⟨b153, rfl, rfl⟩
        refine OpsD.late (ns := [5]) rfl rfl rfl (Y1s (gs := [cI r151.1.id, cI r151.1.room, cI r151.1.author, cI r151.1.kind, cI r151.1.key, cI r151.1.n, C.str r151.1.text, cM kI64 1 r151.1.prev, cI r151.1.time]) Yaa.h rfl rfl rfl rfl rfl) ?_
        rintro _ _ ⟨rfl, rfl⟩
        refine zw ?_
        exact ⟨(r151.1.id, r151.1.room, r151.1.author, r151.1.kind, r151.1.key, r151.1.n, r151.1.text, r151.1.prev, r151.1.time, b153), h, Y1z.both (ns := [3, 3, 3, 1, 0]) rfl rfl⟩
       refine Y3k.h (ns := []) rfl rfl rfl (Y1n (cs := [cI 0, cI 0, cI 0, cI 0, cI 0, cI 0, C.str ByteArray.empty, cV s0, cI 0]) Y9t (Y3z rfl rfl) rfl) ?_
       rintro _ _ ⟨b153, rfl, rfl⟩
       refine OpsD.one ?_
       refine Y3k.h (ns := []) rfl rfl rfl (Y22 ((Zc6 _ _).h _ g152) rfl rfl) ?_
       rintro _ _ ⟨rfl, rfl⟩
       refine zw ?_
       refine OpsD.late (ns := [5]) rfl rfl rfl (Y1s (gs := [cI r151.1.id, cI r151.1.room, cI r151.1.author, cI r151.1.kind, cI r151.1.key, cI r151.1.n, C.str r151.1.text, cM kI64 1 r151.1.prev, cI r151.1.time]) Yaa.h rfl rfl rfl rfl rfl) ?_
       rintro _ _ ⟨rfl, rfl⟩
       refine zw ?_
       exact ⟨(r151.1.id, r151.1.room, r151.1.author, r151.1.kind, r151.1.key, r151.1.n, r151.1.text, r151.1.prev, r151.1.time, b153), h, Y1z.both (ns := [3, 3, 3, 1, 0]) rfl rfl⟩
      rintro ⟨x155, x156, x157, x158, x159, x160, x161, l162, x163, b154⟩ h
      replace h : Zhe l143 m144 x145 e147 x155 x156 x157 x158 x159 x160 x161 l162 x163 = some y236 := h
      unfold Zhe at h
      refine AW.region ?_
      refine Ops.v rfl (Yq rfl rfl) ?_
      refine Ops.v rfl (Y1j (p := 4) (ds := [cI x155, cI x156, cI x157, cI x158, cI x159, cI x160, C.str x161, cM kI64 1 l162, cI x163]) Yaa.h rfl rfl rfl rfl rfl) ?_
      refine Ops.h (ns := []) rfl rfl (Y36 (k := Y8t) (ys := [(Y8h.mk x155 x156 x157 x158 x159 x160 x161 l162 x163)]) Yab (.agg rfl rfl .nil) rfl rfl rfl) ?_
      rintro _ _ ⟨b164, rfl, rfl⟩
      refine ob' h fun u166 c165 h => ?_
      refine Ops.h (ns := [3, 0]) rfl rfl (Y2q Yab rfl rfl (Wo (Y3q c165)) (Y3t (by decide) c165) rfl) ?_
      rintro _ _ ⟨v167, rfl, rfl⟩
      refine zw ?_
      exact ⟨((l143 ++ [(Y8h.mk x155 x156 x157 x158 x159 x160 x161 l162 x163)]), (mset m144 e147.id true), v167), h, Y1z.both (ns := [1, 1, 0, 0]) rfl rfl⟩
     rintro ⟨l169, m170, v168⟩ h
     replace h : Zhd x145 l169 m170 = some y236 := h
     unfold Zhd at h
     refine zw ?_
     exact le h (gb [0, 0, 0, 0])
    refine AW.cf hb146 rfl ?_
    refine AW.exit ?_
    refine lx h fun h => ?_
    exact ⟨(l143, m144, v142), h, Y1z.both (ns := [0, 0, 0, 0]) rfl rfl⟩
   rintro ⟨l172, m173, v171⟩ h
   replace h : Zhc x113 l172 m173 = some y229 := h
   unfold Zhc at h
   refine zw ?_
   exact le h (gb [0, 0, 0, 0])
  exact go
 rintro ⟨l175, v174⟩ h
 replace h : Zhb p0 l37 l175 = some r := h
 unfold Zhb at h
 refine zw ?_
 refine Ops.v rfl (Y6h rfl rfl) ?_
 refine ob' h fun r176 g177 h => ?_
 refine Ops.hd (ns := [2, 0]) rfl rfl (Y7s (k := Y8t) Y8f rfl rfl (Y7r.clo rfl) (FrzT.cons (os := [_]) (Frz.box (fS FrzL.nil)) FrzT.nil) (fun z1 z2 r_ h_ => (Ze7 z1 z2 p0).h r_ h_) g177 rfl) ?_
 refine zw ?_
 refine AW.lp (v := ()) h (fun (l193, x194) (_ : Unit) => ⟨[(2, pt b1), (5, cM Y91 3 l193), (92, cV v174), (93, cI (r176.length : Int)), (94, cI x194)], [oB b1 186 [C.ip [cI p0.graph.room, cM Y8t 9 p0.graph.events, cM Y8t 9 p0.graph.parked, C.imap .i64 Y96 p0.depth, C.imap .i64 Y97 p0.before, C.imap .i64 Y97 p0.after, C.imap .i64 Y96 p0.refused]], oA v174 136 Y8t 9 r176]⟩) ((Y1z.freeze (p := 2) (t := 5) rfl rfl).trans (Y1z.both (ns := [1, 0]) rfl rfl)) ?_
 rintro ⟨l193, x194⟩ _ y222 h
 refine zw ?_
 refine cnd h (fun hb195 h => ?_) fun hb195 h => ?_
 ·
  refine AW.ct hb195 rfl ?_
  refine zw ?_
  refine ob' h fun e196 g197 h => ?_
  refine Ops.v rfl (Y2v (p := 1) Yad.h rfl rfl rfl g197 rfl) ?_
  refine Ops.v rfl (Y2y (p := 1) Yaa.h rfl rfl (Y27 g197).2.2 rfl rfl rfl) ?_
  refine Ops.h (ns := []) rfl rfl (Y1n (cs := [cI 0, cI 0, cI 0, cI 0, cI 0, cI 0, C.str ByteArray.empty, cV s0, cI 0]) Y9t (Y3z rfl rfl) rfl) ?_
  rintro _ _ ⟨b198, rfl, rfl⟩
  refine Ops.hd (ns := [0]) rfl rfl (Y1s (gs := [cI e196.id, cI e196.room, cI e196.author, cI e196.kind, cI e196.key, cI e196.n, C.str e196.text, cM kI64 1 e196.prev, cI e196.time]) Yaa.h rfl rfl rfl rfl rfl) ?_
  refine zw ?_
  refine rD [0,0,0] [0,3,5] [] [1,4,8,13,16,21,26,28] ?_
  refine zw ?_
  refine dc h fun r199 g200 h => ?_
  refine zw ?_
  refine cnd h (fun hb201 h => ?_) fun hb201 h => ?_
  ·
   refine AW.ct hb201 rfl ?_
   refine zw ?_
   refine Ops.v rfl (Y35 (ds := [cI e196.kind, cI e196.key, cI e196.id]) Ybk Ybl (Y3z rfl rfl) (.one rfl (One.val rfl) rfl rfl (.one rfl (One.val rfl) rfl rfl (.one rfl (One.val rfl) rfl rfl .nil))) rfl) ?_
   exact go
  exact go
 exact go

def Zho (p0 : Y8q) : Option (List Y8n) := (Zh2 p0).bind fun r1 => (Zh6 p0 r1).bind fun r3 => (Zhm p0 r3).bind fun r5 => some r5
instance Zhp (p0 : Y8q) : Sp Tryz.prog 223 [C.ip [cI p0.graph.room, cM Y8t 9 p0.graph.events, cM Y8t 9 p0.graph.parked, C.imap .i64 Y96 p0.depth, C.imap .i64 Y97 p0.before, C.imap .i64 Y97 p0.after, C.imap .i64 Y96 p0.refused]] (Zho p0) (fun r => cM Y91 3 r) := sp Tryz.func223 rfl rfl fun r X h => go

end Go.Proofs.YtbgichfjcnibpaaGreat
