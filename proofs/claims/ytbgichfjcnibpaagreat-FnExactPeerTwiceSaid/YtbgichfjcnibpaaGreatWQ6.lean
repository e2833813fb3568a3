/- Printed by gen.py: plain functions for Go functions, and that the walks keep to them. -/
import Derived.Test.YtbgichfjcnibpaaGreatWQ5
set_option autoImplicit false
set_option linter.unusedVariables false
set_option linter.unusedSimpArgs false
set_option maxHeartbeats 1000000
set_option maxRecDepth 100000
namespace Go.Proofs.YtbgichfjcnibpaaGreat
open Go Go.Abs
attribute [local irreducible] AW Ops OpsD Y3n
def Zey (l205 : List Y93) : Option (List Y93) := some l205
def Zez (x194 : Int) (l204 : List Y93) : Option ((List Y93 × Int) ⊕ ((List Y93))) := some (.inl (l204, (IntKind.i64.wrap (x194 + 1))))
def Zf0 (p0 : Y97) (r176 : List Y8v) (l193 : List Y93) (x194 : Int) : Option ((List Y93 × Int) ⊕ ((List Y93))) := cond (decide (x194 < (r176.length : Int))) ((getI r176 x194).bind fun e196 => (Zed p0.graph l193 e196).bind fun r199 => cond (r199 == 0) ((Zem l193 (Y93.mk e196.kind e196.key e196.id)).bind fun r202 => Zez x194 r202) (Zez x194 l193)) (some (.inr l193))
def Zf1 (p0 : Y97) (l37 : List Y93) (l175 : List Y8v) : Option (List Y93) := (Y7t (fun z1 z2 => Zew z1 z2 p0) l175).bind fun r176 => (iter (fun z206 => Zf0 p0 r176 z206.1 z206.2) big (l37, 0)).bind fun y207 => Zey y207
def Zf2 (x113 : Int) (l172 : List Y8v) (m173 : List (Int × Bool)) : Option ((List Y8v × (List (Int × Bool)) × Int) ⊕ ((List Y8v))) := some (.inl (l172, m173, (IntKind.i64.wrap (x113 + 1))))
def Zf3 (x145 : Int) (l169 : List Y8v) (m170 : List (Int × Bool)) : Option ((List Y8v × (List (Int × Bool)) × Int) ⊕ ((List Y8v × (List (Int × Bool))))) := some (.inl (l169, m170, (IntKind.i64.wrap (x145 + 1))))
def Zf4 (l143 : List Y8v) (m144 : List (Int × Bool)) (x145 : Int) (e147 : Y93) (x155 : Int) (x156 : Int) (x157 : Int) (x158 : Int) (x159 : Int) (x160 : Int) (x161 : ByteArray) (l162 : List Int) (x163 : Int) : Option ((List Y8v × (List (Int × Bool)) × Int) ⊕ ((List Y8v × (List (Int × Bool))))) := (chk (decide ((l143.length + [(Y8v.mk x155 x156 x157 x158 x159 x160 x161 l162 x163)].length) * 96 ≤ 140737488355328))).bind fun u166 => Zf3 x145 (l143 ++ [(Y8v.mk x155 x156 x157 x158 x159 x160 x161 l162 x163)]) (mset m144 e147.id true)
def Zf5 (p0 : Y97) (e115 : List Y93) (l143 : List Y8v) (m144 : List (Int × Bool)) (x145 : Int) : Option ((List Y8v × (List (Int × Bool)) × Int) ⊕ ((List Y8v × (List (Int × Bool))))) := cond (decide (x145 < (e115.length : Int))) ((getI e115 x145).bind fun e147 => cond (Option.getD (mget m144 e147.id) false) (Zf3 x145 l143 m144) ((Zcv p0.graph e147.id).bind fun r151 => Zf4 l143 m144 x145 e147 r151.1.id r151.1.room r151.1.author r151.1.kind r151.1.key r151.1.n r151.1.text r151.1.prev r151.1.time)) (some (.inr (l143, m144)))
def Zf6 (p0 : Y97) (p1 : List (List Y93)) (l111 : List Y8v) (m112 : List (Int × Bool)) (x113 : Int) : Option ((List Y8v × (List (Int × Bool)) × Int) ⊕ ((List Y8v))) := cond (decide (x113 < (p1.length : Int))) ((getI p1 x113).bind fun e115 => (iter (fun z208 => Zf5 p0 e115 z208.1 z208.2.1 z208.2.2) big (l111, m112, 0)).bind fun (y209, y210) => Zf2 x113 y209 y210) (some (.inr l111))
def Zf7 (p0 : Y97) (p1 : List (List Y93)) (l37 : List Y93) (m49 : List (Int × Bool)) : Option (List Y93) := (iter (fun z211 => Zf6 p0 p1 z211.1 z211.2.1 z211.2.2) big (([] : List Y8v), m49, 0)).bind fun y212 => Zf1 p0 l37 y212
def Zf8 (l37 : List Y93) (m43 : List (Int × Bool)) (x44 : Int) : Option (((List (Int × Bool)) × Int) ⊕ ((List (Int × Bool)))) := cond (decide (x44 < (l37.length : Int))) ((getI l37 x44).bind fun e46 => some (.inl ((mset m43 e46.id true), (IntKind.i64.wrap (x44 + 1))))) (some (.inr m43))
def Zf9 (p0 : Y97) (p1 : List (List Y93)) (l37 : List Y93) : Option (List Y93) := (iter (fun z213 => Zf8 l37 z213.1 z213.2) big (([] : List (Int × Bool)), 0)).bind fun y214 => Zf7 p0 p1 l37 y214
def Zfa (x22 : Int) (l35 : List Y93) : Option ((List Y93 × Int) ⊕ ((List Y93))) := some (.inl (l35, (IntKind.i64.wrap (x22 + 1))))
def Zfb (p1 : List (List Y93)) (e5 : List Y93) (l21 : List Y93) (x22 : Int) : Option ((List Y93 × Int) ⊕ ((List Y93))) := cond (decide (x22 < (e5.length : Int))) ((getI e5 x22).bind fun e24 => (Zeu p1 e24).bind fun r27 => cond r27 (Zfa x22 l21) ((chk (decide ((l21.length + [e24].length) * 24 ≤ 140737488355328))).bind fun u32 => Zfa x22 (l21 ++ [e24]))) (some (.inr l21))
def Zfc (p0 : Y97) (p1 : List (List Y93)) : Option (List Y93) := cond (decide ((p1.length : Int) > 0)) ((getI p1 0).bind fun e5 => (iter (fun z215 => Zfb p1 e5 z215.1 z215.2) big (([] : List Y93), 0)).bind fun y216 => Zf9 p0 p1 y216) (Zf9 p0 p1 ([] : List Y93))
theorem Zfd {b00 : Nat} {b01 : Nat} {b02 : Nat} {b03 : Nat} {b04 : Nat} (p0 : Y97) (p1 : List (List Y93)) (r : List Y93) (h : Zfc p0 p1 = some r) : Ok Tryz.prog 142 [pt b00, cM Y9m 1 p1] [oB b00 196 [cI p0.graph.room, cM Y99 9 p0.graph.events, cM Y99 9 p0.graph.parked, mt b01, mt b02, mt b03, mt b04], Abs.Obj.map b01 .i64 Y9q p0.depth, Abs.Obj.map b02 .i64 Y9r p0.before, Abs.Obj.map b03 .i64 Y9r p0.after, Abs.Obj.map b04 .i64 Y9q p0.refused] (fun c qs => c = cM Y9l 3 r ∧ qs = [oB b00 196 [cI p0.graph.room, cM Y99 9 p0.graph.events, cM Y99 9 p0.graph.parked, mt b01, mt b02, mt b03, mt b04], Abs.Obj.map b01 .i64 Y9q p0.depth, Abs.Obj.map b02 .i64 Y9r p0.before, Abs.Obj.map b03 .i64 Y9r p0.after, Abs.Obj.map b04 .i64 Y9q p0.refused]) := by
 refine Ok.of_body (rs := [.tmp 4]) Tryz.func142 rfl rfl rfl rfl rfl fun X => ?_
 unfold Zfc at h
 refine zw ?_
 refine Ops.h (ns := []) rfl rfl (Y1q rfl (One.val rfl) rfl) ?_
 rintro _ _ ⟨b1, rfl, rfl⟩
 refine zw ?_
 refine Ops.h (ns := []) rfl rfl (Y39 (k := Y9l) (ys := ([] : List Y93)) Ycv .nil rfl rfl rfl) ?_
 rintro _ _ ⟨b2, rfl, rfl⟩
 refine Ops.h (ns := []) rfl rfl (Y39 (k := Y99) (ys := ([] : List Y8v)) Yb3 .nil rfl rfl rfl) ?_
 rintro _ _ ⟨b3, rfl, rfl⟩
 refine Ops.v rfl (Yr rfl rfl) ?_
 refine Ops.v rfl (Yr rfl rfl) ?_
 refine Ops.nil ?_
 refine AW.seq ?_
 refine AW.cut (τ := List Y93 × Value) (fun (l37, v36) => ⟨[(1, cM Y9m 1 p1), (2, pt b1), (5, cV v36), (6, cV (sv b3 0 0))], [oB b1 186 [pt b00], oB b00 196 [cI p0.graph.room, cM Y99 9 p0.graph.events, cM Y99 9 p0.graph.parked, mt b01, mt b02, mt b03, mt b04], Abs.Obj.map b01 .i64 Y9q p0.depth, Abs.Obj.map b02 .i64 Y9r p0.before, Abs.Obj.map b03 .i64 Y9r p0.after, Abs.Obj.map b04 .i64 Y9q p0.refused, oA v36 106 Y9l 3 l37, oA (sv b3 0 0) 136 Y99 9 ([] : List Y8v)]⟩) (fun (l37, v36) => Zf9 p0 p1 l37 = some r) ?_ ?_
 ·
  refine zw ?_
  refine cnd h (fun hb4 h => ?_) fun hb4 h => ?_
  ·
   refine AW.ct hb4 rfl ?_
   refine zw ?_
   refine oi h fun e5 g6 h => ?_
   refine zw ?_
   refine AW.lp h (fun (l21, x22) (v20 : Value) => ⟨[(1, cM Y9m 1 p1), (2, pt b1), (5, cV v20), (6, cV (sv b3 0 0)), (27, cM Y9l 3 e5), (28, cI (e5.length : Int)), (29, cI x22)], [oB b1 186 [pt b00], oB b00 196 [cI p0.graph.room, cM Y99 9 p0.graph.events, cM Y99 9 p0.graph.parked, mt b01, mt b02, mt b03, mt b04], Abs.Obj.map b01 .i64 Y9q p0.depth, Abs.Obj.map b02 .i64 Y9r p0.before, Abs.Obj.map b03 .i64 Y9r p0.after, Abs.Obj.map b04 .i64 Y9q p0.refused, oA v20 106 Y9l 3 l21, oA (sv b3 0 0) 136 Y99 9 ([] : List Y8v)]⟩) (gb [2, 2, 2, 2, 2, 2, 1, 0]) ?_
   rintro ⟨l21, x22⟩ v20 y250 h
   refine zw ?_
   refine cnd h (fun hb23 h => ?_) fun hb23 h => ?_
   ·
    refine AW.ct hb23 rfl ?_
    refine AW.skip ?_
    refine AW.seq ?_
    refine AW.cut (τ := List Y93 × Value) (fun (l35, v34) => ⟨[(1, cM Y9m 1 p1), (2, pt b1), (5, cV v34), (6, cV (sv b3 0 0)), (27, cM Y9l 3 e5), (28, cI (e5.length : Int)), (29, cI x22)], [oB b1 186 [pt b00], oB b00 196 [cI p0.graph.room, cM Y99 9 p0.graph.events, cM Y99 9 p0.graph.parked, mt b01, mt b02, mt b03, mt b04], Abs.Obj.map b01 .i64 Y9q p0.depth, Abs.Obj.map b02 .i64 Y9r p0.before, Abs.Obj.map b03 .i64 Y9r p0.after, Abs.Obj.map b04 .i64 Y9q p0.refused, oA v34 106 Y9l 3 l35, oA (sv b3 0 0) 136 Y99 9 ([] : List Y8v)]⟩) (fun (l35, v34) => Zfa x22 l35 = some y250) ?_ ?_
    ·
     refine zw ?_
     refine oi h fun e24 g25 h => ?_
     refine zw ?_
     refine Ops.h (ns := []) rfl rfl (Y1p (cs := [cI 0, cI 0, cI 0]) Yd2 (Y42 rfl rfl) rfl) ?_
     rintro _ _ ⟨b26, rfl, rfl⟩
     refine Ops.hd (ns := [0]) rfl rfl (Y1u (gs := [cI e24.kind, cI e24.key, cI e24.id]) Ycw.h rfl rfl rfl rfl rfl) ?_
     refine zw ?_
     refine Ops.v rfl (Y6q rfl rfl) ?_
     refine ob' h fun r27 g28 h => ?_
     refine Ops.hd (ns := [0]) rfl rfl (Y24 (Zev p1 e24 _ g28) rfl rfl) ?_
     refine zw ?_
     refine cnd h (fun hb29 h => ?_) fun hb29 h => ?_
     ·
      refine AW.cond rfl (fun hn => absurd ((Y3u hb29).symm.trans hn) (by decide)) (fun _ => ?_)
      refine zw ?_
      exact ⟨(l21, v20), h, Y21.both (ns := [1, 1, 1, 1, 1, 1, 1, 1]) rfl rfl⟩
     refine AW.cond rfl (fun _ => ?_) (fun hn => absurd ((Y3v hb29).symm.trans hn) (by decide))
     refine zw ?_
     refine Ops.h (ns := []) rfl rfl (Y39 (k := Y9l) (ys := [e24]) Ycv (.agg rfl rfl .nil) rfl rfl rfl) ?_
     rintro _ _ ⟨b30, rfl, rfl⟩
     refine ob' h fun u32 c31 h => ?_
     refine Ops.h (ns := [8, 0]) rfl rfl (Y2s Ycv rfl rfl (Wo (Y3t c31)) (Y3w (by decide) c31) rfl) ?_
     rintro _ _ ⟨v33, rfl, rfl⟩
     refine zw ?_
     exact ⟨((l21 ++ [e24]), v33), h, Y21.both (ns := [2, 2, 2, 2, 2, 2, 0, 1]) rfl rfl⟩
    rintro ⟨l35, v34⟩ h
    replace h : Zfa x22 l35 = some y250 := h
    unfold Zfa at h
    refine zw ?_
    exact le h (gb [0, 0, 0, 0, 0, 0, 0, 0])
   refine AW.cf hb23 rfl ?_
   refine AW.exit ?_
   refine lx h fun h => ?_
   exact ⟨(l21, v20), h, Y21.both (ns := [0, 0, 0, 0, 0, 0, 0, 0]) rfl rfl⟩
  refine AW.cf hb4 rfl ?_
  refine zw ?_
  exact ⟨(([] : List Y93), (sv b2 0 0)), h, Y21.both (ns := [2, 2, 2, 2, 2, 2, 1, 0]) rfl rfl⟩
 rintro ⟨l37, v36⟩ h
 replace h : Zf9 p0 p1 l37 = some r := h
 unfold Zf9 at h
 refine zw ?_
 refine Ops.h (ns := []) rfl rfl (Y6j (kd := .i64) (kc := Y9s) rfl) ?_
 rintro _ _ ⟨b38, rfl, rfl⟩
 refine Ops.v rfl (Yr rfl rfl) ?_
 refine Ops.nil ?_
 refine AW.seq ?_
 refine AW.cut (τ := (List (Int × Bool))) (fun m49 => ⟨[(1, cM Y9m 1 p1), (2, pt b1), (5, cV v36), (6, cV (sv b3 0 0)), (9, mt b38)], [oB b1 186 [pt b00], oB b00 196 [cI p0.graph.room, cM Y99 9 p0.graph.events, cM Y99 9 p0.graph.parked, mt b01, mt b02, mt b03, mt b04], Abs.Obj.map b01 .i64 Y9q p0.depth, Abs.Obj.map b02 .i64 Y9r p0.before, Abs.Obj.map b03 .i64 Y9r p0.after, Abs.Obj.map b04 .i64 Y9q p0.refused, oA v36 106 Y9l 3 l37, oA (sv b3 0 0) 136 Y99 9 ([] : List Y8v), Abs.Obj.map b38 .i64 Y9s m49]⟩) (fun m49 => Zf7 p0 p1 l37 m49 = some r) ?_ ?_
 ·
  refine AW.seq ?_
  refine AW.region ?_
  refine Ops.v rfl (Yq rfl rfl) ?_
  refine Ops.v rfl (Y2u (p := 7) Ycp.h rfl rfl rfl) ?_
  refine zw ?_
  refine AW.lp (v := ()) h (fun (m43, x44) (_ : Unit) => ⟨[(1, cM Y9m 1 p1), (2, pt b1), (5, cV v36), (6, cV (sv b3 0 0)), (9, mt b38), (43, cV v36), (44, cI (l37.length : Int)), (45, cI x44)], [oB b1 186 [pt b00], oB b00 196 [cI p0.graph.room, cM Y99 9 p0.graph.events, cM Y99 9 p0.graph.parked, mt b01, mt b02, mt b03, mt b04], Abs.Obj.map b01 .i64 Y9q p0.depth, Abs.Obj.map b02 .i64 Y9r p0.before, Abs.Obj.map b03 .i64 Y9r p0.after, Abs.Obj.map b04 .i64 Y9q p0.refused, oA v36 106 Y9l 3 l37, oA (sv b3 0 0) 136 Y99 9 ([] : List Y8v), Abs.Obj.map b38 .i64 Y9s m43]⟩) (gb [1, 1, 1, 1, 1, 1, 1, 1, 0]) ?_
  rintro ⟨m43, x44⟩ _ y243 h
  refine zw ?_
  refine cnd h (fun hb45 h => ?_) fun hb45 h => ?_
  ·
   refine AW.ct hb45 rfl ?_
   refine zw ?_
   refine ob' h fun e46 g47 h => ?_
   refine Ops.v rfl (Y2x (p := 6) Ycp.h rfl rfl rfl g47 rfl) ?_
   refine Ops.v rfl (Y31 (p := 6) Ycw.h rfl rfl (Y29 g47).2.2 rfl rfl rfl) ?_
   refine Ops.h (ns := []) rfl rfl (Y1p (cs := [cI 0, cI 0, cI 0]) Yd2 (Y42 rfl rfl) rfl) ?_
   rintro _ _ ⟨b48, rfl, rfl⟩
   refine Ops.hd (ns := [0]) rfl rfl (Y1u (gs := [cI e46.kind, cI e46.key, cI e46.id]) Ycw.h rfl rfl rfl rfl rfl) ?_
   refine zw ?_
   refine Ops.hd (ns := [9]) rfl rfl (Y6m (kc := Y9s) (v := true) Ye8 rfl rfl rfl rfl) ?_
   refine zw ?_
   exact lu h (gb [2, 2, 2, 2, 2, 2, 2, 2, 0])
  refine AW.cf hb45 rfl ?_
  refine AW.exit ?_
  refine lx h fun h => ?_
  exact ⟨m43, h, Y21.both (ns := [0, 0, 0, 0, 0, 0, 0, 0, 0]) rfl rfl⟩
 intro m49 h
 replace h : Zf7 p0 p1 l37 m49 = some r := h
 unfold Zf7 at h
 refine AW.seq ?_
 refine AW.cut (τ := List Y8v × Value) (fun (l175, v174) => ⟨[(2, pt b1), (5, cV v36), (6, cV v174)], [oB b1 186 [pt b00], oB b00 196 [cI p0.graph.room, cM Y99 9 p0.graph.events, cM Y99 9 p0.graph.parked, mt b01, mt b02, mt b03, mt b04], Abs.Obj.map b01 .i64 Y9q p0.depth, Abs.Obj.map b02 .i64 Y9r p0.before, Abs.Obj.map b03 .i64 Y9r p0.after, Abs.Obj.map b04 .i64 Y9q p0.refused, oA v36 106 Y9l 3 l37, oA v174 136 Y99 9 l175]⟩) (fun (l175, v174) => Zf1 p0 l37 l175 = some r) ?_ ?_
 ·
  refine zw ?_
  refine AW.lp h (fun (l111, m112, x113) (v110 : Value) => ⟨[(2, pt b1), (5, cV v36), (6, cV v110), (9, mt b38), (53, cM Y9m 1 p1), (54, cI (p1.length : Int)), (55, cI x113)], [oB b1 186 [pt b00], oB b00 196 [cI p0.graph.room, cM Y99 9 p0.graph.events, cM Y99 9 p0.graph.parked, mt b01, mt b02, mt b03, mt b04], Abs.Obj.map b01 .i64 Y9q p0.depth, Abs.Obj.map b02 .i64 Y9r p0.before, Abs.Obj.map b03 .i64 Y9r p0.after, Abs.Obj.map b04 .i64 Y9q p0.refused, oA v36 106 Y9l 3 l37, oA v110 136 Y99 9 l111, Abs.Obj.map b38 .i64 Y9s m112]⟩) (gb [0, 0, 0, 0, 0, 0, 0, 0, 0]) ?_
  rintro ⟨l111, m112, x113⟩ v110 y229 h
  refine zw ?_
  refine cnd h (fun hb114 h => ?_) fun hb114 h => ?_
  ·
   refine AW.ct hb114 rfl ?_
   refine AW.skip ?_
   refine AW.seq ?_
   refine AW.cut (τ := List Y8v × (List (Int × Bool)) × Value) (fun (l172, m173, v171) => ⟨[(2, pt b1), (5, cV v36), (6, cV v171), (9, mt b38), (53, cM Y9m 1 p1), (54, cI (p1.length : Int)), (55, cI x113)], [oB b1 186 [pt b00], oB b00 196 [cI p0.graph.room, cM Y99 9 p0.graph.events, cM Y99 9 p0.graph.parked, mt b01, mt b02, mt b03, mt b04], Abs.Obj.map b01 .i64 Y9q p0.depth, Abs.Obj.map b02 .i64 Y9r p0.before, Abs.Obj.map b03 .i64 Y9r p0.after, Abs.Obj.map b04 .i64 Y9q p0.refused, oA v36 106 Y9l 3 l37, oA v171 136 Y99 9 l172, Abs.Obj.map b38 .i64 Y9s m173]⟩) (fun (l172, m173, v171) => Zf2 x113 l172 m173 = some y229) ?_ ?_
   ·
    refine zw ?_
    refine oi h fun e115 g116 h => ?_
    refine zw ?_
    refine AW.lp h (fun (l143, m144, x145) (v142 : Value) => ⟨[(2, pt b1), (5, cV v36), (6, cV v142), (9, mt b38), (53, cM Y9m 1 p1), (54, cI (p1.length : Int)), (55, cI x113), (59, cM Y9l 3 e115), (60, cI (e115.length : Int)), (61, cI x145)], [oB b1 186 [pt b00], oB b00 196 [cI p0.graph.room, cM Y99 9 p0.graph.events, cM Y99 9 p0.graph.parked, mt b01, mt b02, mt b03, mt b04], Abs.Obj.map b01 .i64 Y9q p0.depth, Abs.Obj.map b02 .i64 Y9r p0.before, Abs.Obj.map b03 .i64 Y9r p0.after, Abs.Obj.map b04 .i64 Y9q p0.refused, oA v36 106 Y9l 3 l37, oA v142 136 Y99 9 l143, Abs.Obj.map b38 .i64 Y9s m144]⟩) (gb [0, 0, 0, 0, 0, 0, 0, 0, 0]) ?_
    rintro ⟨l143, m144, x145⟩ v142 y236 h
    refine zw ?_
    refine cnd h (fun hb146 h => ?_) fun hb146 h => ?_
    ·
     refine AW.ct hb146 rfl ?_
     refine AW.skip ?_
     refine AW.seq ?_
     refine AW.cut (τ := List Y8v × (List (Int × Bool)) × Value) (fun (l169, m170, v168) => ⟨[(2, pt b1), (5, cV v36), (6, cV v168), (9, mt b38), (53, cM Y9m 1 p1), (54, cI (p1.length : Int)), (55, cI x113), (59, cM Y9l 3 e115), (60, cI (e115.length : Int)), (61, cI x145)], [oB b1 186 [pt b00], oB b00 196 [cI p0.graph.room, cM Y99 9 p0.graph.events, cM Y99 9 p0.graph.parked, mt b01, mt b02, mt b03, mt b04], Abs.Obj.map b01 .i64 Y9q p0.depth, Abs.Obj.map b02 .i64 Y9r p0.before, Abs.Obj.map b03 .i64 Y9r p0.after, Abs.Obj.map b04 .i64 Y9q p0.refused, oA v36 106 Y9l 3 l37, oA v168 136 Y99 9 l169, Abs.Obj.map b38 .i64 Y9s m170]⟩) (fun (l169, m170, v168) => Zf3 x145 l169 m170 = some y236) ?_ ?_
     ·
      refine zw ?_
      refine oi h fun e147 g148 h => ?_
      refine zw ?_
      refine Ops.h (ns := []) rfl rfl (Y1p (cs := [cI 0, cI 0, cI 0]) Yd2 (Y42 rfl rfl) rfl) ?_
      rintro _ _ ⟨b149, rfl, rfl⟩
      refine Ops.hd (ns := [0]) rfl rfl (Y1u (gs := [cI e147.kind, cI e147.key, cI e147.id]) Ycw.h rfl rfl rfl rfl rfl) ?_
      refine zw ?_
      refine Ops.v rfl (Y6l (p := 9) (kc := Y9s) (z0 := false) Ye8 zv_4 (fun _ _ => rfl) rfl rfl rfl rfl) ?_
      refine zw ?_
      refine cnd h (fun hb150 h => ?_) fun hb150 h => ?_
      ·
       refine AW.cond rfl (fun hn => absurd ((Y3u hb150).symm.trans hn) (by decide)) (fun _ => ?_)
       refine zw ?_
       exact ⟨(l143, m144, v142), h, Y21.both (ns := [1, 1, 1, 1, 1, 1, 1, 1, 1]) rfl rfl⟩
      refine AW.cond rfl (fun _ => ?_) (fun hn => absurd ((Y3v hb150).symm.trans hn) (by decide))
      refine zw ?_
      refine Ops.hd (ns := [9]) rfl rfl (Y6m (kc := Y9s) (v := true) Ye8 rfl rfl rfl rfl) ?_
      refine Ops.nil ?_
      refine AW.seq ?_
      refine AW.cut (τ := Int × Int × Int × Int × Int × Int × ByteArray × List Int × Int × Nat) (fun (x155, x156, x157, x158, x159, x160, x161, l162, x163, b154) => ⟨[(2, pt b1), (5, cV v36), (6, cV v142), (9, mt b38), (16, pt b154), (53, cM Y9m 1 p1), (54, cI (p1.length : Int)), (55, cI x113), (59, cM Y9l 3 e115), (60, cI (e115.length : Int)), (61, cI x145)], [oB b1 186 [pt b00], oB b00 196 [cI p0.graph.room, cM Y99 9 p0.graph.events, cM Y99 9 p0.graph.parked, mt b01, mt b02, mt b03, mt b04], Abs.Obj.map b01 .i64 Y9q p0.depth, Abs.Obj.map b02 .i64 Y9r p0.before, Abs.Obj.map b03 .i64 Y9r p0.after, Abs.Obj.map b04 .i64 Y9q p0.refused, oA v36 106 Y9l 3 l37, oA v142 136 Y99 9 l143, Abs.Obj.map b38 .i64 Y9s (mset m144 e147.id true), oB b154 136 [cI x155, cI x156, cI x157, cI x158, cI x159, cI x160, C.str x161, cM kI64 1 l162, cI x163]]⟩) (fun (x155, x156, x157, x158, x159, x160, x161, l162, x163, b154) => Zf4 l143 m144 x145 e147 x155 x156 x157 x158 x159 x160 x161 l162 x163 = some y236) ?_ ?_
      ·
       refine AW.regionD (L := [0, 3, 5]) (Lt := [11]) (k := .light 0 true (.light 1 false (.light 2 false (.light 3 true (.light 4 false (.light 5 true (.two 6 10 (.light 7 false (.light 8 false (.light 9 false (.one 10 (.late 11 (.light 12 false .done)))))) (.one 6 (.light 7 false (.light 8 false (.light 9 false (.late 11 (.light 12 false .done))))))))))))) (ns := [0, 0, 0, 0, 0, 0, 0, 0, 0, 0]) (by kernel_rfl) (by kernel_rfl) (by kernel_rfl) (by kernel_rfl) rfl ?_
       refine OpsD.v rfl rfl (Y1k (p := 2) Ye9.h rfl rfl rfl rfl) ?_
       refine OpsD.v rfl rfl (Y14 rfl rfl) ?_
       refine OpsD.v rfl rfl (Y1b Yea.h rfl rfl) ?_
       refine OpsD.v rfl rfl (Y1l (p := 3) (ds := [cI p0.graph.room, cM Y99 9 p0.graph.events, cM Y99 9 p0.graph.parked]) Ybf.h rfl rfl rfl rfl rfl) ?_
       refine zw ?_
       refine ob' h fun r151 g152 h => ?_
       refine OpsD.two ?_ ?_
       ·
        refine Y3n.h (ns := []) rfl rfl rfl (Y24 ((Zcw _ _).h _ g152) rfl rfl) ?_
        rintro _ _ ⟨rfl, rfl⟩
        refine OpsD.v rfl rfl (Yq rfl rfl) ?_
        refine OpsD.v rfl rfl (Y13 rfl rfl rfl) ?_
        refine OpsD.v rfl rfl (Y13 rfl rfl rfl) ?_
        refine OpsD.one ?_
        refine Y3n.h (ns := []) rfl rfl rfl (Y1p (cs := [cI 0, cI 0, cI 0, cI 0, cI 0, cI 0, C.str ByteArray.empty, cV s0, cI 0]) Yal (Y42 rfl rfl) rfl) ?_
        rintro _ _ ⟨b153, rfl, rfl⟩
        refine OpsD.late (ns := [10]) rfl rfl rfl (Y1u (gs := [cI r151.1.id, cI r151.1.room, cI r151.1.author, cI r151.1.kind, cI r151.1.key, cI r151.1.n, C.str r151.1.text, cM kI64 1 r151.1.prev, cI r151.1.time]) Yb2.h rfl rfl rfl rfl rfl) ?_
        rintro _ _ ⟨rfl, rfl⟩
        refine zw ?_
        exact ⟨(r151.1.id, r151.1.room, r151.1.author, r151.1.kind, r151.1.key, r151.1.n, r151.1.text, r151.1.prev, r151.1.time, b153), h, Y21.both (ns := [3, 3, 3, 3, 3, 3, 3, 3, 1, 0]) rfl rfl⟩
       refine Y3n.h (ns := []) rfl rfl rfl (Y1p (cs := [cI 0, cI 0, cI 0, cI 0, cI 0, cI 0, C.str ByteArray.empty, cV s0, cI 0]) Yal (Y42 rfl rfl) rfl) ?_
       rintro _ _ ⟨b153, rfl, rfl⟩
       refine OpsD.one ?_
       refine Y3n.h (ns := []) rfl rfl rfl (Y24 ((Zcw _ _).h _ g152) rfl rfl) ?_
       rintro _ _ ⟨rfl, rfl⟩
       refine zw ?_
       refine OpsD.late (ns := [10]) rfl rfl rfl (Y1u (gs := [cI r151.1.id, cI r151.1.room, cI r151.1.author, cI r151.1.kind, cI r151.1.key, cI r151.1.n, C.str r151.1.text, cM kI64 1 r151.1.prev, cI r151.1.time]) Yb2.h rfl rfl rfl rfl rfl) ?_
       rintro _ _ ⟨rfl, rfl⟩
       refine zw ?_
       exact ⟨(r151.1.id, r151.1.room, r151.1.author, r151.1.kind, r151.1.key, r151.1.n, r151.1.text, r151.1.prev, r151.1.time, b153), h, Y21.both (ns := [3, 3, 3, 3, 3, 3, 3, 3, 1, 0]) rfl rfl⟩
      rintro ⟨x155, x156, x157, x158, x159, x160, x161, l162, x163, b154⟩ h
      replace h : Zf4 l143 m144 x145 e147 x155 x156 x157 x158 x159 x160 x161 l162 x163 = some y236 := h
      unfold Zf4 at h
      refine AW.region ?_
      refine Ops.v rfl (Yq rfl rfl) ?_
      refine Ops.v rfl (Y1l (p := 9) (ds := [cI x155, cI x156, cI x157, cI x158, cI x159, cI x160, C.str x161, cM kI64 1 l162, cI x163]) Yb2.h rfl rfl rfl rfl rfl) ?_
      refine Ops.h (ns := []) rfl rfl (Y39 (k := Y99) (ys := [(Y8v.mk x155 x156 x157 x158 x159 x160 x161 l162 x163)]) Yb3 (.agg rfl rfl .nil) rfl rfl rfl) ?_
      rintro _ _ ⟨b164, rfl, rfl⟩
      refine ob' h fun u166 c165 h => ?_
      refine Ops.h (ns := [8, 0]) rfl rfl (Y2s Yb3 rfl rfl (Wo (Y3t c165)) (Y3w (by decide) c165) rfl) ?_
      rintro _ _ ⟨v167, rfl, rfl⟩
      refine zw ?_
      exact ⟨((l143 ++ [(Y8v.mk x155 x156 x157 x158 x159 x160 x161 l162 x163)]), (mset m144 e147.id true), v167), h, Y21.both (ns := [1, 1, 1, 1, 1, 1, 1, 0, 0]) rfl rfl⟩
     rintro ⟨l169, m170, v168⟩ h
     replace h : Zf3 x145 l169 m170 = some y236 := h
     unfold Zf3 at h
     refine zw ?_
     exact le h (gb [0, 0, 0, 0, 0, 0, 0, 0, 0])
    refine AW.cf hb146 rfl ?_
    refine AW.exit ?_
    refine lx h fun h => ?_
    exact ⟨(l143, m144, v142), h, Y21.both (ns := [0, 0, 0, 0, 0, 0, 0, 0, 0]) rfl rfl⟩
   rintro ⟨l172, m173, v171⟩ h
   replace h : Zf2 x113 l172 m173 = some y229 := h
   unfold Zf2 at h
   refine zw ?_
   exact le h (gb [0, 0, 0, 0, 0, 0, 0, 0, 0])
  refine AW.cf hb114 rfl ?_
  refine AW.exit ?_
  refine lx h fun h => ?_
  exact ⟨(l111, v110), h, Y21.both (ns := [0, 0, 0, 0, 0, 0, 0, 0]) rfl rfl⟩
 rintro ⟨l175, v174⟩ h
 replace h : Zf1 p0 l37 l175 = some r := h
 unfold Zf1 at h
 refine zw ?_
 refine Ops.v rfl (Y6q rfl rfl) ?_
 refine ob' h fun r176 g177 h => ?_
 refine Ops.hd (ns := [7, 0, 0, 0, 0, 0, 0]) rfl rfl (Y84 (k := Y99) Y8t rfl rfl (Y83.clo rfl) (FrzT.cons (os := [_,_,_,_,_,_]) (Frz.box (FrzL.cons (os := [_,_,_,_,_]) (Frz.box (fS (fS (fS (FrzL.cons (os := [_]) Frz.map (FrzL.cons (os := [_]) Frz.map (FrzL.cons (os := [_]) Frz.map (FrzL.cons (os := [_]) Frz.map FrzL.nil)))))))) FrzL.nil)) FrzT.nil) (fun z1 z2 r_ h_ => (Zex z1 z2 p0).h r_ h_) g177 rfl) ?_
 refine Ops.nil ?_
 refine AW.seq ?_
 refine AW.cut (τ := List Y93) (fun l205 => ⟨[(5, cM Y9l 3 l205)], [oB b00 196 [cI p0.graph.room, cM Y99 9 p0.graph.events, cM Y99 9 p0.graph.parked, mt b01, mt b02, mt b03, mt b04], Abs.Obj.map b01 .i64 Y9q p0.depth, Abs.Obj.map b02 .i64 Y9r p0.before, Abs.Obj.map b03 .i64 Y9r p0.after, Abs.Obj.map b04 .i64 Y9q p0.refused]⟩) (fun l205 => Zey l205 = some r) ?_ ?_
 ·
  refine zw ?_
  refine AW.lp (v := ()) h (fun (l193, x194) (_ : Unit) => ⟨[(2, pt b1), (5, cM Y9l 3 l193), (92, cV v174), (93, cI (r176.length : Int)), (94, cI x194)], [oB b1 186 [pt b00], oB b00 196 [cI p0.graph.room, cM Y99 9 p0.graph.events, cM Y99 9 p0.graph.parked, mt b01, mt b02, mt b03, mt b04], Abs.Obj.map b01 .i64 Y9q p0.depth, Abs.Obj.map b02 .i64 Y9r p0.before, Abs.Obj.map b03 .i64 Y9r p0.after, Abs.Obj.map b04 .i64 Y9q p0.refused, oA v174 136 Y99 9 r176]⟩) ((Y21.freeze (p := 7) (t := 5) rfl rfl).trans (Y21.both (ns := [1, 1, 1, 1, 1, 1, 0]) rfl rfl)) ?_
  rintro ⟨l193, x194⟩ _ y222 h
  refine zw ?_
  refine cnd h (fun hb195 h => ?_) fun hb195 h => ?_
  ·
   refine AW.ct hb195 rfl ?_
   refine AW.skip ?_
   refine AW.seq ?_
   refine AW.cut (τ := List Y93) (fun l204 => ⟨[(2, pt b1), (5, cM Y9l 3 l204), (92, cV v174), (93, cI (r176.length : Int)), (94, cI x194)], [oB b1 186 [pt b00], oB b00 196 [cI p0.graph.room, cM Y99 9 p0.graph.events, cM Y99 9 p0.graph.parked, mt b01, mt b02, mt b03, mt b04], Abs.Obj.map b01 .i64 Y9q p0.depth, Abs.Obj.map b02 .i64 Y9r p0.before, Abs.Obj.map b03 .i64 Y9r p0.after, Abs.Obj.map b04 .i64 Y9q p0.refused, oA v174 136 Y99 9 r176]⟩) (fun l204 => Zez x194 l204 = some y222) ?_ ?_
   ·
    refine zw ?_
    refine ob' h fun e196 g197 h => ?_
    refine Ops.v rfl (Y2x (p := 6) Yb8.h rfl rfl rfl g197 rfl) ?_
    refine Ops.v rfl (Y31 (p := 6) Yb2.h rfl rfl (Y29 g197).2.2 rfl rfl rfl) ?_
    refine Ops.h (ns := []) rfl rfl (Y1p (cs := [cI 0, cI 0, cI 0, cI 0, cI 0, cI 0, C.str ByteArray.empty, cV s0, cI 0]) Yal (Y42 rfl rfl) rfl) ?_
    rintro _ _ ⟨b198, rfl, rfl⟩
    refine Ops.hd (ns := [0]) rfl rfl (Y1u (gs := [cI e196.id, cI e196.room, cI e196.author, cI e196.kind, cI e196.key, cI e196.n, C.str e196.text, cM kI64 1 e196.prev, cI e196.time]) Yb2.h rfl rfl rfl rfl rfl) ?_
    refine zw ?_
    refine rD [0,0,0,0,0,0,0,0] [0,3,5] [] [1,4,8,13,16,21,26,28] ?_
    refine zw ?_
    refine dc h fun r199 g200 h => ?_
    refine zw ?_
    refine cnd h (fun hb201 h => ?_) fun hb201 h => ?_
    ·
     refine AW.ct hb201 rfl ?_
     refine zw ?_
     refine Ops.v rfl (Y38 (ds := [cI e196.kind, cI e196.key, cI e196.id]) Yd1 Yd2 (Y42 rfl rfl) (.one rfl (One.val rfl) rfl rfl (.one rfl (One.val rfl) rfl rfl (.one rfl (One.val rfl) rfl rfl .nil))) rfl) ?_
     refine oc h fun r202 g203 h => ?_
     refine zw ?_
     exact ⟨r202, h, Y21.both (ns := [1, 1, 1, 1, 1, 1, 1]) rfl rfl⟩
    refine AW.cf hb201 rfl ?_
    refine zw ?_
    exact ⟨l193, h, Y21.both (ns := [1, 1, 1, 1, 1, 1, 1]) rfl rfl⟩
   intro l204 h
   replace h : Zez x194 l204 = some y222 := h
   unfold Zez at h
   refine zw ?_
   exact lu h (gb [0, 0, 0, 0, 0, 0, 0])
  refine AW.cf hb195 rfl ?_
  refine AW.exit ?_
  refine lx h fun h => ?_
  exact ⟨l193, h, Y21.both (ns := [1, 1, 1, 1, 1]) rfl rfl⟩
 intro l205 h
 replace h : Zey l205 = some r := h
 unfold Zey at h
 refine zw ?_
 refine AW.ret ?_
 rw [← Wj h]
 exact ⟨[cM Y9l 3 l205], _, Y21.refl _, (.cons (.tmp rfl) .nil), [0, 0, 0, 0, 0], _, _, rfl, ⟨rfl, rfl⟩⟩

def Zfe (p0 : List Int) : Option (List Int) := (chk (decide (p0.length * 8 ≤ 140737488355328))).bind fun _ => some p0
theorem Zff (p0 : List Int) (r : List Int) (h : Zfe p0 = some r) : Ok Tryz.prog 110 [cM kI64 1 p0] [] (fun c qs => ∃ (v : Value), c = cV v ∧ qs = [oA v 2 kI64 1 r]) := by
 refine ob' h fun u hc h => ?_
 obtain rfl := Wj h
 have hc := Wo (Y3t hc)
 refine Ok.of_body (rs := [.tmp 2]) Tryz.func110 rfl rfl rfl rfl rfl fun X => ?_
 refine zw ?_
 refine Ops.h (ns := []) rfl rfl (Y5m Y9v.h rfl rfl) ?_
 rintro _ _ ⟨b, hb, rfl, rfl⟩
 refine zw ?_
 refine tf' b (fun hq => ?_) (fun hq => ?_)
 ·
  refine AW.cond rfl (fun _ => ?_) (fun hn => absurd (hq.symm.trans hn) (by decide))
  refine zw ?_
  refine AW.ret ?_
  obtain rfl := hb hq
  exact ⟨[cV s0], _, Y21.nil 2 kI64 1, .cons (.tmp rfl) .nil, [0], _, _, rfl, ⟨_, rfl, rfl⟩⟩
 refine AW.cond rfl (fun hn => absurd (hq.symm.trans hn) (by decide)) (fun _ => ?_)
 refine zw ?_
 refine Ops.h (ns := []) rfl rfl (Y39 (k := kI64) (ys := ([] : List Int)) Yak .nil rfl rfl rfl) ?_
 rintro _ _ ⟨b1, rfl, rfl⟩
 refine zw ?_
 refine Ops.h (ns := [0]) rfl rfl (Y2r Yak rfl rfl (by simpa using hc) (by simp; omega) rfl) ?_
 rintro _ _ ⟨v, rfl, rfl⟩
 refine zw ?_
 refine AW.ret ?_
 exact ⟨[cV v], _, Y21.refl _, .cons (.tmp rfl) .nil, [0], _, _, rfl, ⟨v, rfl, rfl⟩⟩
instance Zff' (p0 : List Int) : Sp Tryz.prog 110 [cM kI64 1 p0] (Zfe p0) (fun r => cM kI64 1 r) := ⟨fun r h => Ok.freeze (Zff p0 r h) (by rintro c qs ⟨v, rfl, rfl⟩; exact Frz.arr)⟩

def Zfg : Option Bool := some false
def Zfh (x24 : Int) (m36 : List (Int × Bool)) (l38 : List Int) : Option (((List (Int × Bool)) × List Int × Int) ⊕ (Bool ⊕ Unit)) := some (.inl (m36, l38, (IntKind.i64.wrap (x24 + 1))))
def Zfi (p0 : Y90) (p1 : Int) (m21 : List (Int × Bool)) (l23 : List Int) (x24 : Int) : Option (((List (Int × Bool)) × List Int × Int) ⊕ (Bool ⊕ Unit)) := cond (decide (x24 < (l23.length : Int))) ((getI l23 x24).bind fun e26 => cond (e26 == p1) (some (.inr (.inl true))) (cond (Option.getD (mget m21 e26) false) (Zfh x24 m21 l23) ((Zcv p0 e26).bind fun r30 => (chk (decide ((l23.length + r30.1.prev.length) * 8 ≤ 140737488355328))).bind fun u34 => Zfh x24 (mset m21 e26 true) (l23 ++ r30.1.prev)))) (some (.inr (.inr ())))
def Zfj (p0 : Y90) (p1 : Int) (p2 : Y8v) : Option Bool := (Zfe p2.prev).bind fun r4 => (iter (fun z39 => Zfi p0 p1 z39.1 z39.2.1 z39.2.2) big (([] : List (Int × Bool)), r4, 0)).bind (fun z41 => match z41 with | .inl y40 => some y40 | .inr () => Zfg)
instance Zfk (p0 : Y90) (p1 : Int) (p2 : Y8v) : Sp Tryz.prog 240 [C.agg [cI p0.room, cM Y99 9 p0.events, cM Y99 9 p0.parked], cI p1, C.agg [cI p2.id, cI p2.room, cI p2.author, cI p2.kind, cI p2.key, cI p2.n, C.str p2.text, cM kI64 1 p2.prev, cI p2.time]] (Zfj p0 p1 p2) C.bool := sp Tryz.func240 rfl rfl fun r X h => by
 unfold Zfj at h
 refine zw ?_
 refine ox fun b1 => ?_
 refine ox fun b2 => ?_
 refine zw ?_
 refine Ops.h (ns := []) rfl rfl (Y6j (kd := .i64) (kc := Y9s) rfl) ?_
 rintro _ _ ⟨b3, rfl, rfl⟩
 refine zw ?_
 refine ob' h fun r4 g5 h => ?_
 refine Ops.h (ns := []) rfl rfl (Y23 (Zff _ _ g5) rfl rfl) ?_
 rintro _ _ ⟨_, ⟨v6, rfl, rfl⟩, rfl⟩
 refine zw ?_
 refine AW.lp h (fun (m21, l23, x24) (v22 : Value) => ⟨[(1, cI p1), (3, pt b1), (7, mt b3), (8, cV v22), (9, cI x24)], [oB b1 139 [cI p0.room, cM Y99 9 p0.events, cM Y99 9 p0.parked], Abs.Obj.map b3 .i64 Y9s m21, oA v22 2 kI64 1 l23]⟩) (gb [3, 1, 0]) ?_
 rintro ⟨m21, l23, x24⟩ v22 y47 h
 refine AW.seq ?_
 refine AW.seq ?_
 refine AW.region ?_
 refine Ops.v rfl (Yq rfl rfl) ?_
 refine Ops.v rfl (Yq rfl rfl) ?_
 refine Ops.v rfl (Y2u (p := 2) Y9v.h rfl rfl rfl) ?_
 refine zw ?_
 refine cnd h (fun hb25 h => ?_) fun hb25 h => ?_
 ·
  refine AW.ct hb25 rfl ?_
  refine zw ?_
  refine ob' h fun e26 g27 h => ?_
  refine Ops.v rfl (Y2x (p := 2) Y9v.h rfl rfl rfl g27 rfl) ?_
  refine Ops.v rfl (Y30 (p := 2) ld_2.h rfl rfl (Y29 g27).2.2 rfl rfl) ?_
  refine zw ?_
  refine cnd h (fun hb28 h => go) fun hb28 h => ?_
  refine AW.cf hb28 rfl ?_
  refine zw ?_
  refine Ops.v rfl (Y6l (p := 1) (kc := Y9s) (z0 := false) Ye8 zv_4 (fun _ _ => rfl) rfl rfl rfl rfl) ?_
  refine zw ?_
  refine cnd h (fun hb29 h => go) fun hb29 h => ?_
  refine AW.cond rfl (fun _ => ?_) (fun hn => absurd ((Y3v hb29).symm.trans hn) (by decide))
  refine zw ?_
  refine Ops.hd (ns := [1]) rfl rfl (Y6m (kc := Y9s) (v := true) Ye8 rfl rfl rfl rfl) ?_
  refine zw ?_
  refine oc h fun r30 g31 h => ?_
  refine zw ?_
  refine Ops.h (ns := []) rfl rfl (Y1p (cs := [cI 0, cI 0, cI 0, cI 0, cI 0, cI 0, C.str ByteArray.empty, cV s0, cI 0]) Yal (Y42 rfl rfl) rfl) ?_
  rintro _ _ ⟨b32, rfl, rfl⟩
  refine Ops.hd (ns := [0]) rfl rfl (Y1u (gs := [cI r30.1.id, cI r30.1.room, cI r30.1.author, cI r30.1.kind, cI r30.1.key, cI r30.1.n, C.str r30.1.text, cM kI64 1 r30.1.prev, cI r30.1.time]) Yb2.h rfl rfl rfl rfl rfl) ?_
  refine zw ?_
  refine ob' h fun u34 c33 h => ?_
  refine Ops.h (ns := [3]) rfl rfl (Y2r Yak rfl rfl (Wo (Y3t c33)) (Y3w (by decide) c33) rfl) ?_
  rintro _ _ ⟨v35, rfl, rfl⟩
  exact go
 exact go

def Zfl (p0 : Y97) (p1 : Y8v) (r5 : List Y93) (x15 : Int) (x29 : Bool) : Option ((List (Int × List Y93)) × (List (Int × List Y93)) × (List (Int × Int))) := cond x29 ((Zem r5 (Y93.mk p1.kind p1.key p1.id)).bind fun r31 => some ((mset p0.before p1.id r5), (mset (mset p0.after p1.id r5) p1.id r31), (mset p0.refused p1.id x15))) (some ((mset p0.before p1.id r5), (mset p0.after p1.id r5), (mset p0.refused p1.id x15)))
def Zfm (p0 : Y97) (p1 : Y8v) (r5 : List Y93) (x15 : Int) : Option ((List (Int × List Y93)) × (List (Int × List Y93)) × (List (Int × Int))) := cond (x15 == 0) (Zfl p0 p1 r5 x15 (decide (p1.kind ≤ 6))) (Zfl p0 p1 r5 x15 false)
def Zfn (p0 : Y97) (p1 : Y8v) (r5 : List Y93) (r7 : Int) (x13 : Bool) : Option ((List (Int × List Y93)) × (List (Int × List Y93)) × (List (Int × Int))) := cond x13 (Zfm p0 p1 r5 6) (Zfm p0 p1 r5 r7)
def Zfo (p0 : Y97) (p1 : Y8v) : Option ((List (Int × List Y93)) × (List (Int × List Y93)) × (List (Int × Int))) := (Zcz p0 p1.prev).bind fun r2 => (Zfc p0 r2).bind fun r5 => (Zed p0.graph r5 p1).bind fun r7 => cond (r7 == 0) (cond (p1.kind == 8) ((Zfj p0.graph p1.key p1).bind fun r11 => Zfn p0 p1 r5 r7 (!r11)) (Zfn p0 p1 r5 r7 false)) (Zfn p0 p1 r5 r7 false)
theorem Zfp {b00 : Nat} {b01 : Nat} {b02 : Nat} {b03 : Nat} {b04 : Nat} (p0 : Y97) (p1 : Y8v) (r : (List (Int × List Y93)) × (List (Int × List Y93)) × (List (Int × Int))) (h : Zfo p0 p1 = some r) : Ok Tryz.prog 192 [pt b00, C.agg [cI p1.id, cI p1.room, cI p1.author, cI p1.kind, cI p1.key, cI p1.n, C.str p1.text, cM kI64 1 p1.prev, cI p1.time]] [oB b00 196 [cI p0.graph.room, cM Y99 9 p0.graph.events, cM Y99 9 p0.graph.parked, mt b01, mt b02, mt b03, mt b04], Abs.Obj.map b01 .i64 Y9q p0.depth, Abs.Obj.map b02 .i64 Y9r p0.before, Abs.Obj.map b03 .i64 Y9r p0.after, Abs.Obj.map b04 .i64 Y9q p0.refused] (fun c qs => c = C.tup [] ∧ qs = [oB b00 196 [cI p0.graph.room, cM Y99 9 p0.graph.events, cM Y99 9 p0.graph.parked, mt b01, mt b02, mt b03, mt b04], Abs.Obj.map b01 .i64 Y9q p0.depth, Abs.Obj.map b02 .i64 Y9r r.1, Abs.Obj.map b03 .i64 Y9r r.2.1, Abs.Obj.map b04 .i64 Y9q r.2.2]) := by
 refine Ok.of_body (rs := []) Tryz.func192 rfl rfl rfl rfl rfl fun X => ?_
 unfold Zfo at h
 refine zw ?_
 refine ox fun b1 => ?_
 refine zw ?_
 refine ob' h fun r2 g3 h => ?_
 refine Ops.h (ns := [1, 1, 1, 1, 1]) rfl rfl (Y23 (Zd0 p0 p1.prev _ g3) rfl rfl) ?_
 rintro _ _ ⟨_, ⟨v4, rfl, rfl⟩, rfl⟩
 refine ob' h fun r5 g6 h => ?_
 refine Ops.hd (ns := [0, 0, 0, 0, 0, 0]) rfl rfl (HOp.frz (t := 10) rfl Frz.arr (Y24 (Zfd p0 r2 _ g6) rfl rfl)) ?_
 refine zw ?_
 refine rD [0,0,0,0,0,0] [3,5] [] [0,4,8,13,16,21,26,28] ?_
 refine OpsD.v rfl rfl (Yq rfl rfl) ?_
 refine OpsD.v rfl rfl (Y14 rfl rfl) ?_
 refine OpsD.v rfl rfl (Y1b Yea.h rfl rfl) ?_
 refine OpsD.v rfl rfl (Y1l (p := 0) (ds := [cI p0.graph.room, cM Y99 9 p0.graph.events, cM Y99 9 p0.graph.parked]) Ybf.h rfl rfl rfl rfl rfl) ?_
 refine OpsD.v rfl rfl (Yq rfl rfl) ?_
 refine OpsD.v rfl rfl (Y1l (p := 5) (ds := [cI p1.id, cI p1.room, cI p1.author, cI p1.kind, cI p1.key, cI p1.n, C.str p1.text, cM kI64 1 p1.prev, cI p1.time]) Yb2.h rfl rfl rfl rfl rfl) ?_
 refine zw ?_
 refine dc h fun r7 g8 h => ?_
 refine OpsD.v rfl rfl (Yr rfl rfl) ?_
 refine OpsD.done ?_
 refine AW.seq ?_
 refine AW.cut (τ := Int) (fun x15 => ⟨[(0, pt b00), (3, pt b1), (4, cM Y9l 3 r5), (5, cI x15)], [oB b00 196 [cI p0.graph.room, cM Y99 9 p0.graph.events, cM Y99 9 p0.graph.parked, mt b01, mt b02, mt b03, mt b04], Abs.Obj.map b01 .i64 Y9q p0.depth, Abs.Obj.map b02 .i64 Y9r p0.before, Abs.Obj.map b03 .i64 Y9r p0.after, Abs.Obj.map b04 .i64 Y9q p0.refused, oB b1 136 [cI p1.id, cI p1.room, cI p1.author, cI p1.kind, cI p1.key, cI p1.n, C.str p1.text, cM kI64 1 p1.prev, cI p1.time]]⟩) (fun x15 => Zfm p0 p1 r5 x15 = some r) ?_ ?_
 ·
  refine AW.seq ?_
  refine AW.cut (τ := Bool) (fun x13 => ⟨[(0, pt b00), (3, pt b1), (4, cM Y9l 3 r5), (5, cI r7), (36, C.bool x13)], [oB b00 196 [cI p0.graph.room, cM Y99 9 p0.graph.events, cM Y99 9 p0.graph.parked, mt b01, mt b02, mt b03, mt b04], Abs.Obj.map b01 .i64 Y9q p0.depth, Abs.Obj.map b02 .i64 Y9r p0.before, Abs.Obj.map b03 .i64 Y9r p0.after, Abs.Obj.map b04 .i64 Y9q p0.refused, oB b1 136 [cI p1.id, cI p1.room, cI p1.author, cI p1.kind, cI p1.key, cI p1.n, C.str p1.text, cM kI64 1 p1.prev, cI p1.time]]⟩) (fun x13 => Zfn p0 p1 r5 r7 x13 = some r) ?_ ?_
  ·
   refine rD [0,0,0,0,0,0] [4,11,13,14] [] [0,4,8,12,17,20,24,28,32,36,40,45,48,53,57,62,64,68] ?_
   refine zw ?_
   refine cnd h (fun hb9 h => ?_) fun hb9 h => ?_
   ·
    refine OpsD.gv rfl rfl rfl rfl rfl hb9 (Y1b Yat.h rfl rfl) ?_
    refine OpsD.gv rfl rfl rfl rfl rfl hb9 (Y1k (p := 5) ld_2.h rfl rfl rfl rfl) ?_
    refine zw ?_
    refine cnd h (fun hb10 h => ?_) fun hb10 h => ?_
    ·
     refine OpsD.gv rfl rfl rfl rfl rfl hb10 (Yq rfl rfl) ?_
     refine OpsD.gv rfl rfl rfl rfl rfl hb10 (Y14 rfl rfl) ?_
     refine OpsD.gv rfl rfl rfl rfl rfl hb10 (Y1b Yea.h rfl rfl) ?_
     refine OpsD.gv rfl rfl rfl rfl rfl hb10 (Y1l (p := 0) (ds := [cI p0.graph.room, cM Y99 9 p0.graph.events, cM Y99 9 p0.graph.parked]) Ybf.h rfl rfl rfl rfl rfl) ?_
     refine OpsD.gv rfl rfl rfl rfl rfl hb10 (Y1b Yav.h rfl rfl) ?_
     refine OpsD.gv rfl rfl rfl rfl rfl hb10 (Y1k (p := 5) ld_2.h rfl rfl rfl rfl) ?_
     refine OpsD.gv rfl rfl rfl rfl rfl hb10 (Y1l (p := 5) (ds := [cI p1.id, cI p1.room, cI p1.author, cI p1.kind, cI p1.key, cI p1.n, C.str p1.text, cM kI64 1 p1.prev, cI p1.time]) Yb2.h rfl rfl rfl rfl rfl) ?_
     refine zw ?_
     refine ob' h fun r11 g12 h => ?_
     refine Y3n.gh (ns := []) rfl rfl rfl rfl rfl hb10 rfl (Y24 ((Zfk _ _ _).h _ g12) rfl rfl) ?_
     rintro _ _ ⟨rfl, rfl⟩
     refine zw ?_
     exact ⟨(!r11), h, Y21.both (ns := [0, 0, 0, 0, 0, 0]) rfl rfl⟩
    refine OpsD.gs rfl rfl rfl rfl (.b rfl hb10) rfl rfl ?_
    refine OpsD.gs rfl rfl rfl rfl (.b rfl hb10) rfl rfl ?_
    refine OpsD.gs rfl rfl rfl rfl (.b rfl hb10) rfl rfl ?_
    refine OpsD.gs rfl rfl rfl rfl (.b rfl hb10) rfl rfl ?_
    refine OpsD.gs rfl rfl rfl rfl (.b rfl hb10) rfl rfl ?_
    refine OpsD.gs rfl rfl rfl rfl (.b rfl hb10) rfl rfl ?_
    refine OpsD.gs rfl rfl rfl rfl (.b rfl hb10) rfl rfl ?_
    refine OpsD.one ?_
    refine Y3n.gs rfl rfl rfl rfl (.b rfl hb10) rfl rfl ?_
    refine zw ?_
    exact ⟨false, h, Y21.both (ns := [0, 0, 0, 0, 0, 0]) rfl rfl⟩
   refine OpsD.gs rfl rfl rfl rfl (.b rfl hb9) rfl rfl ?_
   refine OpsD.gs rfl rfl rfl rfl (.b rfl hb9) rfl rfl ?_
   refine OpsD.gs rfl rfl rfl rfl (.b rfl hb9) rfl rfl ?_
   refine OpsD.v rfl rfl (Yt rfl hb9 rfl rfl) ?_
   refine OpsD.v rfl rfl (Yq rfl rfl) ?_
   refine OpsD.gs rfl rfl rfl rfl (.b rfl rfl) rfl rfl ?_
   refine OpsD.gs rfl rfl rfl rfl (.b rfl rfl) rfl rfl ?_
   refine OpsD.gs rfl rfl rfl rfl (.b rfl rfl) rfl rfl ?_
   refine OpsD.gs rfl rfl rfl rfl (.b rfl rfl) rfl rfl ?_
   refine OpsD.gs rfl rfl rfl rfl (.b rfl rfl) rfl rfl ?_
   refine OpsD.gs rfl rfl rfl rfl (.b rfl rfl) rfl rfl ?_
   refine OpsD.gs rfl rfl rfl rfl (.b rfl rfl) rfl rfl ?_
   refine OpsD.one ?_
   refine Y3n.gs rfl rfl rfl rfl (.b rfl rfl) rfl rfl ?_
   refine zw ?_
   exact ⟨false, h, Y21.both (ns := [0, 0, 0, 0, 0, 0]) rfl rfl⟩
  intro x13 h
  replace h : Zfn p0 p1 r5 r7 x13 = some r := h
  unfold Zfn at h
  refine cnd h (fun hb14 h => ?_) fun hb14 h => ?_
  ·
   refine AW.ct hb14 rfl ?_
   refine zw ?_
   exact ⟨6, h, Y21.both (ns := [0, 0, 0, 0, 0, 0]) rfl rfl⟩
  refine AW.cf hb14 rfl ?_
  refine zw ?_
  exact ⟨r7, h, Y21.both (ns := [0, 0, 0, 0, 0, 0]) rfl rfl⟩
 intro x15 h
 replace h : Zfm p0 p1 r5 x15 = some r := h
 unfold Zfm at h
 refine zw ?_
 refine rD [0,0,3] [3,5,9,11,15,17] [29] [0,4,8,13,16,21,24,28,32,37,40,45,48,52,56,61,64,69,72,76,80,86,88,94,98,100,106,110,112,119] ?_
 refine OpsD.v rfl rfl (Yq rfl rfl) ?_
 refine OpsD.v rfl rfl (Y14 rfl rfl) ?_
 refine OpsD.v rfl rfl (Y1b Yee.h rfl rfl) ?_
 refine OpsD.v rfl rfl (Y1k (p := 0) Ye4.h rfl rfl rfl rfl) ?_
 refine OpsD.v rfl rfl (Y1b Yan.h rfl rfl) ?_
 refine OpsD.v rfl rfl (Y1k (p := 2) ld_2.h rfl rfl rfl rfl) ?_
 refine OpsD.v rfl rfl (Yq rfl rfl) ?_
 refine OpsD.v rfl rfl (Y14 rfl rfl) ?_
 refine OpsD.v rfl rfl (Y1b Ye3.h rfl rfl) ?_
 refine OpsD.v rfl rfl (Y1k (p := 0) Ye4.h rfl rfl rfl rfl) ?_
 refine OpsD.v rfl rfl (Y1b Yan.h rfl rfl) ?_
 refine OpsD.v rfl rfl (Y1k (p := 2) ld_2.h rfl rfl rfl rfl) ?_
 refine OpsD.v rfl rfl (Yq rfl rfl) ?_
 refine OpsD.v rfl rfl (Y14 rfl rfl) ?_
 refine OpsD.v rfl rfl (Y1b Yef.h rfl rfl) ?_
 refine OpsD.v rfl rfl (Y1k (p := 0) Yec.h rfl rfl rfl rfl) ?_
 refine OpsD.v rfl rfl (Y1b Yan.h rfl rfl) ?_
 refine OpsD.v rfl rfl (Y1k (p := 2) ld_2.h rfl rfl rfl rfl) ?_
 refine OpsD.v rfl rfl (Yq rfl rfl) ?_
 refine OpsD.v rfl rfl (Yq rfl rfl) ?_
 refine OpsD.v rfl rfl (Yq rfl rfl) ?_
 refine OpsD.one ?_
 refine Y3n.h (ns := [0]) rfl rfl rfl (Y6o (kc := Y9r) (z0 := ([] : List Y93)) Ye5 Ye6 (fun w F => Imp.nil Y9l 3 w F _ rfl) rfl rfl rfl) ?_
 rintro _ _ ⟨st25, rfl, rfl⟩
 refine OpsD.v rfl rfl (Y13 rfl rfl rfl) ?_
 refine OpsD.one ?_
 refine Y3n.h (ns := [0]) rfl rfl rfl (Y6p (kc := Y9r) (v := r5) rfl rfl rfl rfl) ?_
 rintro _ _ ⟨rfl, rfl⟩
 refine OpsD.one ?_
 refine Y3n.h (ns := [1]) rfl rfl rfl (Y6o (kc := Y9r) (z0 := ([] : List Y93)) Ye5 Ye6 (fun w F => Imp.nil Y9l 3 w F _ rfl) rfl rfl rfl) ?_
 rintro _ _ ⟨st26, rfl, rfl⟩
 refine OpsD.v rfl rfl (Y13 rfl rfl rfl) ?_
 refine OpsD.one ?_
 refine Y3n.h (ns := [0]) rfl rfl rfl (Y6p (kc := Y9r) (v := r5) rfl rfl rfl rfl) ?_
 rintro _ _ ⟨rfl, rfl⟩
 refine OpsD.one ?_
 refine Y3n.h (ns := [2]) rfl rfl rfl (Y6o (kc := Y9q) (z0 := 0) Yed zv_2 (fun _ _ => rfl) rfl rfl rfl) ?_
 rintro _ _ ⟨st27, rfl, rfl⟩
 refine zw ?_
 refine OpsD.late (ns := [3]) rfl rfl rfl (Y6p (kc := Y9q) (v := x15) rfl rfl rfl rfl) ?_
 rintro _ _ ⟨rfl, rfl⟩
 refine OpsD.done ?_
 refine AW.seq ?_
 refine AW.cut (τ := Bool) (fun x29 => ⟨[(0, pt b00), (3, pt b1), (4, cM Y9l 3 r5), (70, C.bool x29)], [oB b00 196 [cI p0.graph.room, cM Y99 9 p0.graph.events, cM Y99 9 p0.graph.parked, mt b01, mt b02, mt b03, mt b04], Abs.Obj.map b01 .i64 Y9q p0.depth, Abs.Obj.map b02 .i64 Y9r (mset p0.before p1.id r5), Abs.Obj.map b03 .i64 Y9r (mset p0.after p1.id r5), Abs.Obj.map b04 .i64 Y9q (mset p0.refused p1.id x15), oB b1 136 [cI p1.id, cI p1.room, cI p1.author, cI p1.kind, cI p1.key, cI p1.n, C.str p1.text, cM kI64 1 p1.prev, cI p1.time]]⟩) (fun x29 => Zfl p0 p1 r5 x15 x29 = some r) ?_ ?_
 ·
  refine zw ?_
  refine cnd h (fun hb28 h => ?_) fun hb28 h => ?_
  ·
   refine zw ?_
   exact ⟨decide (p1.kind ≤ 6), h, Y21.both (ns := [1, 1, 3, 2, 0, 0]) rfl rfl⟩
  refine zw ?_
  exact ⟨false, h, Y21.both (ns := [1, 1, 3, 2, 0, 0]) rfl rfl⟩
 intro x29 h
 replace h : Zfl p0 p1 r5 x15 x29 = some r := h
 unfold Zfl at h
 refine cnd h (fun hb30 h => ?_) fun hb30 h => ?_
 ·
  refine AW.ct hb30 rfl ?_
  refine rD [0,0,0,0,0,0] [3,5,8,10,12] [15] [0,4,8,13,16,21,24,28,33,36,41,44,49,52,58,63] ?_
  refine OpsD.v rfl rfl (Yq rfl rfl) ?_
  refine OpsD.v rfl rfl (Y14 rfl rfl) ?_
  refine OpsD.v rfl rfl (Y1b Ye3.h rfl rfl) ?_
  refine OpsD.v rfl rfl (Y1k (p := 0) Ye4.h rfl rfl rfl rfl) ?_
  refine OpsD.v rfl rfl (Y1b Yan.h rfl rfl) ?_
  refine OpsD.v rfl rfl (Y1k (p := 5) ld_2.h rfl rfl rfl rfl) ?_
  refine OpsD.v rfl rfl (Yq rfl rfl) ?_
  refine OpsD.v rfl rfl (Y1b Yat.h rfl rfl) ?_
  refine OpsD.v rfl rfl (Y1k (p := 5) ld_2.h rfl rfl rfl rfl) ?_
  refine OpsD.v rfl rfl (Y1b Yav.h rfl rfl) ?_
  refine OpsD.v rfl rfl (Y1k (p := 5) ld_2.h rfl rfl rfl rfl) ?_
  refine OpsD.v rfl rfl (Y1b Yan.h rfl rfl) ?_
  refine OpsD.v rfl rfl (Y1k (p := 5) ld_2.h rfl rfl rfl rfl) ?_
  refine OpsD.v rfl rfl (Y38 (ds := [cI p1.kind, cI p1.key, cI p1.id]) Yd1 Yd2 (Y42 rfl rfl) (.one rfl (One.val rfl) rfl rfl (.one rfl (One.val rfl) rfl rfl (.one rfl (One.val rfl) rfl rfl .nil))) rfl) ?_
  refine zw ?_
  refine dc h fun r31 g32 h => ?_
  refine OpsD.late (ns := [3]) rfl rfl rfl (Y6m (kc := Y9r) (v := r31) Ye5 rfl rfl rfl rfl) ?_
  rintro _ _ ⟨rfl, rfl⟩
  refine zw ?_
  rw [← Wj h]
  exact ⟨[], _, Y21.refl _, .nil, [1, 1, 1, 0, 0], _, _, rfl, ⟨rfl, rfl⟩⟩
 refine AW.cf hb30 rfl ?_
 refine zw ?_
 rw [← Wj h]
 exact ⟨[], _, Y21.refl _, .nil, [0, 0, 0, 0, 0], _, _, rfl, ⟨rfl, rfl⟩⟩

def Zfq (p0 : Y90) (m23 : List (Int × Int)) (m46 : List (Int × List Y93)) (m47 : List (Int × List Y93)) (m48 : List (Int × Int)) : Option Y97 := some (Y97.mk p0 m23 m46 m47 m48)
def Zfr (p0 : Y90) (m23 : List (Int × Int)) (r24 : List Int) (m34 : List (Int × List Y93)) (m35 : List (Int × List Y93)) (m36 : List (Int × Int)) (x37 : Int) : Option (((List (Int × List Y93)) × (List (Int × List Y93)) × (List (Int × Int)) × Int) ⊕ (((List (Int × List Y93)) × (List (Int × List Y93)) × (List (Int × Int))))) := cond (decide (x37 < (r24.length : Int))) ((getI r24 x37).bind fun e39 => (Zcv p0 e39).bind fun r41 => (Zfo (Y97.mk p0 m23 m34 m35 m36) r41.1).bind fun r44 => some (.inl (r44.1, r44.2.1, r44.2.2, (IntKind.i64.wrap (x37 + 1))))) (some (.inr (m34, m35, m36)))
def Zfs (p0 : Y90) (m23 : List (Int × Int)) : Option Y97 := (Zct p0).bind fun r24 => (iter (fun z54 => Zfr p0 m23 r24 z54.1 z54.2.1 z54.2.2.1 z54.2.2.2) big (([] : List (Int × List Y93)), ([] : List (Int × List Y93)), ([] : List (Int × Int)), 0)).bind fun (y55, y56, y57) => Zfq p0 m23 y55 y56 y57
def Zft (p0 : Y90) (r7 : List Int × Bool) (m15 : List (Int × Int)) (x16 : Int) : Option (((List (Int × Int)) × Int) ⊕ ((List (Int × Int)))) := cond (decide (x16 < (p0.events.length : Int))) ((getI p0.events x16).bind fun e18 => (getI r7.1 x16).bind fun e21 => some (.inl ((mset m15 e18.id e21), (IntKind.i64.wrap (x16 + 1))))) (some (.inr m15))
def Zfu (p0 : Y90) : Option Y97 := (Zas p0).bind fun r7 => (iter (fun z58 => Zft p0 r7 z58.1 z58.2) big (([] : List (Int × Int)), 0)).bind fun y59 => Zfs p0 y59
theorem Zfv (p0 : Y90) (r : Y97) (h : Zfu p0 = some r) : Ok Tryz.prog 136 [C.agg [cI p0.room, cM Y99 9 p0.events, cM Y99 9 p0.parked]] [] (fun c qs => ∃ (b49 : Nat) (b50 : Nat) (b51 : Nat) (b52 : Nat) (b53 : Nat), c = pt b49 ∧ qs = [oB b49 196 [cI r.graph.room, cM Y99 9 r.graph.events, cM Y99 9 r.graph.parked, mt b50, mt b51, mt b52, mt b53], Abs.Obj.map b50 .i64 Y9q r.depth, Abs.Obj.map b51 .i64 Y9r r.before, Abs.Obj.map b52 .i64 Y9r r.after, Abs.Obj.map b53 .i64 Y9q r.refused]) := by
 refine Ok.of_body (rs := [.tmp 2]) Tryz.func136 rfl rfl rfl rfl rfl fun X => ?_
 unfold Zfu at h
 refine zw ?_
 refine ox fun b1 => ?_
 refine zw ?_
 refine Ops.h (ns := []) rfl rfl (Y6j (kd := .i64) (kc := Y9q) rfl) ?_
 rintro _ _ ⟨b2, rfl, rfl⟩
 refine Ops.h (ns := []) rfl rfl (Y6j (kd := .i64) (kc := Y9r) rfl) ?_
 rintro _ _ ⟨b3, rfl, rfl⟩
 refine Ops.h (ns := []) rfl rfl (Y6j (kd := .i64) (kc := Y9r) rfl) ?_
 rintro _ _ ⟨b4, rfl, rfl⟩
 refine Ops.h (ns := []) rfl rfl (Y6j (kd := .i64) (kc := Y9q) rfl) ?_
 rintro _ _ ⟨b5, rfl, rfl⟩
 refine Ops.v rfl (Y38 (ds := [cI p0.room, cM Y99 9 p0.events, cM Y99 9 p0.parked, mt b2, mt b3, mt b4, mt b5]) Yeg Yeh (Y42 rfl rfl) (.agg rfl rfl rfl (.one rfl (One.val rfl) rfl rfl (.one rfl (One.val rfl) rfl rfl (.one rfl (One.val rfl) rfl rfl (.one rfl (One.val rfl) rfl rfl .nil))))) rfl) ?_
 refine ox fun b6 => ?_
 refine Ops.v rfl (Yr rfl rfl) ?_
 refine Ops.nil ?_
 refine AW.seq ?_
 refine AW.region ?_
 refine Ops.v rfl (Y1l (p := 5) (ds := [cI p0.room, cM Y99 9 p0.events, cM Y99 9 p0.parked]) Ybf.h rfl rfl rfl rfl rfl) ?_
 refine oc h fun r7 g8 h => ?_
 refine Ops.v rfl (Yq rfl rfl) ?_
 refine Ops.v rfl (Y13 rfl rfl rfl) ?_
 refine Ops.v rfl (Y13 rfl rfl rfl) ?_
 refine Ops.v rfl (Yr rfl rfl) ?_
 refine Ops.v rfl (Yr rfl rfl) ?_
 refine Ops.nil ?_
 refine AW.seq ?_
 refine AW.cut (τ := (List (Int × Int))) (fun m23 => ⟨[(1, pt b1), (3, pt b6)], [oB b1 139 [cI p0.room, cM Y99 9 p0.events, cM Y99 9 p0.parked], oB b6 196 [cI p0.room, cM Y99 9 p0.events, cM Y99 9 p0.parked, mt b2, mt b3, mt b4, mt b5], Abs.Obj.map b2 .i64 Y9q m23, Abs.Obj.map b3 .i64 Y9r ([] : List (Int × List Y93)), Abs.Obj.map b4 .i64 Y9r ([] : List (Int × List Y93)), Abs.Obj.map b5 .i64 Y9q ([] : List (Int × Int))]⟩) (fun m23 => Zfs p0 m23 = some r) ?_ ?_
 ·
  refine AW.seq ?_
  refine AW.region ?_
  refine Ops.v rfl (Y1b Ybc.h rfl rfl) ?_
  refine Ops.v rfl (Y1k (p := 5) Ybd.h rfl rfl rfl rfl) ?_
  refine zw ?_
  refine AW.lp (v := ()) h (fun (m15, x16) (_ : Unit) => ⟨[(1, pt b1), (3, pt b6), (4, cM kI64 1 r7.1), (25, cM Y99 9 p0.events), (26, cI (p0.events.length : Int)), (27, cI x16)], [oB b1 139 [cI p0.room, cM Y99 9 p0.events, cM Y99 9 p0.parked], oB b6 196 [cI p0.room, cM Y99 9 p0.events, cM Y99 9 p0.parked, mt b2, mt b3, mt b4, mt b5], Abs.Obj.map b2 .i64 Y9q m15, Abs.Obj.map b3 .i64 Y9r ([] : List (Int × List Y93)), Abs.Obj.map b4 .i64 Y9r ([] : List (Int × List Y93)), Abs.Obj.map b5 .i64 Y9q ([] : List (Int × Int))]⟩) (gb [5, 0, 3, 2, 1, 0]) ?_
  rintro ⟨m15, x16⟩ _ y72 h
  refine zw ?_
  refine cnd h (fun hb17 h => ?_) fun hb17 h => ?_
  ·
   refine AW.ct hb17 rfl ?_
   refine zw ?_
   refine oi h fun e18 g19 h => ?_
   refine zw ?_
   refine Ops.h (ns := []) rfl rfl (Y1p (cs := [cI 0, cI 0, cI 0, cI 0, cI 0, cI 0, C.str ByteArray.empty, cV s0, cI 0]) Yal (Y42 rfl rfl) rfl) ?_
   rintro _ _ ⟨b20, rfl, rfl⟩
   refine zw ?_
   refine Ops.hd (ns := [0]) rfl rfl (Y1u (gs := [cI e18.id, cI e18.room, cI e18.author, cI e18.kind, cI e18.key, cI e18.n, C.str e18.text, cM kI64 1 e18.prev, cI e18.time]) Yb2.h rfl rfl rfl rfl rfl) ?_
   refine zw ?_
   refine rD [0,0,0,0,0,0,0] [3,5,9] [10] [0,4,8,13,16,21,24,28,32,37,43] ?_
   refine zw ?_
   refine di h fun e21 g22 h => ?_
   refine zw ?_
   refine OpsD.late (ns := [3]) rfl rfl rfl (Y6m (kc := Y9q) (v := e21) Yed rfl rfl rfl rfl) ?_
   rintro _ _ ⟨rfl, rfl⟩
   refine zw ?_
   exact lu h (gb [2, 2, 0, 1, 1, 1])
  refine AW.cf hb17 rfl ?_
  refine AW.exit ?_
  refine lx h fun h => ?_
  exact ⟨m15, h, Y21.both (ns := [0, 0, 0, 0, 0, 0]) rfl rfl⟩
 intro m23 h
 replace h : Zfs p0 m23 = some r := h
 unfold Zfs at h
 refine AW.seq ?_
 refine AW.cut (τ := (List (Int × List Y93)) × (List (Int × List Y93)) × (List (Int × Int))) (fun (m46, m47, m48) => ⟨[(3, pt b6)], [oB b6 196 [cI p0.room, cM Y99 9 p0.events, cM Y99 9 p0.parked, mt b2, mt b3, mt b4, mt b5], Abs.Obj.map b2 .i64 Y9q m23, Abs.Obj.map b3 .i64 Y9r m46, Abs.Obj.map b4 .i64 Y9r m47, Abs.Obj.map b5 .i64 Y9q m48]⟩) (fun (m46, m47, m48) => Zfq p0 m23 m46 m47 m48 = some r) ?_ ?_
 ·
  refine zw ?_
  refine oc h fun r24 g25 h => ?_
  refine zw ?_
  refine AW.lp (v := ()) h (fun (m34, m35, m36, x37) (_ : Unit) => ⟨[(1, pt b1), (3, pt b6), (44, cM kI64 1 r24), (45, cI (r24.length : Int)), (46, cI x37)], [oB b1 139 [cI p0.room, cM Y99 9 p0.events, cM Y99 9 p0.parked], oB b6 196 [cI p0.room, cM Y99 9 p0.events, cM Y99 9 p0.parked, mt b2, mt b3, mt b4, mt b5], Abs.Obj.map b2 .i64 Y9q m23, Abs.Obj.map b3 .i64 Y9r m34, Abs.Obj.map b4 .i64 Y9r m35, Abs.Obj.map b5 .i64 Y9q m36]⟩) (gb [0, 0, 0, 0, 0, 0]) ?_
  rintro ⟨m34, m35, m36, x37⟩ _ y65 h
  refine zw ?_
  refine cnd h (fun hb38 h => ?_) fun hb38 h => ?_
  ·
   refine AW.ct hb38 rfl ?_
   refine zw ?_
   refine oi h fun e39 g40 h => ?_
   refine zw ?_
   refine oc h fun r41 g42 h => ?_
   refine zw ?_
   refine Ops.h (ns := []) rfl rfl (Y1p (cs := [cI 0, cI 0, cI 0, cI 0, cI 0, cI 0, C.str ByteArray.empty, cV s0, cI 0]) Yal (Y42 rfl rfl) rfl) ?_
   rintro _ _ ⟨b43, rfl, rfl⟩
   refine Ops.hd (ns := [0]) rfl rfl (Y1u (gs := [cI r41.1.id, cI r41.1.room, cI r41.1.author, cI r41.1.kind, cI r41.1.key, cI r41.1.n, C.str r41.1.text, cM kI64 1 r41.1.prev, cI r41.1.time]) Yb2.h rfl rfl rfl rfl rfl) ?_
   refine zw ?_
   refine ob' h fun r44 g45 h => ?_
   refine Ops.hd (ns := [2, 2, 2, 2, 2]) rfl rfl (Y24 (Zfp (Y97.mk p0 m23 m34 m35 m36) r41.1 _ g45) rfl rfl) ?_
   refine zw ?_
   exact lu h (gb [6, 0, 0, 0, 0, 0])
  refine AW.cf hb38 rfl ?_
  refine AW.exit ?_
  refine lx h fun h => ?_
  exact ⟨(m34, m35, m36), h, Y21.both (ns := [1, 1, 1, 1, 1]) rfl rfl⟩
 rintro ⟨m46, m47, m48⟩ h
 replace h : Zfq p0 m23 m46 m47 m48 = some r := h
 unfold Zfq at h
 refine zw ?_
 refine AW.ret ?_
 rw [← Wj h]
 exact ⟨[pt b6], _, Y21.refl _, (.cons (.tmp rfl) .nil), [0, 0, 0, 0, 0], _, _, rfl, ⟨b6, b2, b3, b4, b5, rfl, rfl⟩⟩
instance Zfv' (p0 : Y90) : Sp Tryz.prog 136 [C.agg [cI p0.room, cM Y99 9 p0.events, cM Y99 9 p0.parked]] (Zfu p0) (fun r => C.ip [cI r.graph.room, cM Y99 9 r.graph.events, cM Y99 9 r.graph.parked, C.imap .i64 Y9q r.depth, C.imap .i64 Y9r r.before, C.imap .i64 Y9r r.after, C.imap .i64 Y9q r.refused]) := ⟨fun r h => Ok.freeze (Zfv p0 r h) (by rintro c qs ⟨b49, b50, b51, b52, b53, rfl, rfl⟩; exact Frz.box (fS (fS (fS (FrzL.cons (os := [_]) (Frz.map) (FrzL.cons (os := [_]) (Frz.map) (FrzL.cons (os := [_]) (Frz.map) (FrzL.cons (os := [_]) (Frz.map) (FrzL.nil)))))))))⟩

def Zfw (l28 : List Int) : Option (List Int) := some l28
def Zfx (x15 : Int) (l26 : List Int) : Option ((List Int × Int) ⊕ ((List Int))) := some (.inl (l26, (IntKind.i64.wrap (x15 + 1))))
def Zfy (p0 : Y97) (l14 : List Int) (x15 : Int) : Option ((List Int × Int) ⊕ ((List Int))) := cond (decide (x15 < (p0.graph.events.length : Int))) ((getI p0.graph.events x15).bind fun e17 => cond ((Option.getD (mget p0.refused e17.id) 0) == 0) ((chk (decide ((l14.length + [e17.id].length) * 8 ≤ 140737488355328))).bind fun u23 => Zfx x15 (l14 ++ [e17.id])) (Zfx x15 l14)) (some (.inr l14))
def Zfz (p0 : Y97) : Option (List Int) := (iter (fun z30 => Zfy p0 z30.1 z30.2) big (([] : List Int), 0)).bind fun y31 => Zfw y31
theorem Zg0 (p0 : Y97) (r : List Int) (h : Zfz p0 = some r) : Ok Tryz.prog 137 [C.ip [cI p0.graph.room, cM Y99 9 p0.graph.events, cM Y99 9 p0.graph.parked, C.imap .i64 Y9q p0.depth, C.imap .i64 Y9r p0.before, C.imap .i64 Y9r p0.after, C.imap .i64 Y9q p0.refused]] [] (fun c qs => ∃ (v29 : Value), c = cV v29 ∧ qs = [oA v29 2 kI64 1 r]) := by
 refine Ok.of_body (rs := [.tmp 2]) Tryz.func137 rfl rfl rfl rfl rfl fun X => ?_
 unfold Zfz at h
 refine zw ?_
 refine Ops.h (ns := []) rfl rfl (Y39 (k := kI64) (ys := ([] : List Int)) Yak .nil rfl rfl rfl) ?_
 rintro _ _ ⟨b1, rfl, rfl⟩
 refine Ops.v rfl (Yr rfl rfl) ?_
 refine Ops.nil ?_
 refine AW.seq ?_
 refine AW.cut (τ := List Int × Value) (fun (l28, v27) => ⟨[(3, cV v27)], [oA v27 2 kI64 1 l28]⟩) (fun (l28, v27) => Zfw l28 = some r) ?_ ?_
 ·
  refine zw ?_
  refine AW.lp h (fun (l14, x15) (v13 : Value) => ⟨[(0, C.ip [cI p0.graph.room, cM Y99 9 p0.graph.events, cM Y99 9 p0.graph.parked, C.imap .i64 Y9q p0.depth, C.imap .i64 Y9r p0.before, C.imap .i64 Y9r p0.after, C.imap .i64 Y9q p0.refused]), (3, cV v13), (11, cM Y99 9 p0.graph.events), (12, cI (p0.graph.events.length : Int)), (13, cI x15)], [oA v13 2 kI64 1 l14]⟩) (gb [0]) ?_
  rintro ⟨l14, x15⟩ v13 y37 h
  refine zw ?_
  refine cnd h (fun hb16 h => ?_) fun hb16 h => ?_
  ·
   refine AW.ct hb16 rfl ?_
   refine zw ?_
   refine oi h fun e17 g18 h => ?_
   refine zw ?_
   refine Ops.h (ns := []) rfl rfl (Y1p (cs := [cI 0, cI 0, cI 0, cI 0, cI 0, cI 0, C.str ByteArray.empty, cV s0, cI 0]) Yal (Y42 rfl rfl) rfl) ?_
   rintro _ _ ⟨b19, rfl, rfl⟩
   refine Ops.hd (ns := [0]) rfl rfl (Y1u (gs := [cI e17.id, cI e17.room, cI e17.author, cI e17.kind, cI e17.key, cI e17.n, C.str e17.text, cM kI64 1 e17.prev, cI e17.time]) Yb2.h rfl rfl rfl rfl rfl) ?_
   refine zw ?_
   refine rD [0,0] [3,5,6] [] [0,4,8,13,16,21,25,28] ?_
   refine zw ?_
   refine OpsD.v rfl rfl (Y86 (kc := Y9q) (z0 := 0) Yed zv_2 (fun _ _ => rfl) rfl rfl rfl) ?_
   refine zw ?_
   refine cnd h (fun hb20 h => ?_) fun hb20 h => ?_
   ·
    refine AW.ct hb20 rfl ?_
    refine zw ?_
    refine Ops.h (ns := []) rfl rfl (Y39 (k := kI64) (ys := [e17.id]) Yak (.one rfl (One.val rfl) rfl rfl .nil) rfl rfl rfl) ?_
    rintro _ _ ⟨b21, rfl, rfl⟩
    refine ob' h fun u23 c22 h => ?_
    refine Ops.h (ns := [2, 0]) rfl rfl (Y2s Yak rfl rfl (Wo (Y3t c22)) (Y3w (by decide) c22) rfl) ?_
    rintro _ _ ⟨v24, rfl, rfl⟩
    exact go
   exact go
  exact go
 rintro ⟨l28, v27⟩ h
 replace h : Zfw l28 = some r := h
 unfold Zfw at h
 refine zw ?_
 refine AW.ret ?_
 rw [← Wj h]
 exact ⟨[cV v27], _, Y21.refl _, (.cons (.tmp rfl) .nil), [0], _, _, rfl, ⟨v27, rfl, rfl⟩⟩
instance Zg0' (p0 : Y97) : Sp Tryz.prog 137 [C.ip [cI p0.graph.room, cM Y99 9 p0.graph.events, cM Y99 9 p0.graph.parked, C.imap .i64 Y9q p0.depth, C.imap .i64 Y9r p0.before, C.imap .i64 Y9r p0.after, C.imap .i64 Y9q p0.refused]] (Zfz p0) (fun r => cM kI64 1 r) := ⟨fun r h => Ok.freeze (Zg0 p0 r h) (by rintro c qs ⟨v29, rfl, rfl⟩; exact Frz.arr)⟩

def Zg1 (p0 : Y98) (p1 : Int) : Option Y97 := (getI p0.rooms (IntKind.i64.wrap (p1 - 1))).bind fun e1 => some e1
theorem Zg2 {b00 : Nat} {w01 : Value} (p0 : Y98) (p1 : Int) (r : Y97) (h : Zg1 p0 p1 = some r) : Ok Tryz.prog 138 [pt b00, cI p1] [oB b00 145 [cM Y9f 3 p0.hub.rooms, cM Y9b 2 p0.hub.stream, cV w01], oA w01 186 Y9t 1 p0.rooms] (fun c qs => c = C.ip [cI r.graph.room, cM Y99 9 r.graph.events, cM Y99 9 r.graph.parked, C.imap .i64 Y9q r.depth, C.imap .i64 Y9r r.before, C.imap .i64 Y9r r.after, C.imap .i64 Y9q r.refused] ∧ qs = [oB b00 145 [cM Y9f 3 p0.hub.rooms, cM Y9b 2 p0.hub.stream, cV w01], oA w01 186 Y9t 1 p0.rooms]) := by
 refine Ok.of_body (rs := [.tmp 4]) Tryz.func138 rfl rfl rfl rfl rfl fun X => ?_
 unfold Zg1 at h
 refine zw ?_
 refine ob' h fun e1 g2 h => ?_
 refine Ops.v rfl (Y2x (p := 1) Yek.h rfl rfl rfl g2 rfl) ?_
 refine Ops.v rfl (Y30 (p := 1) Ye9.h rfl rfl (Y29 g2).2.2 rfl rfl) ?_
 refine zw ?_
 refine AW.ret ?_
 rw [← Wj h]
 exact ⟨[C.ip [cI e1.graph.room, cM Y99 9 e1.graph.events, cM Y99 9 e1.graph.parked, C.imap .i64 Y9q e1.depth, C.imap .i64 Y9r e1.before, C.imap .i64 Y9r e1.after, C.imap .i64 Y9q e1.refused]], _, Y21.refl _, (.cons (.tmp rfl) .nil), [0, 0], _, _, rfl, ⟨rfl, rfl⟩⟩

def Zg3 (x2 : Bool) : Option Bool := some x2
def Zg4 (p0 : Int) (q0 : Y97) (q1 : List ((Int × Int) × Bool)) (q2 : Y8x) : Option Bool := cond ((Option.getD (mget q0.refused p0) 0) == 0) (Zg3 (!(Option.getD (pget q1 (q2.room, p0)) false))) (Zg3 false)
theorem Zg5 {b00 : Nat} {b01 : Nat} {b02 : Nat} {b03 : Nat} (p0 : Int) (q0 : Y97) (q1 : List ((Int × Int) × Bool)) (q2 : Y8x) (r : Bool) (h : Zg4 p0 q0 q1 q2 = some r) : Ok Tryz.prog 141 [cI p0, pt b00, pt b01, pt b03] [oB b00 186 [C.ip [cI q0.graph.room, cM Y99 9 q0.graph.events, cM Y99 9 q0.graph.parked, C.imap .i64 Y9q q0.depth, C.imap .i64 Y9r q0.before, C.imap .i64 Y9r q0.after, C.imap .i64 Y9q q0.refused]], oB b01 189 [mt b02], Abs.Obj.pmap b02 Y9s q1, oB b03 142 [cI q2.room, cI q2.id]] (fun c qs => c = C.bool r ∧ qs = [oB b00 186 [C.ip [cI q0.graph.room, cM Y99 9 q0.graph.events, cM Y99 9 q0.graph.parked, C.imap .i64 Y9q q0.depth, C.imap .i64 Y9r q0.before, C.imap .i64 Y9r q0.after, C.imap .i64 Y9q q0.refused]], oB b01 189 [mt b02], Abs.Obj.pmap b02 Y9s q1, oB b03 142 [cI q2.room, cI q2.id]]) := by
 refine Ok.of_body (rs := [.tmp 5]) Tryz.func141 rfl rfl rfl rfl rfl fun X => ?_
 unfold Zg4 at h
 refine AW.seq ?_
 refine AW.region ?_
 refine Ops.v rfl (Yr rfl rfl) ?_
 refine Ops.nil ?_
 refine AW.seq ?_
 refine AW.cut (τ := Bool) (fun x2 => ⟨[(5, C.bool x2)], [oB b00 186 [C.ip [cI q0.graph.room, cM Y99 9 q0.graph.events, cM Y99 9 q0.graph.parked, C.imap .i64 Y9q q0.depth, C.imap .i64 Y9r q0.before, C.imap .i64 Y9r q0.after, C.imap .i64 Y9q q0.refused]], oB b01 189 [mt b02], Abs.Obj.pmap b02 Y9s q1, oB b03 142 [cI q2.room, cI q2.id]]⟩) (fun x2 => Zg3 x2 = some r) ?_ ?_
 ·
  refine zw ?_
  refine Ops.v rfl (Y86 (kc := Y9q) (z0 := 0) Yed zv_2 (fun _ _ => rfl) rfl rfl rfl) ?_
  refine zw ?_
  refine cnd h (fun hb1 h => ?_) fun hb1 h => ?_
  ·
   refine zw ?_
   refine Ops.gv rfl rfl rfl rfl hb1 (Y38 (ds := [cI q2.room, cI p0]) Yes Ybl (Y42 rfl rfl) (.one rfl (One.val rfl) rfl rfl (.one rfl (One.val rfl) rfl rfl .nil)) rfl) ?_
   refine Ops.gv rfl rfl rfl rfl hb1 (Y8i (p := 2) (j := (q2.room, p0)) (kc := Y9s) (z0 := false) Yeq zv_4 (fun _ _ => rfl) rfl rfl rfl rfl) ?_
   refine zw ?_
   exact ⟨(!(Option.getD (pget q1 (q2.room, p0)) false)), h, Y21.both (ns := [0, 0, 0, 0]) rfl rfl⟩
  refine zw ?_
  exact ⟨false, h, Y21.both (ns := [0, 0, 0, 0]) rfl rfl⟩
 intro x2 h
 replace h : Zg3 x2 = some r := h
 unfold Zg3 at h
 refine AW.ret ?_
 rw [← Wj h]
 exact ⟨[C.bool x2], _, Y21.refl _, (.cons (.tmp rfl) .nil), [0, 0, 0, 0], _, _, rfl, ⟨rfl, rfl⟩⟩

def Zg6 : Option Int := some (-1)
def Zg7 (p0 : List Int) (p1_0 : Y97) (p1_1 : List ((Int × Int) × Bool)) (p1_2 : Y8x) (x7 : Int) : Option (Int ⊕ (Int ⊕ Unit)) := cond (decide (x7 < (p0.length : Int))) ((getI p0 x7).bind fun e9 => (Zg4 e9 p1_0 p1_1 p1_2).bind fun r11 => cond r11 (some (.inr (.inl x7))) (some (.inl (IntKind.i64.wrap (x7 + 1))))) (some (.inr (.inr ())))
def Zg8 (p0 : List Int) (p1_0 : Y97) (p1_1 : List ((Int × Int) × Bool)) (p1_2 : Y8x) : Option Int := (iter (Zg7 p0 p1_0 p1_1 p1_2) big 0).bind (fun z15 => match z15 with | .inl y14 => some y14 | .inr () => Zg6)
theorem Zg9 {b00 : Nat} {b01 : Nat} {b02 : Nat} {b03 : Nat} (p0 : List Int) (p1_0 : Y97) (p1_1 : List ((Int × Int) × Bool)) (p1_2 : Y8x) (r : Int) (h : Zg8 p0 p1_0 p1_1 p1_2 = some r) : Ok Tryz.prog 194 [cM kI64 1 p0, C.clo 141 [pt b00, pt b01, pt b03]] [oB b00 186 [C.ip [cI p1_0.graph.room, cM Y99 9 p1_0.graph.events, cM Y99 9 p1_0.graph.parked, C.imap .i64 Y9q p1_0.depth, C.imap .i64 Y9r p1_0.before, C.imap .i64 Y9r p1_0.after, C.imap .i64 Y9q p1_0.refused]], oB b01 189 [mt b02], Abs.Obj.pmap b02 Y9s p1_1, oB b03 142 [cI p1_2.room, cI p1_2.id]] (fun c qs => c = cI r ∧ qs = [oB b00 186 [C.ip [cI p1_0.graph.room, cM Y99 9 p1_0.graph.events, cM Y99 9 p1_0.graph.parked, C.imap .i64 Y9q p1_0.depth, C.imap .i64 Y9r p1_0.before, C.imap .i64 Y9r p1_0.after, C.imap .i64 Y9q p1_0.refused]], oB b01 189 [mt b02], Abs.Obj.pmap b02 Y9s p1_1, oB b03 142 [cI p1_2.room, cI p1_2.id]]) := by
 refine Ok.of_body (rs := [.tmp 4]) Tryz.func194 rfl rfl rfl rfl rfl fun X => ?_
 unfold Zg8 at h
 refine AW.seq ?_
 refine AW.region ?_
 refine Ops.v rfl (Yr rfl rfl) ?_
 refine Ops.nil ?_
 refine AW.seq ?_
 refine AW.cut (τ := Unit) (fun (_ : Unit) => ⟨[], [oB b00 186 [C.ip [cI p1_0.graph.room, cM Y99 9 p1_0.graph.events, cM Y99 9 p1_0.graph.parked, C.imap .i64 Y9q p1_0.depth, C.imap .i64 Y9r p1_0.before, C.imap .i64 Y9r p1_0.after, C.imap .i64 Y9q p1_0.refused]], oB b01 189 [mt b02], Abs.Obj.pmap b02 Y9s p1_1, oB b03 142 [cI p1_2.room, cI p1_2.id]]⟩) (fun (_ : Unit) => Zg6 = some r) ?_ ?_
 ·
  refine zw ?_
  refine AW.lp (v := ()) h (fun x7 (_ : Unit) => ⟨[(0, cM kI64 1 p0), (1, C.clo 141 [pt b00, pt b01, pt b03]), (7, cI (p0.length : Int)), (8, cI x7)], [oB b00 186 [C.ip [cI p1_0.graph.room, cM Y99 9 p1_0.graph.events, cM Y99 9 p1_0.graph.parked, C.imap .i64 Y9q p1_0.depth, C.imap .i64 Y9r p1_0.before, C.imap .i64 Y9r p1_0.after, C.imap .i64 Y9q p1_0.refused]], oB b01 189 [mt b02], Abs.Obj.pmap b02 Y9s p1_1, oB b03 142 [cI p1_2.room, cI p1_2.id]]⟩) (gb [0, 0, 0, 0]) ?_
  rintro x7 _ y21 h
  refine zw ?_
  refine cnd h (fun hb8 h => ?_) fun hb8 h => ?_
  ·
   refine AW.ct hb8 rfl ?_
   refine zw ?_
   refine oi h fun e9 g10 h => ?_
   refine zw ?_
   refine ob' h fun r11 g12 h => ?_
   refine Ops.hd (ns := [0, 0, 0, 0]) rfl rfl (Y6s (cs := [_]) (ds := [_, _, _]) rfl (Zg5 e9 p1_0 p1_1 p1_2 _ g12) rfl rfl) ?_
   refine zw ?_
   refine cnd h (fun hb13 h => ?_) fun hb13 h => ?_
   ·
    refine AW.ct hb13 rfl ?_
    refine zw ?_
    refine AW.ret ?_
    refine lx h fun h => ?_
    rw [← Wj h]
    exact ⟨[cI x7], _, Y21.refl _, (.cons (.tmp rfl) .nil), [0, 0, 0, 0], _, _, rfl, ⟨rfl, rfl⟩⟩
   refine AW.cf hb13 rfl ?_
   refine zw ?_
   exact lu h (gb [0, 0, 0, 0])
  refine AW.cf hb8 rfl ?_
  refine AW.exit ?_
  refine lx h fun h => ?_
  exact ⟨(), h, Y21.both (ns := [0, 0, 0, 0]) rfl rfl⟩
 rintro ⟨⟩ h
 replace h : Zg6 = some r := h
 unfold Zg6 at h
 refine zw ?_
 refine AW.ret ?_
 rw [← Wj h]
 exact ⟨[cI (-1)], _, Y21.refl _, (.cons (.tmp rfl) .nil), [0, 0, 0, 0], _, _, rfl, ⟨rfl, rfl⟩⟩

def Zga (p0 : List Int) (p1_0 : Y97) (p1_1 : List ((Int × Int) × Bool)) (p1_2 : Y8x) : Option Bool := (Zg8 p0 p1_0 p1_1 p1_2).bind fun r1 => some (decide (r1 ≥ 0))
theorem Zgb {b00 : Nat} {b01 : Nat} {b02 : Nat} {b03 : Nat} (p0 : List Int) (p1_0 : Y97) (p1_1 : List ((Int × Int) × Bool)) (p1_2 : Y8x) (r : Bool) (h : Zga p0 p1_0 p1_1 p1_2 = some r) : Ok Tryz.prog 140 [cM kI64 1 p0, C.clo 141 [pt b00, pt b01, pt b03]] [oB b00 186 [C.ip [cI p1_0.graph.room, cM Y99 9 p1_0.graph.events, cM Y99 9 p1_0.graph.parked, C.imap .i64 Y9q p1_0.depth, C.imap .i64 Y9r p1_0.before, C.imap .i64 Y9r p1_0.after, C.imap .i64 Y9q p1_0.refused]], oB b01 189 [mt b02], Abs.Obj.pmap b02 Y9s p1_1, oB b03 142 [cI p1_2.room, cI p1_2.id]] (fun c qs => c = C.bool r ∧ qs = [oB b00 186 [C.ip [cI p1_0.graph.room, cM Y99 9 p1_0.graph.events, cM Y99 9 p1_0.graph.parked, C.imap .i64 Y9q p1_0.depth, C.imap .i64 Y9r p1_0.before, C.imap .i64 Y9r p1_0.after, C.imap .i64 Y9q p1_0.refused]], oB b01 189 [mt b02], Abs.Obj.pmap b02 Y9s p1_1, oB b03 142 [cI p1_2.room, cI p1_2.id]]) := by
 refine Ok.of_body (rs := [.tmp 4]) Tryz.func140 rfl rfl rfl rfl rfl fun X => ?_
 unfold Zga at h
 refine zw ?_
 refine ob' h fun r1 g2 h => ?_
 refine Ops.hd (ns := [0, 0, 0, 0]) rfl rfl (Y24 (Zg9 p0 p1_0 p1_1 p1_2 _ g2) rfl rfl) ?_
 refine zw ?_
 refine AW.ret ?_
 rw [← Wj h]
 exact ⟨[C.bool (decide (r1 ≥ 0))], _, Y21.refl _, (.cons (.tmp rfl) .nil), [0, 0, 0, 0], _, _, rfl, ⟨rfl, rfl⟩⟩

def Zgc (p0 : Y91) (l100 : List Y97) (x101 : Int) : Option (Y98 × Bool) := cond (x101 == (p0.stream.length : Int)) (some ((Y98.mk p0 l100), (x101 == (p0.stream.length : Int)))) (some ((Y98.mk (Y91.mk [] []) []), (x101 == (p0.stream.length : Int))))
def Zgd (m178 : List ((Int × Int) × Bool)) (x179 : Int) (e181 : Y8x) (x252 : Bool) : Option (((List ((Int × Int) × Bool)) × Int) ⊕ ((Y98 × Bool) ⊕ Unit)) := cond x252 (some (.inr (.inl ((Y98.mk (Y91.mk [] []) []), false)))) (some (.inl ((pset m178 (e181.room, e181.id) true), (IntKind.i64.wrap (x179 + 1)))))
def Zge (m178 : List ((Int × Int) × Bool)) (x179 : Int) (e181 : Y8x) (r189 : Y97) (x196 : Int) (x197 : Int) (x198 : Int) (x199 : Int) (x200 : Int) (x201 : Int) (x202 : ByteArray) (l203 : List Int) (x204 : Int) (x205 : Bool) : Option (((List ((Int × Int) × Bool)) × Int) ⊕ ((Y98 × Bool) ⊕ Unit)) := cond x205 (cond ((Option.getD (mget r189.refused e181.id) 0) != 0) (Zgd m178 x179 e181 true) ((Zga l203 r189 m178 e181).bind fun r244 => Zgd m178 x179 e181 r244)) (Zgd m178 x179 e181 true)
def Zgf (p0 : Y91) (l100 : List Y97) (m178 : List ((Int × Int) × Bool)) (x179 : Int) (e181 : Y8x) (x187 : Bool) : Option (((List ((Int × Int) × Bool)) × Int) ⊕ ((Y98 × Bool) ⊕ Unit)) := cond x187 (some (.inr (.inl ((Y98.mk (Y91.mk [] []) []), false)))) ((Zg1 (Y98.mk p0 l100) e181.room).bind fun r189 => (Zcv r189.graph e181.id).bind fun r192 => Zge m178 x179 e181 r189 r192.1.id r192.1.room r192.1.author r192.1.kind r192.1.key r192.1.n r192.1.text r192.1.prev r192.1.time r192.2)
def Zgg (p0 : Y91) (l100 : List Y97) (m178 : List ((Int × Int) × Bool)) (x179 : Int) : Option (((List ((Int × Int) × Bool)) × Int) ⊕ ((Y98 × Bool) ⊕ Unit)) := cond (decide (x179 < (p0.stream.length : Int))) ((getI p0.stream x179).bind fun e181 => (Z8s e181.room).bind fun r184 => cond r184 (Zgf p0 l100 m178 x179 e181 (Option.getD (pget m178 (e181.room, e181.id)) false)) (Zgf p0 l100 m178 x179 e181 true)) (some (.inr (.inr ())))
def Zgh (p0 : Y91) (l100 : List Y97) (x101 : Int) : Option (Y98 × Bool) := (iter (fun z255 => Zgg p0 l100 z255.1 z255.2) big (([] : List ((Int × Int) × Bool)), 0)).bind (fun z257 => match z257 with | .inl y256 => some y256 | .inr () => Zgc p0 l100 x101)
def Zgi (l57 : List Y97) (x58 : Int) (x59 : Int) (e61 : Y90) (x67 : Bool) : Option ((List Y97 × Int × Int) ⊕ ((Y98 × Bool) ⊕ (List Y97 × Int))) := cond x67 (some (.inr (.inl ((Y98.mk (Y91.mk [] []) []), false)))) ((Zfu e61).bind fun r83 => (chk (decide ((l57.length + [r83].length) * 8 ≤ 140737488355328))).bind fun u92 => (getI (l57 ++ [r83]) x59).bind fun e95 => (Zfz e95).bind fun r97 => some (.inl ((l57 ++ [r83]), (IntKind.i64.wrap (x58 + (r97.length : Int))), (IntKind.i64.wrap (x59 + 1)))))
def Zgj (p0 : Y91) (l57 : List Y97) (x58 : Int) (x59 : Int) : Option ((List Y97 × Int × Int) ⊕ ((Y98 × Bool) ⊕ (List Y97 × Int))) := cond (decide (x59 < (p0.rooms.length : Int))) ((getI p0.rooms x59).bind fun e61 => (Zbc e61).bind fun r64 => cond r64 (Zgi l57 x58 x59 e61 (e61.room != (IntKind.i64.wrap (x59 + 1)))) (Zgi l57 x58 x59 e61 true)) (some (.inr (.inr (l57, x58))))
def Zgk (p0 : Y91) (x3 : Bool) : Option (Y98 × Bool) := cond x3 (some ((Y98.mk (Y91.mk [] []) []), false)) ((iter (fun z258 => Zgj p0 z258.1 z258.2.1 z258.2.2) big ([], 0, 0)).bind (fun z262 => match z262 with | .inl y259 => some y259 | .inr (y260, y261) => Zgh p0 y260 y261))
def Zgl (p0 : Y91) : Option (Y98 × Bool) := cond ((p0.rooms.length : Int) != 3) (Zgk p0 true) (Zgk p0 (decide ((p0.stream.length : Int) > 120)))
theorem Zgm (p0 : Y91) (r : Y98 × Bool) (h : Zgl p0 = some r) : Ok Tryz.prog 73 [C.agg [cM Y9f 3 p0.rooms, cM Y9b 2 p0.stream]] [] (fun c qs => (r.2 = true ∧ c = C.tup [C.ip [cM Y9f 3 r.1.hub.rooms, cM Y9b 2 r.1.hub.stream, cM Y9t 1 r.1.rooms], C.bool r.2] ∧ qs = []) ∨ (r.2 = false ∧ c = C.tup [C.any, C.bool r.2] ∧ qs = [])) := by
 refine Ok.of_body (rs := [.tmp 2, .tmp 3]) Tryz.func73 rfl rfl rfl rfl rfl fun X => ?_
 unfold Zgl at h
 refine zw ?_
 refine ox fun b1 => ?_
 refine Ops.v rfl (Yr rfl rfl) ?_
 refine Ops.v rfl (Yr rfl rfl) ?_
 refine Ops.nil ?_
 refine AW.seq ?_
 refine AW.seq ?_
 refine AW.cut (τ := Bool) (fun x3 => ⟨[(1, pt b1), (23, C.bool x3)], [oB b1 32 [cM Y9f 3 p0.rooms, cM Y9b 2 p0.stream]]⟩) (fun x3 => Zgk p0 x3 = some r) go fun x3 h => ?_
 replace h : Zgk p0 x3 = some r := h
 unfold Zgk at h
 refine cnd h (fun hb4 h => ?_) fun hb4 h => ?_
 ·
  refine AW.ct hb4 rfl ?_
  refine zw ?_
  refine AW.ret ?_
  rw [← Wj h]
  exact ⟨[C.any, C.bool false], _, Y21.imp (t := 2) rfl (Imp.any _), (.cons (.tmp rfl) (.cons (.tmp rfl) .nil)), [], _, _, rfl, .inr ⟨rfl, rfl, rfl⟩⟩
 refine AW.cf hb4 rfl ?_
 refine zw ?_
 refine Ops.v rfl (Y38 (ds := [cM Y9f 3 p0.rooms, cM Y9b 2 p0.stream, cV s0]) Yel Yem (Y42 rfl rfl) (.agg rfl rfl rfl .nil) rfl) ?_
 refine ox fun b5 => ?_
 refine Ops.v rfl (Yr rfl rfl) ?_
 refine Ops.v rfl (Yr rfl rfl) ?_
 refine Ops.nil ?_
 refine AW.seq ?_
 refine AW.cut (τ := List Y97 × Int × Value) (fun (l100, x101, v99) => ⟨[(1, pt b1), (4, pt b5), (5, cI x101)], [oB b1 32 [cM Y9f 3 p0.rooms, cM Y9b 2 p0.stream], oB b5 145 [cM Y9f 3 p0.rooms, cM Y9b 2 p0.stream, cV v99], oA v99 186 Y9t 1 l100]⟩) (fun (l100, x101, v99) => Zgh p0 l100 x101 = some r) ?_ ?_
 ·
  refine zw ?_
  refine AW.lp h (fun (l57, x58, x59) (v56 : Value) => ⟨[(1, pt b1), (4, pt b5), (5, cI x58), (28, cM Y9f 3 p0.rooms), (29, cI (p0.rooms.length : Int)), (30, cI x59)], [oB b1 32 [cM Y9f 3 p0.rooms, cM Y9b 2 p0.stream], oB b5 145 [cM Y9f 3 p0.rooms, cM Y9b 2 p0.stream, cV v56], oA v56 186 Y9t 1 l57]⟩) ((Y21.nil 186 Y9t 1).trans (Y21.both (ns := [2, 1, 0]) rfl rfl)) ?_
  rintro ⟨l57, x58, x59⟩ v56 y275 h
  refine zw ?_
  refine cnd h (fun hb60 h => ?_) fun hb60 h => ?_
  ·
   refine AW.ct hb60 rfl ?_
   refine zw ?_
   refine oi h fun e61 g62 h => ?_
   refine zw ?_
   refine Ops.h (ns := []) rfl rfl (Y1p (cs := [cI 0, cV s0, cV s0]) Yb9 (Y42 rfl rfl) rfl) ?_
   rintro _ _ ⟨b63, rfl, rfl⟩
   refine zw ?_
   refine Ops.hd (ns := [0]) rfl rfl (Y1u (gs := [cI e61.room, cM Y99 9 e61.events, cM Y99 9 e61.parked]) Ybf.h rfl rfl rfl rfl rfl) ?_
   refine Ops.nil ?_
   refine AW.seq ?_
   refine AW.seq ?_
   refine AW.cut (τ := Bool) (fun x67 => ⟨[(1, pt b1), (4, pt b5), (5, cI x58), (6, cI x59), (7, pt b63), (28, cM Y9f 3 p0.rooms), (29, cI (p0.rooms.length : Int)), (30, cI x59), (44, C.bool x67)], [oB b1 32 [cM Y9f 3 p0.rooms, cM Y9b 2 p0.stream], oB b5 145 [cM Y9f 3 p0.rooms, cM Y9b 2 p0.stream, cV v56], oA v56 186 Y9t 1 l57, oB b63 139 [cI e61.room, cM Y99 9 e61.events, cM Y99 9 e61.parked]]⟩) (fun x67 => Zgi l57 x58 x59 e61 x67 = some y275) ?_ ?_
   ·
    refine zw ?_
    refine oc h fun r64 g65 h => ?_
    refine zw ?_
    refine cnd h (fun hb66 h => ?_) fun hb66 h => ?_
    ·
     refine zw ?_
     exact ⟨(e61.room != (IntKind.i64.wrap (x59 + 1))), h, Y21.both (ns := [1, 1, 1, 0]) rfl rfl⟩
    refine zw ?_
    exact ⟨true, h, Y21.both (ns := [1, 1, 1, 0]) rfl rfl⟩
   intro x67 h
   replace h : Zgi l57 x58 x59 e61 x67 = some y275 := h
   unfold Zgi at h
   refine cnd h (fun hb68 h => ?_) fun hb68 h => ?_
   ·
    refine AW.ct hb68 rfl ?_
    refine zw ?_
    refine AW.ret ?_
    refine lx h fun h => ?_
    rw [← Wj h]
    exact ⟨[C.any, C.bool false], _, Y21.imp (t := 2) rfl (Imp.any _), (.cons (.tmp rfl) (.cons (.tmp rfl) .nil)), [], _, _, rfl, .inr ⟨rfl, rfl, rfl⟩⟩
   refine AW.cf hb68 rfl ?_
   refine zw ?_
   refine rD [0,0,1] [4,5] [11] [0,4,8,12,17,21,26,30,34,36,40,47] ?_
   refine zw ?_
   refine ob' h fun r83 g84 h => ?_
   refine Y3n.h (ns := []) rfl rfl rfl (Y23 (Zfv _ _ g84) rfl rfl) ?_
   rintro _ _ ⟨_, ⟨b85, b86, b87, b88, b89, rfl, rfl⟩, rfl⟩
   refine OpsD.one ?_
   refine Y3n.h (ns := [0, 0, 0, 0, 0]) rfl rfl rfl (HOp.frz (t := 51) rfl (Frz.box (fS (fS (fS (FrzL.cons (os := [_]) Frz.map (FrzL.cons (os := [_]) Frz.map (FrzL.cons (os := [_]) Frz.map (FrzL.cons (os := [_]) Frz.map FrzL.nil)))))))) (Y39 (k := Y9t) (ys := [r83]) Yen (.one rfl One.ip rfl rfl .nil) rfl rfl rfl)) ?_
   rintro _ _ ⟨b90, rfl, rfl⟩
   refine zw ?_
   refine ob' h fun u92 c91 h => ?_
   refine Y3n.h (ns := [1, 0]) rfl rfl rfl (Y2s Yen rfl rfl (Wo (Y3t c91)) (Y3w (by decide) c91) rfl) ?_
   rintro _ _ ⟨v93, rfl, rfl⟩
   refine OpsD.v rfl rfl (Y14 rfl rfl) ?_
   refine OpsD.v rfl rfl (Y1b Yei.h rfl rfl) ?_
   refine OpsD.learn (Sim.arr_one (p := 3) rfl) fun n94 => ?_
   refine OpsD.late (ns := [1]) rfl rfl rfl (Y1t (gs := [cM Y9f 3 p0.rooms, cM Y9b 2 p0.stream, cV v93]) Yej.h rfl rfl (One.val n94) rfl rfl) ?_
   rintro _ _ ⟨rfl, rfl⟩
   refine zw ?_
   refine ob' h fun e95 g96 h => ?_
   refine Ops.v rfl (Y2x (p := 3) Yek.h rfl rfl rfl g96 rfl) ?_
   refine Ops.v rfl (Y30 (p := 3) Ye9.h rfl rfl (Y29 g96).2.2 rfl rfl) ?_
   exact go
  exact go
 rintro ⟨l100, x101, v99⟩ h
 replace h : Zgh p0 l100 x101 = some r := h
 unfold Zgh at h
 refine zw ?_
 refine Ops.h (ns := []) rfl rfl (Y8g (kc := Y9s) rfl) ?_
 rintro _ _ ⟨b102, rfl, rfl⟩
 refine Ops.h (ns := []) rfl rfl (Y1p (cs := [cV (.map none)]) Yeo (Y42 rfl rfl) rfl) ?_
 rintro _ _ ⟨b103, rfl, rfl⟩
 refine Ops.hd (ns := [0]) rfl rfl (Y1t (gs := [mt b102]) Yep.h rfl rfl (One.val rfl) rfl rfl) ?_
 refine Ops.nil ?_
 refine AW.seq ?_
 refine AW.cut (τ := Unit) (fun (_ : Unit) => ⟨[(1, pt b1), (4, pt b5), (5, cI x101)], [oB b1 32 [cM Y9f 3 p0.rooms, cM Y9b 2 p0.stream], oB b5 145 [cM Y9f 3 p0.rooms, cM Y9b 2 p0.stream, cV v99], oA v99 186 Y9t 1 l100]⟩) (fun (_ : Unit) => Zgc p0 l100 x101 = some r) ?_ ?_
 ·
  refine zw ?_
  refine AW.lp (v := ()) h (fun (m178, x179) (_ : Unit) => ⟨[(1, pt b1), (4, pt b5), (5, cI x101), (8, pt b103), (70, cM Y9b 2 p0.stream), (71, cI (p0.stream.length : Int)), (72, cI x179)], [oB b1 32 [cM Y9f 3 p0.rooms, cM Y9b 2 p0.stream], oB b5 145 [cM Y9f 3 p0.rooms, cM Y9b 2 p0.stream, cV v99], oA v99 186 Y9t 1 l100, oB b103 189 [mt b102], Abs.Obj.pmap b102 Y9s m178]⟩) (gb [2, 2, 2, 0, 0]) ?_
  rintro ⟨m178, x179⟩ _ y268 h
  refine zw ?_
  refine cnd h (fun hb180 h => ?_) fun hb180 h => ?_
  ·
   refine AW.ct hb180 rfl ?_
   refine zw ?_
   refine oi h fun e181 g182 h => ?_
   refine zw ?_
   refine Ops.h (ns := []) rfl rfl (Y1p (cs := [cI 0, cI 0]) Ybl (Y42 rfl rfl) rfl) ?_
   rintro _ _ ⟨b183, rfl, rfl⟩
   refine Ops.hd (ns := [0]) rfl rfl (Y1u (gs := [cI e181.room, cI e181.id]) Ybq.h rfl rfl rfl rfl rfl) ?_
   refine Ops.nil ?_
   refine AW.seq ?_
   refine AW.seq ?_
   refine AW.cut (τ := Bool) (fun x187 => ⟨[(1, pt b1), (4, pt b5), (5, cI x101), (8, pt b103), (10, pt b183), (70, cM Y9b 2 p0.stream), (71, cI (p0.stream.length : Int)), (72, cI x179), (84, C.bool x187)], [oB b1 32 [cM Y9f 3 p0.rooms, cM Y9b 2 p0.stream], oB b5 145 [cM Y9f 3 p0.rooms, cM Y9b 2 p0.stream, cV v99], oA v99 186 Y9t 1 l100, oB b103 189 [mt b102], Abs.Obj.pmap b102 Y9s m178, oB b183 142 [cI e181.room, cI e181.id]]⟩) (fun x187 => Zgf p0 l100 m178 x179 e181 x187 = some y268) ?_ ?_
   ·
    refine zw ?_
    refine oc h fun r184 g185 h => ?_
    refine zw ?_
    refine cnd h (fun hb186 h => ?_) fun hb186 h => ?_
    ·
     refine Ops.gv rfl rfl rfl rfl (Y3u hb186) (Y1k (p := 4) Yep.h rfl rfl rfl rfl) ?_
     refine zw ?_
     refine Ops.gv rfl rfl rfl rfl (Y3u hb186) (Y8i (p := 5) (j := (e181.room, e181.id)) (kc := Y9s) (z0 := false) Yeq zv_4 (fun _ _ => rfl) rfl rfl rfl rfl) ?_
     refine zw ?_
     exact ⟨(Option.getD (pget m178 (e181.room, e181.id)) false), h, Y21.both (ns := [1, 1, 1, 1, 1, 0]) rfl rfl⟩
    refine zw ?_
    exact ⟨true, h, Y21.both (ns := [1, 1, 1, 1, 1, 0]) rfl rfl⟩
   intro x187 h
   replace h : Zgf p0 l100 m178 x179 e181 x187 = some y268 := h
   unfold Zgf at h
   refine cnd h (fun hb188 h => ?_) fun hb188 h => ?_
   ·
    refine AW.ct hb188 rfl ?_
    refine zw ?_
    refine AW.ret ?_
    refine lx h fun h => ?_
    rw [← Wj h]
    exact ⟨[C.any, C.bool false], _, Y21.imp (t := 2) rfl (Imp.any _), (.cons (.tmp rfl) (.cons (.tmp rfl) .nil)), [], _, _, rfl, .inr ⟨rfl, rfl, rfl⟩⟩
   refine AW.cf hb188 rfl ?_
   refine AW.skip ?_
   refine AW.seq ?_
   refine AW.region ?_
   refine Ops.v rfl (Yq rfl rfl) ?_
   refine Ops.v rfl (Y1b Ybn.h rfl rfl) ?_
   refine Ops.v rfl (Y1k (p := 5) ld_2.h rfl rfl rfl rfl) ?_
   refine ob' h fun r189 g190 h => ?_
   refine Ops.hd (ns := [1, 1]) rfl rfl (Y24 (Zg2 (Y98.mk p0 l100) e181.room _ g190) rfl rfl) ?_
   refine Ops.h (ns := []) rfl rfl (Y1p (cs := [cV (.pointer none)]) Yer (Y42 rfl rfl) rfl) ?_
   rintro _ _ ⟨b191, rfl, rfl⟩
   refine Ops.hd (ns := [0]) rfl rfl (Y1t (gs := [C.ip [cI r189.graph.room, cM Y99 9 r189.graph.events, cM Y99 9 r189.graph.parked, C.imap .i64 Y9q r189.depth, C.imap .i64 Y9r r189.before, C.imap .i64 Y9r r189.after, C.imap .i64 Y9q r189.refused]]) Ye9.h rfl rfl One.ip rfl rfl) ?_
   refine Ops.nil ?_
   refine AW.seq ?_
   refine AW.cut (τ := Int × Int × Int × Int × Int × Int × ByteArray × List Int × Int × Bool × Nat) (fun (x196, x197, x198, x199, x200, x201, x202, l203, x204, x205, b195) => ⟨[(1, pt b1), (4, pt b5), (5, cI x101), (8, pt b103), (10, pt b183), (11, pt b191), (12, pt b195), (13, C.bool x205), (70, cM Y9b 2 p0.stream), (71, cI (p0.stream.length : Int)), (72, cI x179)], [oB b1 32 [cM Y9f 3 p0.rooms, cM Y9b 2 p0.stream], oB b5 145 [cM Y9f 3 p0.rooms, cM Y9b 2 p0.stream, cV v99], oA v99 186 Y9t 1 l100, oB b103 189 [mt b102], Abs.Obj.pmap b102 Y9s m178, oB b183 142 [cI e181.room, cI e181.id], oB b191 186 [C.ip [cI r189.graph.room, cM Y99 9 r189.graph.events, cM Y99 9 r189.graph.parked, C.imap .i64 Y9q r189.depth, C.imap .i64 Y9r r189.before, C.imap .i64 Y9r r189.after, C.imap .i64 Y9q r189.refused]], oB b195 136 [cI x196, cI x197, cI x198, cI x199, cI x200, cI x201, C.str x202, cM kI64 1 l203, cI x204]]⟩) (fun (x196, x197, x198, x199, x200, x201, x202, l203, x204, x205, b195) => Zge m178 x179 e181 r189 x196 x197 x198 x199 x200 x201 x202 l203 x204 x205 = some y268) ?_ ?_
   ·
    refine AW.regionD (L := [0, 3, 5]) (Lt := [11]) (k := .light 0 true (.light 1 false (.light 2 false (.light 3 true (.light 4 false (.light 5 true (.two 6 10 (.light 7 false (.light 8 false (.light 9 false (.one 10 (.late 11 (.light 12 false .done)))))) (.one 6 (.light 7 false (.light 8 false (.light 9 false (.late 11 (.light 12 false .done))))))))))))) (ns := [0, 0, 0, 0, 0, 0, 0]) (by kernel_rfl) (by kernel_rfl) (by kernel_rfl) (by kernel_rfl) rfl ?_
    refine OpsD.v rfl rfl (Y1k (p := 0) Ye9.h rfl rfl rfl rfl) ?_
    refine OpsD.v rfl rfl (Y15 rfl rfl) ?_
    refine OpsD.v rfl rfl (Y1c Yea.h rfl rfl rfl) ?_
    refine OpsD.v rfl rfl (Y1i Ybf.h rfl rfl rfl rfl) ?_
    refine OpsD.v rfl rfl (Y1b Ybp.h rfl rfl) ?_
    refine OpsD.v rfl rfl (Y1k (p := 6) ld_2.h rfl rfl rfl rfl) ?_
    refine ob' h fun r192 g193 h => ?_
    refine OpsD.two ?_ ?_
    ·
     refine Y3n.h (ns := []) rfl rfl rfl (Y24 ((Zcw _ _).h _ g193) rfl rfl) ?_
     rintro _ _ ⟨rfl, rfl⟩
     refine OpsD.v rfl rfl (Yq rfl rfl) ?_
     refine OpsD.v rfl rfl (Y13 rfl rfl rfl) ?_
     refine OpsD.v rfl rfl (Y13 rfl rfl rfl) ?_
     refine OpsD.one ?_
     refine Y3n.h (ns := []) rfl rfl rfl (Y1p (cs := [cI 0, cI 0, cI 0, cI 0, cI 0, cI 0, C.str ByteArray.empty, cV s0, cI 0]) Yal (Y42 rfl rfl) rfl) ?_
     rintro _ _ ⟨b194, rfl, rfl⟩
     refine OpsD.late (ns := [7]) rfl rfl rfl (Y1u (gs := [cI r192.1.id, cI r192.1.room, cI r192.1.author, cI r192.1.kind, cI r192.1.key, cI r192.1.n, C.str r192.1.text, cM kI64 1 r192.1.prev, cI r192.1.time]) Yb2.h rfl rfl rfl rfl rfl) ?_
     rintro _ _ ⟨rfl, rfl⟩
     refine zw ?_
     exact ⟨(r192.1.id, r192.1.room, r192.1.author, r192.1.kind, r192.1.key, r192.1.n, r192.1.text, r192.1.prev, r192.1.time, r192.2, b194), h, Y21.both (ns := [4, 2, 2, 2, 2, 2, 1, 0]) rfl rfl⟩
    refine Y3n.h (ns := []) rfl rfl rfl (Y1p (cs := [cI 0, cI 0, cI 0, cI 0, cI 0, cI 0, C.str ByteArray.empty, cV s0, cI 0]) Yal (Y42 rfl rfl) rfl) ?_
    rintro _ _ ⟨b194, rfl, rfl⟩
    refine OpsD.one ?_
    refine Y3n.h (ns := []) rfl rfl rfl (Y24 ((Zcw _ _).h _ g193) rfl rfl) ?_
    rintro _ _ ⟨rfl, rfl⟩
    refine zw ?_
    refine OpsD.late (ns := [7]) rfl rfl rfl (Y1u (gs := [cI r192.1.id, cI r192.1.room, cI r192.1.author, cI r192.1.kind, cI r192.1.key, cI r192.1.n, C.str r192.1.text, cM kI64 1 r192.1.prev, cI r192.1.time]) Yb2.h rfl rfl rfl rfl rfl) ?_
    rintro _ _ ⟨rfl, rfl⟩
    refine zw ?_
    exact ⟨(r192.1.id, r192.1.room, r192.1.author, r192.1.kind, r192.1.key, r192.1.n, r192.1.text, r192.1.prev, r192.1.time, r192.2, b194), h, Y21.both (ns := [4, 2, 2, 2, 2, 2, 1, 0]) rfl rfl⟩
   rintro ⟨x196, x197, x198, x199, x200, x201, x202, l203, x204, x205, b195⟩ h
   replace h : Zge m178 x179 e181 r189 x196 x197 x198 x199 x200 x201 x202 l203 x204 x205 = some y268 := h
   unfold Zge at h
   refine AW.seq ?_
   refine AW.seq ?_
   refine AW.cut (τ := Bool) (fun x252 => ⟨[(1, pt b1), (4, pt b5), (5, cI x101), (8, pt b103), (10, pt b183), (70, cM Y9b 2 p0.stream), (71, cI (p0.stream.length : Int)), (72, cI x179), (116, C.bool x252)], [oB b1 32 [cM Y9f 3 p0.rooms, cM Y9b 2 p0.stream], oB b5 145 [cM Y9f 3 p0.rooms, cM Y9b 2 p0.stream, cV v99], oA v99 186 Y9t 1 l100, oB b103 189 [mt b102], Abs.Obj.pmap b102 Y9s m178, oB b183 142 [cI e181.room, cI e181.id]]⟩) (fun x252 => Zgd m178 x179 e181 x252 = some y268) ?_ ?_
   ·
    refine AW.regionD (L := [3, 6, 8, 9, 14]) (Lt := []) (k := .light 0 false (.light 1 false (.light 2 false (.light 7 false (.two 3 8 (.light 4 false (.light 5 false (.two 6 8 (.one 8 (.one 9 (.light 10 false (.light 11 false (.light 12 false (.light 13 false (.light 15 false (.one 14 (.one 16 (.light 17 false .done)))))))))) (.one 6 (.one 9 (.light 10 false (.light 11 false (.light 12 false (.light 13 false (.light 15 false (.one 14 (.one 16 (.light 17 false .done))))))))))))) (.one 3 (.light 4 false (.light 5 false (.one 6 (.one 9 (.light 10 false (.light 11 false (.light 12 false (.light 13 false (.light 15 false (.one 14 (.one 16 (.light 17 false .done)))))))))))))))))) (ns := [0, 0, 0, 4]) (by kernel_rfl) (by kernel_rfl) (by kernel_rfl) (by kernel_rfl) rfl ?_
    refine zw ?_
    refine cnd h (fun hb242 h => ?_) fun hb242 h => ?_
    ·
     refine zw ?_
     refine OpsD.two ?_ ?_
     ·
      refine Y3n.gv rfl rfl rfl rfl rfl (Y3u hb242) (Y1k (p := 7) Ye9.h rfl rfl rfl rfl) ?_
      refine zw ?_
      refine OpsD.two ?_ ?_
      ·
       refine Y3n.gv rfl rfl rfl rfl rfl (Y3u hb242) (Y1h Yec.h rfl rfl) ?_
       refine OpsD.one ?_
       refine Y3n.gv rfl rfl rfl rfl rfl (Y3u hb242) (Y1k (p := 6) ld_2.h rfl rfl rfl rfl) ?_
       refine OpsD.one ?_
       refine Y3n.gv rfl rfl rfl rfl rfl (Y3u hb242) (Y86 (kc := Y9q) (z0 := 0) Yed zv_2 (fun _ _ => rfl) rfl rfl rfl) ?_
       refine zw ?_
       refine cnd h (fun hb243 h => ?_) fun hb243 h => ?_
       ·
        refine OpsD.gs rfl rfl rfl rfl (.b rfl hb243) rfl rfl ?_
        refine OpsD.gs rfl rfl rfl rfl (.b rfl hb243) rfl rfl ?_
        refine OpsD.one ?_
        refine Y3n.gs rfl rfl rfl rfl (.b rfl hb243) rfl rfl ?_
        refine OpsD.one ?_
        refine Y3n.gs rfl rfl rfl rfl (.b rfl hb243) rfl rfl ?_
        refine zw ?_
        exact ⟨true, h, Y21.both (ns := [0, 0, 0, 1, 1, 1]) rfl rfl⟩
       refine zw ?_
       refine OpsD.gv rfl rfl rfl rfl rfl hb243 (Y6q rfl rfl) ?_
       refine OpsD.one ?_
       refine Y3n.gv rfl rfl rfl rfl rfl hb243 (Y1k (p := 3) Y9y.h rfl rfl rfl rfl) ?_
       refine zw ?_
       refine ob' h fun r244 g245 h => ?_
       refine Y3n.gh (ns := [3, 0, 0, 0]) rfl rfl rfl rfl rfl hb243 rfl (Y24 (Zgb l203 r189 m178 e181 _ g245) rfl rfl) ?_
       rintro _ _ ⟨rfl, rfl⟩
       refine zw ?_
       exact ⟨r244, h, Y21.both (ns := [0, 0, 0, 2, 2, 2]) rfl rfl⟩
      refine Y3n.gv rfl rfl rfl rfl rfl (Y3u hb242) (Y1k (p := 6) ld_2.h rfl rfl rfl rfl) ?_
      refine OpsD.one ?_
      refine Y3n.gv rfl rfl rfl rfl rfl (Y3u hb242) (Y1h Yec.h rfl rfl) ?_
      refine OpsD.one ?_
      refine Y3n.gv rfl rfl rfl rfl rfl (Y3u hb242) (Y86 (kc := Y9q) (z0 := 0) Yed zv_2 (fun _ _ => rfl) rfl rfl rfl) ?_
      refine zw ?_
      refine cnd h (fun hb246 h => ?_) fun hb246 h => ?_
      ·
       refine OpsD.gs rfl rfl rfl rfl (.b rfl hb246) rfl rfl ?_
       refine OpsD.gs rfl rfl rfl rfl (.b rfl hb246) rfl rfl ?_
       refine OpsD.one ?_
       refine Y3n.gs rfl rfl rfl rfl (.b rfl hb246) rfl rfl ?_
       refine OpsD.one ?_
       refine Y3n.gs rfl rfl rfl rfl (.b rfl hb246) rfl rfl ?_
       refine zw ?_
       exact ⟨true, h, Y21.both (ns := [0, 0, 0, 1, 1, 1]) rfl rfl⟩
      refine zw ?_
      refine OpsD.gv rfl rfl rfl rfl rfl hb246 (Y6q rfl rfl) ?_
      refine OpsD.one ?_
      refine Y3n.gv rfl rfl rfl rfl rfl hb246 (Y1k (p := 3) Y9y.h rfl rfl rfl rfl) ?_
      refine zw ?_
      refine ob' h fun r247 g248 h => ?_
      refine Y3n.gh (ns := [3, 0, 0, 0]) rfl rfl rfl rfl rfl hb246 rfl (Y24 (Zgb l203 r189 m178 e181 _ g248) rfl rfl) ?_
      rintro _ _ ⟨rfl, rfl⟩
      refine zw ?_
      exact ⟨r247, h, Y21.both (ns := [0, 0, 0, 2, 2, 2]) rfl rfl⟩
     refine Y3n.gv rfl rfl rfl rfl rfl (Y3u hb242) (Y1k (p := 6) ld_2.h rfl rfl rfl rfl) ?_
     refine OpsD.one ?_
     refine Y3n.gv rfl rfl rfl rfl rfl (Y3u hb242) (Y1k (p := 7) Ye9.h rfl rfl rfl rfl) ?_
     refine OpsD.gv rfl rfl rfl rfl rfl (Y3u hb242) (Y15 rfl rfl) ?_
     refine OpsD.gv rfl rfl rfl rfl rfl (Y3u hb242) (Y1c Yef.h rfl rfl rfl) ?_
     refine OpsD.one ?_
     refine Y3n.gv rfl rfl rfl rfl rfl (Y3u hb242) (Y1h Yec.h rfl rfl) ?_
     refine OpsD.one ?_
     refine Y3n.gv rfl rfl rfl rfl rfl (Y3u hb242) (Y86 (kc := Y9q) (z0 := 0) Yed zv_2 (fun _ _ => rfl) rfl rfl rfl) ?_
     refine zw ?_
     refine cnd h (fun hb249 h => ?_) fun hb249 h => ?_
     ·
      refine OpsD.gs rfl rfl rfl rfl (.b rfl hb249) rfl rfl ?_
      refine OpsD.gs rfl rfl rfl rfl (.b rfl hb249) rfl rfl ?_
      refine OpsD.one ?_
      refine Y3n.gs rfl rfl rfl rfl (.b rfl hb249) rfl rfl ?_
      refine OpsD.one ?_
      refine Y3n.gs rfl rfl rfl rfl (.b rfl hb249) rfl rfl ?_
      refine zw ?_
      exact ⟨true, h, Y21.both (ns := [0, 0, 0, 1, 1, 1]) rfl rfl⟩
     refine zw ?_
     refine OpsD.gv rfl rfl rfl rfl rfl hb249 (Y6q rfl rfl) ?_
     refine OpsD.one ?_
     refine Y3n.gv rfl rfl rfl rfl rfl hb249 (Y1k (p := 3) Y9y.h rfl rfl rfl rfl) ?_
     refine zw ?_
     refine ob' h fun r250 g251 h => ?_
     refine Y3n.gh (ns := [3, 0, 0, 0]) rfl rfl rfl rfl rfl hb249 rfl (Y24 (Zgb l203 r189 m178 e181 _ g251) rfl rfl) ?_
     rintro _ _ ⟨rfl, rfl⟩
     refine zw ?_
     exact ⟨r250, h, Y21.both (ns := [0, 0, 0, 2, 2, 2]) rfl rfl⟩
    refine zw ?_
    refine OpsD.two ?_ ?_
    ·
     refine Y3n.gs rfl rfl rfl rfl (.b rfl (Y3v hb242)) rfl rfl ?_
     refine zw ?_
     refine OpsD.two ?_ ?_
     ·
      refine Y3n.gs rfl rfl rfl rfl (.b rfl (Y3v hb242)) rfl rfl ?_
      refine OpsD.one ?_
      refine Y3n.gs rfl rfl rfl rfl (.b rfl (Y3v hb242)) rfl rfl ?_
      refine OpsD.one ?_
      refine Y3n.gs rfl rfl rfl rfl (.b rfl (Y3v hb242)) rfl rfl ?_
      refine OpsD.gs rfl rfl rfl rfl (.b rfl (Y3v hb242)) rfl rfl ?_
      refine OpsD.v rfl rfl (Ys rfl (Y3v hb242) rfl rfl) ?_
      refine OpsD.v rfl rfl (Yq rfl rfl) ?_
      refine OpsD.gs rfl rfl rfl rfl (.b rfl rfl) rfl rfl ?_
      refine OpsD.gs rfl rfl rfl rfl (.b rfl rfl) rfl rfl ?_
      refine OpsD.one ?_
      refine Y3n.gs rfl rfl rfl rfl (.b rfl rfl) rfl rfl ?_
      refine OpsD.one ?_
      refine Y3n.gs rfl rfl rfl rfl (.b rfl rfl) rfl rfl ?_
      refine zw ?_
      exact ⟨true, h, Y21.both (ns := [0, 0, 0, 1, 1, 1]) rfl rfl⟩
     refine Y3n.gs rfl rfl rfl rfl (.b rfl (Y3v hb242)) rfl rfl ?_
     refine OpsD.one ?_
     refine Y3n.gs rfl rfl rfl rfl (.b rfl (Y3v hb242)) rfl rfl ?_
     refine OpsD.one ?_
     refine Y3n.gs rfl rfl rfl rfl (.b rfl (Y3v hb242)) rfl rfl ?_
     refine OpsD.gs rfl rfl rfl rfl (.b rfl (Y3v hb242)) rfl rfl ?_
     refine OpsD.v rfl rfl (Ys rfl (Y3v hb242) rfl rfl) ?_
     refine OpsD.v rfl rfl (Yq rfl rfl) ?_
     refine OpsD.gs rfl rfl rfl rfl (.b rfl rfl) rfl rfl ?_
     refine OpsD.gs rfl rfl rfl rfl (.b rfl rfl) rfl rfl ?_
     refine OpsD.one ?_
     refine Y3n.gs rfl rfl rfl rfl (.b rfl rfl) rfl rfl ?_
     refine OpsD.one ?_
     refine Y3n.gs rfl rfl rfl rfl (.b rfl rfl) rfl rfl ?_
     refine zw ?_
     exact ⟨true, h, Y21.both (ns := [0, 0, 0, 1, 1, 1]) rfl rfl⟩
    refine Y3n.gs rfl rfl rfl rfl (.b rfl (Y3v hb242)) rfl rfl ?_
    refine OpsD.one ?_
    refine Y3n.gs rfl rfl rfl rfl (.b rfl (Y3v hb242)) rfl rfl ?_
    refine OpsD.gs rfl rfl rfl rfl (.b rfl (Y3v hb242)) rfl rfl ?_
    refine OpsD.gs rfl rfl rfl rfl (.b rfl (Y3v hb242)) rfl rfl ?_
    refine OpsD.one ?_
    refine Y3n.gs rfl rfl rfl rfl (.b rfl (Y3v hb242)) rfl rfl ?_
    refine OpsD.one ?_
    refine Y3n.gs rfl rfl rfl rfl (.b rfl (Y3v hb242)) rfl rfl ?_
    refine OpsD.gs rfl rfl rfl rfl (.b rfl (Y3v hb242)) rfl rfl ?_
    refine OpsD.v rfl rfl (Ys rfl (Y3v hb242) rfl rfl) ?_
    refine OpsD.v rfl rfl (Yq rfl rfl) ?_
    refine OpsD.gs rfl rfl rfl rfl (.b rfl rfl) rfl rfl ?_
    refine OpsD.gs rfl rfl rfl rfl (.b rfl rfl) rfl rfl ?_
    refine OpsD.one ?_
    refine Y3n.gs rfl rfl rfl rfl (.b rfl rfl) rfl rfl ?_
    refine OpsD.one ?_
    refine Y3n.gs rfl rfl rfl rfl (.b rfl rfl) rfl rfl ?_
    refine zw ?_
    exact ⟨true, h, Y21.both (ns := [0, 0, 0, 1, 1, 1]) rfl rfl⟩
   intro x252 h
   replace h : Zgd m178 x179 e181 x252 = some y268 := h
   unfold Zgd at h
   refine cnd h (fun hb253 h => ?_) fun hb253 h => ?_
   ·
    refine AW.ct hb253 rfl ?_
    refine zw ?_
    refine AW.ret ?_
    refine lx h fun h => ?_
    rw [← Wj h]
    exact ⟨[C.any, C.bool false], _, Y21.imp (t := 2) rfl (Imp.any _), (.cons (.tmp rfl) (.cons (.tmp rfl) .nil)), [], _, _, rfl, .inr ⟨rfl, rfl, rfl⟩⟩
   refine AW.cf hb253 rfl ?_
   refine AW.skip ?_
   refine AW.region ?_
   refine Ops.v rfl (Y1k (p := 3) Yep.h rfl rfl rfl rfl) ?_
   refine Ops.v rfl (Y1l (p := 5) (ds := [cI e181.room, cI e181.id]) Ybq.h rfl rfl rfl rfl rfl) ?_
   refine Ops.hd (ns := [4]) rfl rfl (Y8j (j := (e181.room, e181.id)) (kc := Y9s) (v := true) Yeq rfl rfl rfl rfl) ?_
   refine zw ?_
   exact lu h (gb [1, 1, 1, 1, 0])
  exact go
 rintro ⟨⟩ h
 replace h : Zgc p0 l100 x101 = some r := h
 unfold Zgc at h
 refine zw ?_
 refine rD [0,0,0] [3] [] [0,4,8,13,16,20,24,28] ?_
 refine zw ?_
 refine AW.ret ?_
 refine cnd h (fun hb254 h => ?_) fun hb254 h => ?_
 ·
  rw [← Wj h]
  exact ⟨[C.ip [cM Y9f 3 p0.rooms, cM Y9b 2 p0.stream, cM Y9t 1 l100], C.bool (x101 == (p0.stream.length : Int))], _, Y21.freezeBy (ns := [1, 1]) (t := 2) rfl rfl (Frz.box (fS (fS (FrzL.cons (os := [_]) Frz.arr FrzL.nil)))), (.cons (.tmp rfl) (.cons (.tmp rfl) .nil)), [], _, _, rfl, .inl ⟨hb254, rfl, rfl⟩⟩
 rw [← Wj h]
 exact ⟨[C.any, C.bool (x101 == (p0.stream.length : Int))], _, Y21.imp (t := 2) rfl (Imp.any _), (.cons (.tmp rfl) (.cons (.tmp rfl) .nil)), [], _, _, rfl, .inr ⟨hb254, rfl, rfl⟩⟩

def Zgn (p0 : TNet) (p1 : Int) : Option Bool := (Z8q p1 0 (IntKind.i64.wrap ((p0.servers.length : Int) - 1))).bind fun r1 => some r1
theorem Zgo {b00 : Nat} {w01 : Value} {w02 : Value} (p0 : TNet) (p1 : Int) (r : Bool) (h : Zgn p0 p1 = some r) : Ok Tryz.prog 260 [pt b00, cI p1] [oB b00 124 [cV w01, cV w02], oA w01 99 Y9u 1 p0.servers, oA w02 115 Y9c 5 p0.letters] (fun c qs => c = C.bool r ∧ qs = [oB b00 124 [cV w01, cV w02], oA w01 99 Y9u 1 p0.servers, oA w02 115 Y9c 5 p0.letters]) := by
 refine Ok.of_body (rs := [.tmp 4]) Tryz.func260 rfl rfl rfl rfl rfl fun X => ?_
 unfold Zgn at h
 refine zw ?_
 refine oc h fun r1 g2 h => ?_
 refine zw ?_
 refine AW.ret ?_
 rw [← Wj h]
 exact ⟨[C.bool r1], _, Y21.refl _, (.cons (.tmp rfl) .nil), [0, 0, 0], _, _, rfl, ⟨rfl, rfl⟩⟩

def Zgp (x7 : Bool) : Option Bool := some x7
def Zgq (p0 : TNet) (p1 : Int) (p2 : Int) : Option Bool := (Zgn p0 p1).bind fun r1 => cond r1 ((Zgn p0 p2).bind fun r4 => cond r4 (Zgp (p1 != p2)) (Zgp false)) (Zgp false)
theorem Zgr {b00 : Nat} {w01 : Value} {w02 : Value} (p0 : TNet) (p1 : Int) (p2 : Int) (r : Bool) (h : Zgq p0 p1 p2 = some r) : Ok Tryz.prog 216 [pt b00, cI p1, cI p2] [oB b00 124 [cV w01, cV w02], oA w01 99 Y9u 1 p0.servers, oA w02 115 Y9c 5 p0.letters] (fun c qs => c = C.bool r ∧ qs = [oB b00 124 [cV w01, cV w02], oA w01 99 Y9u 1 p0.servers, oA w02 115 Y9c 5 p0.letters]) := by
 refine Ok.of_body (rs := [.tmp 6]) Tryz.func216 rfl rfl rfl rfl rfl fun X => ?_
 unfold Zgq at h
 refine AW.seq ?_
 refine AW.region ?_
 refine Ops.v rfl (Yr rfl rfl) ?_
 refine Ops.nil ?_
 refine AW.seq ?_
 refine AW.cut (τ := Bool) (fun x7 => ⟨[(6, C.bool x7)], [oB b00 124 [cV w01, cV w02], oA w01 99 Y9u 1 p0.servers, oA w02 115 Y9c 5 p0.letters]⟩) (fun x7 => Zgp x7 = some r) ?_ ?_
 ·
  refine zw ?_
  refine ob' h fun r1 g2 h => ?_
  refine Ops.hd (ns := [0, 0, 0]) rfl rfl (Y24 (Zgo p0 p1 _ g2) rfl rfl) ?_
  refine zw ?_
  refine cnd h (fun hb3 h => ?_) fun hb3 h => ?_
  ·
   refine zw ?_
   refine ob' h fun r4 g5 h => ?_
   refine Ops.ghd (ns := [0, 0, 0]) rfl rfl rfl rfl hb3 rfl (Y24 (Zgo p0 p2 _ g5) rfl rfl) ?_
   exact go
  exact go
 intro x7 h
 replace h : Zgp x7 = some r := h
 unfold Zgp at h
 refine AW.ret ?_
 rw [← Wj h]
 exact ⟨[C.bool x7], _, Y21.refl _, (.cons (.tmp rfl) .nil), [0, 0, 0], _, _, rfl, ⟨rfl, rfl⟩⟩

def Zgs (x16 : Bool) : Option Bool := some x16
def Zgt (p0 : Y8y) (q0 : TNet) : Option Bool := cond (p0.kind != 1) (cond (p0.kind != 2) (Zgs true) ((Zgq q0 p0.from_ p0.to_).bind fun r4 => cond r4 ((Z8s p0.room).bind fun r7 => cond r7 (Zgs (decide ((p0.text.size : Int) > 8000))) (Zgs true)) (Zgs true))) ((Zgq q0 p0.from_ p0.to_).bind fun r10 => cond r10 ((Z8s p0.room).bind fun r13 => cond r13 (Zgs (decide ((p0.text.size : Int) > 8000))) (Zgs true)) (Zgs true))
theorem Zgu {b00 : Nat} {b01 : Nat} {w02 : Value} {w03 : Value} (p0 : Y8y) (q0 : TNet) (r : Bool) (h : Zgt p0 q0 = some r) : Ok Tryz.prog 215 [C.agg [cI p0.kind, cI p0.from_, cI p0.to_, cI p0.room, C.str p0.text], pt b00] [oB b00 118 [pt b01], oB b01 124 [cV w02, cV w03], oA w02 99 Y9u 1 q0.servers, oA w03 115 Y9c 5 q0.letters] (fun c qs => c = C.bool r ∧ qs = [oB b00 118 [pt b01], oB b01 124 [cV w02, cV w03], oA w02 99 Y9u 1 q0.servers, oA w03 115 Y9c 5 q0.letters]) := by
 refine Ok.of_body (rs := [.tmp 3]) Tryz.func215 rfl rfl rfl rfl rfl fun X => ?_
 unfold Zgt at h
 refine zw ?_
 refine ox fun b1 => ?_
 refine Ops.v rfl (Yr rfl rfl) ?_
 refine Ops.nil ?_
 refine AW.seq ?_
 refine AW.cut (τ := Bool) (fun x16 => ⟨[(3, C.bool x16)], [oB b00 118 [pt b01], oB b01 124 [cV w02, cV w03], oA w02 99 Y9u 1 q0.servers, oA w03 115 Y9c 5 q0.letters]⟩) (fun x16 => Zgs x16 = some r) ?_ ?_
 ·
  refine zw ?_
  refine cnd h (fun hb2 h => ?_) fun hb2 h => ?_
  ·
   refine zw ?_
   refine cnd h (fun hb3 h => ?_) fun hb3 h => ?_
   ·
    refine zw ?_
    exact ⟨true, h, Y21.both (ns := [1, 1, 1, 1]) rfl rfl⟩
   refine zw ?_
   refine ob' h fun r4 g5 h => ?_
   refine Ops.ghd (ns := [2, 2, 2]) rfl rfl rfl rfl hb3 rfl (Y24 (Zgr q0 p0.from_ p0.to_ _ g5) rfl rfl) ?_
   refine zw ?_
   refine cnd h (fun hb6 h => ?_) fun hb6 h => ?_
   ·
    refine zw ?_
    refine ob' h fun r7 g8 h => ?_
    refine Ops.ghd (ns := []) rfl rfl rfl rfl (Y3u hb6) rfl (Y24 ((Z8t _).h _ g8) rfl rfl) ?_
    refine zw ?_
    refine cnd h (fun hb9 h => ?_) fun hb9 h => ?_
    ·
     refine zw ?_
     exact ⟨decide ((p0.text.size : Int) > 8000), h, Y21.both (ns := [4, 0, 0, 0]) rfl rfl⟩
    refine zw ?_
    exact ⟨true, h, Y21.both (ns := [4, 0, 0, 0]) rfl rfl⟩
   refine zw ?_
   exact ⟨true, h, Y21.both (ns := [4, 0, 0, 0]) rfl rfl⟩
  refine zw ?_
  refine ob' h fun r10 g11 h => ?_
  refine Ops.ghd (ns := [2, 2, 2]) rfl rfl rfl rfl rfl rfl (Y24 (Zgr q0 p0.from_ p0.to_ _ g11) rfl rfl) ?_
  refine zw ?_
  refine cnd h (fun hb12 h => ?_) fun hb12 h => ?_
  ·
   refine zw ?_
   refine ob' h fun r13 g14 h => ?_
   refine Ops.ghd (ns := []) rfl rfl rfl rfl (Y3u hb12) rfl (Y24 ((Z8t _).h _ g14) rfl rfl) ?_
   refine zw ?_
   refine cnd h (fun hb15 h => ?_) fun hb15 h => ?_
   ·
    refine zw ?_
    exact ⟨decide ((p0.text.size : Int) > 8000), h, Y21.both (ns := [4, 0, 0, 0]) rfl rfl⟩
   refine zw ?_
   exact ⟨true, h, Y21.both (ns := [4, 0, 0, 0]) rfl rfl⟩
  refine zw ?_
  exact ⟨true, h, Y21.both (ns := [4, 0, 0, 0]) rfl rfl⟩
 intro x16 h
 replace h : Zgs x16 = some r := h
 unfold Zgs at h
 refine AW.ret ?_
 rw [← Wj h]
 exact ⟨[C.bool x16], _, Y21.refl _, (.cons (.tmp rfl) .nil), [0, 0, 0, 0], _, _, rfl, ⟨rfl, rfl⟩⟩

def Zgv : Option Int := some (-1)
def Zgw (p0 : List Y8y) (p1_0 : TNet) (x7 : Int) : Option (Int ⊕ (Int ⊕ Unit)) := cond (decide (x7 < (p0.length : Int))) ((getI p0 x7).bind fun e9 => (Zgt e9 p1_0).bind fun r11 => cond r11 (some (.inr (.inl x7))) (some (.inl (IntKind.i64.wrap (x7 + 1))))) (some (.inr (.inr ())))
def Zgx (p0 : List Y8y) (p1_0 : TNet) : Option Int := (iter (Zgw p0 p1_0) big 0).bind (fun z15 => match z15 with | .inl y14 => some y14 | .inr () => Zgv)
theorem Zgy {b00 : Nat} {b01 : Nat} {w02 : Value} {w03 : Value} (p0 : List Y8y) (p1_0 : TNet) (r : Int) (h : Zgx p0 p1_0 = some r) : Ok Tryz.prog 259 [cM Y9c 5 p0, C.clo 215 [pt b00]] [oB b00 118 [pt b01], oB b01 124 [cV w02, cV w03], oA w02 99 Y9u 1 p1_0.servers, oA w03 115 Y9c 5 p1_0.letters] (fun c qs => c = cI r ∧ qs = [oB b00 118 [pt b01], oB b01 124 [cV w02, cV w03], oA w02 99 Y9u 1 p1_0.servers, oA w03 115 Y9c 5 p1_0.letters]) := by
 refine Ok.of_body (rs := [.tmp 4]) Tryz.func259 rfl rfl rfl rfl rfl fun X => ?_
 unfold Zgx at h
 refine AW.seq ?_
 refine AW.region ?_
 refine Ops.v rfl (Yr rfl rfl) ?_
 refine Ops.nil ?_
 refine AW.seq ?_
 refine AW.cut (τ := Unit) (fun (_ : Unit) => ⟨[], [oB b00 118 [pt b01], oB b01 124 [cV w02, cV w03], oA w02 99 Y9u 1 p1_0.servers, oA w03 115 Y9c 5 p1_0.letters]⟩) (fun (_ : Unit) => Zgv = some r) ?_ ?_
 ·
  refine zw ?_
  refine AW.lp (v := ()) h (fun x7 (_ : Unit) => ⟨[(0, cM Y9c 5 p0), (1, C.clo 215 [pt b00]), (7, cI (p0.length : Int)), (8, cI x7)], [oB b00 118 [pt b01], oB b01 124 [cV w02, cV w03], oA w02 99 Y9u 1 p1_0.servers, oA w03 115 Y9c 5 p1_0.letters]⟩) (gb [0, 0, 0, 0]) ?_
  rintro x7 _ y21 h
  refine zw ?_
  refine cnd h (fun hb8 h => ?_) fun hb8 h => ?_
  ·
   refine AW.ct hb8 rfl ?_
   refine zw ?_
   refine oi h fun e9 g10 h => ?_
   refine zw ?_
   refine ob' h fun r11 g12 h => ?_
   refine Ops.hd (ns := [0, 0, 0, 0]) rfl rfl (Y6s (cs := [_]) (ds := [_]) rfl (Zgu e9 p1_0 _ g12) rfl rfl) ?_
   refine zw ?_
   refine cnd h (fun hb13 h => ?_) fun hb13 h => ?_
   ·
    refine AW.ct hb13 rfl ?_
    refine zw ?_
    refine AW.ret ?_
    refine lx h fun h => ?_
    rw [← Wj h]
    exact ⟨[cI x7], _, Y21.refl _, (.cons (.tmp rfl) .nil), [0, 0, 0, 0], _, _, rfl, ⟨rfl, rfl⟩⟩
   refine AW.cf hb13 rfl ?_
   refine zw ?_
   exact lu h (gb [0, 0, 0, 0])
  refine AW.cf hb8 rfl ?_
  refine AW.exit ?_
  refine lx h fun h => ?_
  exact ⟨(), h, Y21.both (ns := [0, 0, 0, 0]) rfl rfl⟩
 rintro ⟨⟩ h
 replace h : Zgv = some r := h
 unfold Zgv at h
 refine zw ?_
 refine AW.ret ?_
 rw [← Wj h]
 exact ⟨[cI (-1)], _, Y21.refl _, (.cons (.tmp rfl) .nil), [0, 0, 0, 0], _, _, rfl, ⟨rfl, rfl⟩⟩

def Zgz (p0 : List Y8y) (p1_0 : TNet) : Option Bool := (Zgx p0 p1_0).bind fun r1 => some (decide (r1 ≥ 0))
theorem Zh0 {b00 : Nat} {b01 : Nat} {w02 : Value} {w03 : Value} (p0 : List Y8y) (p1_0 : TNet) (r : Bool) (h : Zgz p0 p1_0 = some r) : Ok Tryz.prog 214 [cM Y9c 5 p0, C.clo 215 [pt b00]] [oB b00 118 [pt b01], oB b01 124 [cV w02, cV w03], oA w02 99 Y9u 1 p1_0.servers, oA w03 115 Y9c 5 p1_0.letters] (fun c qs => c = C.bool r ∧ qs = [oB b00 118 [pt b01], oB b01 124 [cV w02, cV w03], oA w02 99 Y9u 1 p1_0.servers, oA w03 115 Y9c 5 p1_0.letters]) := by
 refine Ok.of_body (rs := [.tmp 4]) Tryz.func214 rfl rfl rfl rfl rfl fun X => ?_
 unfold Zgz at h
 refine zw ?_
 refine ob' h fun r1 g2 h => ?_
 refine Ops.hd (ns := [0, 0, 0, 0]) rfl rfl (Y24 (Zgy p0 p1_0 _ g2) rfl rfl) ?_
 refine zw ?_
 refine AW.ret ?_
 rw [← Wj h]
 exact ⟨[C.bool (decide (r1 ≥ 0))], _, Y21.refl _, (.cons (.tmp rfl) .nil), [0, 0, 0, 0], _, _, rfl, ⟨rfl, rfl⟩⟩

def Zh1 (r2 : List Y8y) (l54 : List Y98) (x61 : Bool) : Option (TNet × Bool) := cond x61 (some ((TNet.mk l54 r2), x61)) (some ((TNet.mk [] []), x61))
def Zh2 (p0 : Y92) (r2 : List Y8y) (l54 : List Y98) : Option (TNet × Bool) := (Zgz p0.letters (TNet.mk l54 r2)).bind fun r55 => (Z8q (p0.hubs.length : Int) 1 4).bind fun r57 => cond r57 (cond (decide ((p0.letters.length : Int) ≤ 60)) (Zh1 r2 l54 (!r55)) (Zh1 r2 l54 false)) (Zh1 r2 l54 false)
def Zh3 (p0 : Y92) (l32 : List Y98) (x33 : Int) : Option ((List Y98 × Int) ⊕ ((TNet × Bool) ⊕ (List Y98))) := cond (decide (x33 < (p0.hubs.length : Int))) ((getI p0.hubs x33).bind fun e35 => (Zgl e35).bind fun r38 => cond r38.2 ((chk (decide ((l32.length + [r38.1].length) * 8 ≤ 140737488355328))).bind fun u50 => some (.inl ((l32 ++ [r38.1]), (IntKind.i64.wrap (x33 + 1))))) (some (.inr (.inl ((TNet.mk [] []), false))))) (some (.inr (.inr l32)))
def Zh4 (p0 : Y92) : Option (TNet × Bool) := (Z8n p0.letters).bind fun r2 => (iter (fun z66 => Zh3 p0 z66.1 z66.2) big ([], 0)).bind (fun z69 => match z69 with | .inl y67 => some y67 | .inr y68 => Zh2 p0 r2 y68)
theorem Zh5 (p0 : Y92) (r : TNet × Bool) (h : Zh4 p0 = some r) : Ok Tryz.prog 151 [C.agg [cM Y9i 2 p0.hubs, cM Y9c 5 p0.letters]] [] (fun c qs => (r.2 = true ∧ ∃ (b63 : Nat) (v64 : Value) (v65 : Value), c = C.tup [pt b63, C.bool r.2] ∧ qs = [oB b63 124 [cV v64, cV v65], oA v64 99 Y9u 1 r.1.servers, oA v65 115 Y9c 5 r.1.letters]) ∨ (r.2 = false ∧ c = C.tup [C.any, C.bool r.2] ∧ qs = [])) := by
 refine Ok.of_body (rs := [.tmp 2, .tmp 3]) Tryz.func151 rfl rfl rfl rfl rfl fun X => ?_
 unfold Zh4 at h
 refine zw ?_
 refine ox fun b1 => ?_
 refine zw ?_
 refine ob' h fun r2 g3 h => ?_
 refine Ops.h (ns := []) rfl rfl (Y23 (Z8o _ _ g3) rfl rfl) ?_
 rintro _ _ ⟨_, ⟨v4, rfl, rfl⟩, rfl⟩
 refine Ops.learn (Sim.arr_one (p := 0) rfl) fun n5 => ?_
 refine Ops.v rfl (Y38 (ds := [cV s0, cV v4]) Yew Yex (Y42 rfl rfl) (.one rfl (One.val n5) rfl rfl .nil) rfl) ?_
 refine ox fun b6 => ?_
 refine Ops.h (ns := []) rfl rfl (Y1p (cs := [cV (.pointer none)]) Yey (Y42 rfl rfl) rfl) ?_
 rintro _ _ ⟨b7, rfl, rfl⟩
 refine Ops.hd (ns := [0]) rfl rfl (Y1t (gs := [pt b6]) Yez.h rfl rfl (One.val rfl) rfl rfl) ?_
 refine Ops.nil ?_
 refine AW.seq ?_
 refine AW.cut (τ := List Y98 × Value) (fun (l54, v53) => ⟨[(1, pt b1), (4, pt b7)], [oB b1 47 [cM Y9i 2 p0.hubs, cM Y9c 5 p0.letters], oB b7 118 [pt b6], oB b6 124 [cV v53, cV v4], oA v53 99 Y9u 1 l54, oA v4 115 Y9c 5 r2]⟩) (fun (l54, v53) => Zh2 p0 r2 l54 = some r) ?_ ?_
 ·
  refine zw ?_
  refine AW.lp h (fun (l32, x33) (v31 : Value) => ⟨[(1, pt b1), (4, pt b7), (16, cM Y9i 2 p0.hubs), (17, cI (p0.hubs.length : Int)), (18, cI x33)], [oB b1 47 [cM Y9i 2 p0.hubs, cM Y9c 5 p0.letters], oB b7 118 [pt b6], oB b6 124 [cV v31, cV v4], oA v31 99 Y9u 1 l32, oA v4 115 Y9c 5 r2]⟩) ((Y21.nil 99 Y9u 1).trans (Y21.both (ns := [4, 1, 1, 0, 0]) rfl rfl)) ?_
  rintro ⟨l32, x33⟩ v31 y75 h
  refine zw ?_
  refine cnd h (fun hb34 h => ?_) fun hb34 h => ?_
  ·
   refine AW.ct hb34 rfl ?_
   refine zw ?_
   refine oi h fun e35 g36 h => ?_
   refine zw ?_
   refine Ops.h (ns := []) rfl rfl (Y1p (cs := [cV s0, cV s0]) Ybu (Y42 rfl rfl) rfl) ?_
   rintro _ _ ⟨b37, rfl, rfl⟩
   refine Ops.hd (ns := [0]) rfl rfl (Y1u (gs := [cM Y9f 3 e35.rooms, cM Y9b 2 e35.stream]) Ybz.h rfl rfl rfl rfl rfl) ?_
   refine zw ?_
   refine ob' h fun r38 g39 h => ?_
   refine Ops.h (ns := []) rfl rfl (Y23 (Zgm _ _ g39) rfl rfl) ?_
   rintro _ _ ⟨_, ⟨hb40, rfl, rfl⟩ | ⟨hb40, rfl, rfl⟩, rfl⟩
   ·
    replace h := Y3r hb40 h
    refine zw ?_
    refine AW.cond rfl (fun hn => absurd ((Y3u hb40).symm.trans hn) (by decide)) (fun _ => ?_)
    refine zw ?_
    refine rD [0,0,0,0,1] [0,1,4] [10] [1,5,8,12,17,20,26,30,32,36,43] ?_
    refine OpsD.v rfl rfl (Y1k (p := 2) Yez.h rfl rfl rfl rfl) ?_
    refine OpsD.v rfl rfl (Y1k (p := 2) Yez.h rfl rfl rfl rfl) ?_
    refine OpsD.v rfl rfl (Y14 rfl rfl) ?_
    refine OpsD.v rfl rfl (Y1b Yet.h rfl rfl) ?_
    refine OpsD.v rfl rfl (Y1k (p := 3) Yeu.h rfl rfl rfl rfl) ?_
    refine OpsD.v rfl rfl (Yq rfl rfl) ?_
    refine OpsD.one ?_
    refine Y3n.h (ns := []) rfl rfl rfl (Y39 (k := Y9u) (ys := [r38.1]) Yf0 (.one rfl One.ip rfl rfl .nil) rfl rfl rfl) ?_
    rintro _ _ ⟨b48, rfl, rfl⟩
    refine zw ?_
    refine ob' h fun u50 c49 h => ?_
    refine Y3n.h (ns := [1, 0]) rfl rfl rfl (Y2s Yf0 rfl rfl (Wo (Y3t c49)) (Y3w (by decide) c49) rfl) ?_
    rintro _ _ ⟨v51, rfl, rfl⟩
    refine OpsD.v rfl rfl (Y14 rfl rfl) ?_
    refine OpsD.v rfl rfl (Y1b Yet.h rfl rfl) ?_
    refine OpsD.learn (Sim.arr_one (p := 5) rfl) fun n52 => ?_
    refine OpsD.late (ns := [3]) rfl rfl rfl (Y1t (gs := [cV v51, cV v4]) Yeu.h rfl rfl (One.val n52) rfl rfl) ?_
    rintro _ _ ⟨rfl, rfl⟩
    refine zw ?_
    exact le h (gb [2, 2, 0, 2, 1])
   replace h := Y3s hb40 h
   refine zw ?_
   refine AW.cond rfl (fun _ => ?_) (fun hn => absurd ((Y3v hb40).symm.trans hn) (by decide))
   refine zw ?_
   refine AW.ret ?_
   refine lx h fun h => ?_
   rw [← Wj h]
   exact ⟨[C.any, C.bool false], _, Y21.imp (t := 2) rfl (Imp.any _), (.cons (.tmp rfl) (.cons (.tmp rfl) .nil)), [], _, _, rfl, .inr ⟨rfl, rfl, rfl⟩⟩
  refine AW.cf hb34 rfl ?_
  refine AW.exit ?_
  refine lx h fun h => ?_
  exact ⟨(l32, v31), h, Y21.both (ns := [0, 0, 0, 0, 0]) rfl rfl⟩
 rintro ⟨l54, v53⟩ h
 replace h : Zh2 p0 r2 l54 = some r := h
 unfold Zh2 at h
 refine zw ?_
 refine Ops.v rfl (Y6q rfl rfl) ?_
 refine ob' h fun r55 g56 h => ?_
 refine Ops.hd (ns := [1, 1, 1, 1]) rfl rfl (Y24 (Zh0 p0.letters (TNet.mk l54 r2) _ g56) rfl rfl) ?_
 refine Ops.v rfl (Yr rfl rfl) ?_
 refine Ops.nil ?_
 refine AW.seq ?_
 refine AW.cut (τ := Bool) (fun x61 => ⟨[(2, pt b6), (3, C.bool x61)], [oB b6 124 [cV v53, cV v4], oA v53 99 Y9u 1 l54, oA v4 115 Y9c 5 r2]⟩) (fun x61 => Zh1 r2 l54 x61 = some r) ?_ ?_
 ·
  refine rD [0,0,0,0,0] [0,2,7] [] [1,4,9,12,18,20,24,29,32,36,40,44,48,52,56,60,64] ?_
  refine OpsD.v rfl rfl (Y1k (p := 0) Yez.h rfl rfl rfl rfl) ?_
  refine OpsD.v rfl rfl (Y1b Yck.h rfl rfl) ?_
  refine OpsD.v rfl rfl (Y1k (p := 4) Ycl.h rfl rfl rfl rfl) ?_
  refine zw ?_
  refine dc h fun r57 g58 h => ?_
  refine zw ?_
  refine cnd h (fun hb59 h => ?_) fun hb59 h => ?_
  ·
   refine OpsD.gv rfl rfl rfl rfl rfl hb59 (Y1b Ycm.h rfl rfl) ?_
   refine OpsD.gv rfl rfl rfl rfl rfl hb59 (Y1k (p := 4) Ycn.h rfl rfl rfl rfl) ?_
   exact go
  exact go
 intro x61 h
 replace h : Zh1 r2 l54 x61 = some r := h
 unfold Zh1 at h
 refine AW.ret ?_
 refine cnd h (fun hb62 h => ?_) fun hb62 h => ?_
 ·
  rw [← Wj h]
  exact ⟨[pt b6, C.bool x61], _, Y21.refl _, (.cons (.tmp rfl) (.cons (.tmp rfl) .nil)), [0, 0, 0], _, _, rfl, .inl ⟨hb62, b6, v53, v4, rfl, rfl⟩⟩
 rw [← Wj h]
 exact ⟨[C.any, C.bool x61], _, Y21.imp (t := 2) rfl (Imp.any _), (.cons (.tmp rfl) (.cons (.tmp rfl) .nil)), [], _, _, rfl, .inr ⟨hb62, rfl, rfl⟩⟩

def Zh6 (p0 : TNet) (p1 : Int) : Option Bool := (Z8q p1 0 (IntKind.i64.wrap ((p0.letters.length : Int) - 1))).bind fun r1 => some r1
theorem Zh7 {b00 : Nat} {w01 : Value} {w02 : Value} (p0 : TNet) (p1 : Int) (r : Bool) (h : Zh6 p0 p1 = some r) : Ok Tryz.prog 152 [pt b00, cI p1] [oB b00 124 [cV w01, cV w02], oA w01 99 Y9u 1 p0.servers, oA w02 115 Y9c 5 p0.letters] (fun c qs => c = C.bool r ∧ qs = [oB b00 124 [cV w01, cV w02], oA w01 99 Y9u 1 p0.servers, oA w02 115 Y9c 5 p0.letters]) := by
 refine Ok.of_body (rs := [.tmp 4]) Tryz.func152 rfl rfl rfl rfl rfl fun X => ?_
 unfold Zh6 at h
 refine AW.seq ?_
 refine AW.region ?_
 refine Ops.v rfl (Yr rfl rfl) ?_
 refine Ops.nil ?_
 refine AW.seq ?_
 refine AW.region ?_
 refine Ops.v rfl (Yq rfl rfl) ?_
 refine Ops.v rfl (Yq rfl rfl) ?_
 refine Ops.v rfl (Y14 rfl rfl) ?_
 refine Ops.v rfl (Y1b Yf1.h rfl rfl) ?_
 refine Ops.v rfl (Y1k (p := 0) Ycn.h rfl rfl rfl rfl) ?_
 refine Ops.v rfl (Y2u (p := 2) Yci.h rfl rfl rfl) ?_
 refine zw ?_
 refine oc h fun r1 g2 h => ?_
 refine zw ?_
 refine AW.ret ?_
 rw [← Wj h]
 exact ⟨[C.bool r1], _, Y21.refl _, (.cons (.tmp rfl) .nil), [0, 0, 0], _, _, rfl, ⟨rfl, rfl⟩⟩

def Zh8 (p0 : Y92) (p1 : Int) : Option (TNet × Int) := (Zh4 p0).bind fun r2 => cond r2.2 ((Zh6 r2.1 p1).bind fun r8 => cond r8 (some (r2.1, 0)) (some ((TNet.mk [] []), 6))) (some ((TNet.mk [] []), 1))
theorem Zh9 (p0 : Y92) (p1 : Int) (r : TNet × Int) (h : Zh8 p0 p1 = some r) : Ok Tryz.prog 86 [C.agg [cM Y9i 2 p0.hubs, cM Y9c 5 p0.letters], cI p1] [] (fun c qs => ((r.2 != 0) = false ∧ ∃ (b11 : Nat) (v12 : Value) (v13 : Value), c = C.tup [pt b11, cI r.2] ∧ qs = [oB b11 124 [cV v12, cV v13], oA v12 99 Y9u 1 r.1.servers, oA v13 115 Y9c 5 r.1.letters]) ∨ ((r.2 != 0) = true ∧ c = C.tup [C.any, cI r.2] ∧ qs = [])) := by
 refine Ok.of_body (rs := [.tmp 4, .tmp 5]) Tryz.func86 rfl rfl rfl rfl rfl fun X => ?_
 unfold Zh8 at h
 refine zw ?_
 refine ox fun b1 => ?_
 refine zw ?_
 refine ob' h fun r2 g3 h => ?_
 refine Ops.h (ns := []) rfl rfl (Y23 (Zh5 _ _ g3) rfl rfl) ?_
 rintro _ _ ⟨_, ⟨hb7, b4, v5, v6, rfl, rfl⟩ | ⟨hb7, rfl, rfl⟩, rfl⟩
 ·
  replace h := Y3r hb7 h
  refine zw ?_
  refine AW.cond rfl (fun hn => absurd ((Y3u hb7).symm.trans hn) (by decide)) (fun _ => ?_)
  refine zw ?_
  refine ob' h fun r8 g9 h => ?_
  refine Ops.hd (ns := [0, 0, 0]) rfl rfl (Y24 (Zh7 r2.1 p1 _ g9) rfl rfl) ?_
  refine zw ?_
  refine cnd h (fun hb10 h => ?_) fun hb10 h => ?_
  ·
   refine AW.cond rfl (fun hn => absurd ((Y3u hb10).symm.trans hn) (by decide)) (fun _ => ?_)
   refine zw ?_
   refine AW.ret ?_
   rw [← Wj h]
   exact ⟨[pt b4, cI 0], _, Y21.refl _, (.cons (.tmp rfl) (.cons (.tmp rfl) .nil)), [0, 0, 0], _, _, rfl, .inl ⟨rfl, b4, v5, v6, rfl, rfl⟩⟩
  refine AW.cond rfl (fun _ => ?_) (fun hn => absurd ((Y3v hb10).symm.trans hn) (by decide))
  refine zw ?_
  refine AW.ret ?_
  rw [← Wj h]
  exact ⟨[C.any, cI 6], _, Y21.imp (t := 4) rfl (Imp.any _), (.cons (.tmp rfl) (.cons (.tmp rfl) .nil)), [], _, _, rfl, .inr ⟨rfl, rfl, rfl⟩⟩
 replace h := Y3s hb7 h
 refine zw ?_
 refine AW.cond rfl (fun _ => ?_) (fun hn => absurd ((Y3v hb7).symm.trans hn) (by decide))
 refine zw ?_
 refine AW.ret ?_
 rw [← Wj h]
 exact ⟨[C.any, cI 1], _, Y21.imp (t := 4) rfl (Imp.any _), (.cons (.tmp rfl) (.cons (.tmp rfl) .nil)), [], _, _, rfl, .inr ⟨rfl, rfl, rfl⟩⟩

def Zha (p0 : List Y8x) : Option (List Y8x) := (chk (decide (p0.length * 16 ≤ 140737488355328))).bind fun _ => some p0
theorem Zhb (p0 : List Y8x) (r : List Y8x) (h : Zha p0 = some r) : Ok Tryz.prog 217 [cM Y9b 2 p0] [] (fun c qs => ∃ (v : Value), c = cV v ∧ qs = [oA v 142 Y9b 2 r]) := by
 refine ob' h fun u hc h => ?_
 obtain rfl := Wj h
 have hc := Wo (Y3t hc)
 refine Ok.of_body (rs := [.tmp 2]) Tryz.func217 rfl rfl rfl rfl rfl fun X => ?_
 refine zw ?_
 refine Ops.h (ns := []) rfl rfl (Y5m Ybt.h rfl rfl) ?_
 rintro _ _ ⟨b, hb, rfl, rfl⟩
 refine zw ?_
 refine tf' b (fun hq => ?_) (fun hq => ?_)
 ·
  refine AW.cond rfl (fun _ => ?_) (fun hn => absurd (hq.symm.trans hn) (by decide))
  refine zw ?_
  refine AW.ret ?_
  obtain rfl := hb hq
  exact ⟨[cV s0], _, Y21.nil 142 Y9b 2, .cons (.tmp rfl) .nil, [0], _, _, rfl, ⟨_, rfl, rfl⟩⟩
 refine AW.cond rfl (fun hn => absurd (hq.symm.trans hn) (by decide)) (fun _ => ?_)
 refine zw ?_
 refine Ops.h (ns := []) rfl rfl (Y39 (k := Y9b) (ys := ([] : List Y8x)) Ybr .nil rfl rfl rfl) ?_
 rintro _ _ ⟨b1, rfl, rfl⟩
 refine zw ?_
 refine Ops.h (ns := [0]) rfl rfl (Y2r Ybr rfl rfl (by simpa using hc) (by simp; omega) rfl) ?_
 rintro _ _ ⟨v, rfl, rfl⟩
 refine zw ?_
 refine AW.ret ?_
 exact ⟨[cV v], _, Y21.refl _, .cons (.tmp rfl) .nil, [0], _, _, rfl, ⟨v, rfl, rfl⟩⟩
instance Zhb' (p0 : List Y8x) : Sp Tryz.prog 217 [cM Y9b 2 p0] (Zha p0) (fun r => cM Y9b 2 r) := ⟨fun r h => Ok.freeze (Zhb p0 r h) (by rintro c qs ⟨v, rfl, rfl⟩; exact Frz.arr)⟩

def Zhc (p0 : Y8v) : Option Y8v := (Zfe p0.prev).bind fun r3 => some (Y8v.mk p0.id p0.room p0.author p0.kind p0.key p0.n p0.text r3 p0.time)
theorem Zhd (p0 : Y8v) (r : Y8v) (h : Zhc p0 = some r) : Ok Tryz.prog 169 [C.agg [cI p0.id, cI p0.room, cI p0.author, cI p0.kind, cI p0.key, cI p0.n, C.str p0.text, cM kI64 1 p0.prev, cI p0.time]] [] (fun c qs => ∃ (v7 : Value), c = C.agg [cI r.id, cI r.room, cI r.author, cI r.kind, cI r.key, cI r.n, C.str r.text, cV v7, cI r.time] ∧ qs = [oA v7 2 kI64 1 r.prev]) := by
 refine Ok.of_body (rs := [.cell 2 136]) Tryz.func169 rfl rfl rfl rfl rfl fun X => ?_
 unfold Zhc at h
 refine zw ?_
 refine ox fun b1 => ?_
 refine Ops.h (ns := []) rfl rfl (Y1p (cs := [cI 0, cI 0, cI 0, cI 0, cI 0, cI 0, C.str ByteArray.empty, cV s0, cI 0]) Yal (Y42 rfl rfl) rfl) ?_
 rintro _ _ ⟨b2, rfl, rfl⟩
 refine zw ?_
 refine ob' h fun r3 g4 h => ?_
 refine Ops.h (ns := []) rfl rfl (Y23 (Zff _ _ g4) rfl rfl) ?_
 rintro _ _ ⟨_, ⟨v5, rfl, rfl⟩, rfl⟩
 refine Ops.v rfl (Y1b Yaz.h rfl rfl) ?_
 refine Ops.learn (Sim.arr_one (p := 0) rfl) fun n6 => ?_
 refine Ops.hd (ns := [2]) rfl rfl (Y1t (gs := [cI p0.id, cI p0.room, cI p0.author, cI p0.kind, cI p0.key, cI p0.n, C.str p0.text, cV v5, cI p0.time]) Y9y.h rfl rfl (One.val n6) rfl rfl) ?_
 refine zw ?_
 refine Ops.hd (ns := [2]) rfl rfl (Y1u (gs := [cI p0.id, cI p0.room, cI p0.author, cI p0.kind, cI p0.key, cI p0.n, C.str p0.text, cV v5, cI p0.time]) Yb2.h rfl rfl rfl rfl rfl) ?_
 refine zw ?_
 refine AW.ret ?_
 rw [← Wj h]
 exact ⟨[C.agg [cI p0.id, cI p0.room, cI p0.author, cI p0.kind, cI p0.key, cI p0.n, C.str p0.text, cV v5, cI p0.time]], _, Y21.refl _, (.cons (.cell (p := 0) rfl rfl Yb2.h rfl) .nil), [2], _, _, rfl, ⟨v5, rfl, rfl⟩⟩
instance Zhd' (p0 : Y8v) : Sp Tryz.prog 169 [C.agg [cI p0.id, cI p0.room, cI p0.author, cI p0.kind, cI p0.key, cI p0.n, C.str p0.text, cM kI64 1 p0.prev, cI p0.time]] (Zhc p0) (fun r => C.agg [cI r.id, cI r.room, cI r.author, cI r.kind, cI r.key, cI r.n, C.str r.text, cM kI64 1 r.prev, cI r.time]) := ⟨fun r h => Ok.freeze (Zhd p0 r h) (by rintro c qs ⟨v7, rfl, rfl⟩; exact Frz.agg (fS (fS (fS (fS (fS (fS (fS (FrzL.cons (os := [_]) (Frz.arr) (fS (FrzL.nil)))))))))))⟩

def Zhe (l28 : List Y8v) : Option (List Y8v) := some l28
def Zhf (p0 : List Y8v) (l14 : List Y8v) (x15 : Int) : Option ((List Y8v × Int) ⊕ ((List Y8v))) := cond (decide (x15 < (p0.length : Int))) ((getI p0 x15).bind fun e17 => (Zhc e17).bind fun r20 => (chk (decide ((l14.length + [r20].length) * 96 ≤ 140737488355328))).bind fun u25 => some (.inl ((l14 ++ [r20]), (IntKind.i64.wrap (x15 + 1))))) (some (.inr l14))
def Zhg (p0 : List Y8v) : Option (List Y8v) := (iter (fun z30 => Zhf p0 z30.1 z30.2) big (([] : List Y8v), 0)).bind fun y31 => Zhe y31
theorem Zhh (p0 : List Y8v) (r : List Y8v) (h : Zhg p0 = some r) : Ok Tryz.prog 261 [cM Y99 9 p0] [] (fun c qs => ∃ (v29 : Value), c = cV v29 ∧ qs = [Obj.deep v29 136 Y9d Y9e 9 r]) := by
 refine Ok.of_body (rs := [.tmp 2]) Tryz.func261 rfl rfl rfl rfl rfl fun X => ?_
 unfold Zhg at h
 refine zw ?_
 refine Ops.h (ns := []) rfl rfl (Y8l (k := Y9d) (ob := Y9e) Yb3 rfl rfl rfl) ?_
 rintro _ _ ⟨b1, rfl, rfl⟩
 refine Ops.v rfl (Yr rfl rfl) ?_
 refine Ops.nil ?_
 refine AW.seq ?_
 refine AW.cut (τ := List Y8v × Value) (fun (l28, v27) => ⟨[(3, cV v27)], [Obj.deep v27 136 Y9d Y9e 9 l28]⟩) (fun (l28, v27) => Zhe l28 = some r) ?_ ?_
 ·
  refine zw ?_
  refine AW.lp h (fun (l14, x15) (v13 : Value) => ⟨[(3, cV v13), (7, cM Y99 9 p0), (8, cI (p0.length : Int)), (9, cI x15)], [Obj.deep v13 136 Y9d Y9e 9 l14]⟩) (gb [0]) ?_
  rintro ⟨l14, x15⟩ v13 y37 h
  refine zw ?_
  refine cnd h (fun hb16 h => ?_) fun hb16 h => ?_
  ·
   refine AW.ct hb16 rfl ?_
   refine zw ?_
   refine oi h fun e17 g18 h => ?_
   refine zw ?_
   refine Ops.h (ns := []) rfl rfl (Y1p (cs := [cI 0, cI 0, cI 0, cI 0, cI 0, cI 0, C.str ByteArray.empty, cV s0, cI 0]) Yal (Y42 rfl rfl) rfl) ?_
   rintro _ _ ⟨b19, rfl, rfl⟩
   refine Ops.hd (ns := [0]) rfl rfl (Y1u (gs := [cI e17.id, cI e17.room, cI e17.author, cI e17.kind, cI e17.key, cI e17.n, C.str e17.text, cM kI64 1 e17.prev, cI e17.time]) Yb2.h rfl rfl rfl rfl rfl) ?_
   refine zw ?_
   refine ob' h fun r20 g21 h => ?_
   refine Ops.h (ns := []) rfl rfl (Y23 (Zhd _ _ g21) rfl rfl) ?_
   rintro _ _ ⟨_, ⟨v22, rfl, rfl⟩, rfl⟩
   refine Ops.h (ns := [0]) rfl rfl (Y8k (k := Y9d) (ob := Y9e) (e := r20) (u := v22) Yb3 (.agg rfl rfl .nil) rfl rfl rfl) ?_
   rintro _ _ ⟨b23, rfl, rfl⟩
   refine ob' h fun u25 c24 h => ?_
   refine Ops.h (ns := [2, 0]) rfl rfl (Y8m Yb3 rfl rfl (Wo (Y3t c24)) (Y3w (by decide) c24) rfl) ?_
   rintro _ _ ⟨v26, rfl, rfl⟩
   exact go
  exact go
 rintro ⟨l28, v27⟩ h
 replace h : Zhe l28 = some r := h
 unfold Zhe at h
 refine zw ?_
 refine AW.ret ?_
 rw [← Wj h]
 exact ⟨[cV v27], _, Y21.refl _, (.cons (.tmp rfl) .nil), [0], _, _, rfl, ⟨v27, rfl, rfl⟩⟩
instance Zhh' (p0 : List Y8v) : Sp Tryz.prog 261 [cM Y99 9 p0] (Zhg p0) (fun r => cM Y99 9 r) := ⟨fun r h => Ok.freeze (Zhh p0 r h) (by rintro c qs ⟨v29, rfl, rfl⟩; exact (Frz.deep Yb5))⟩

def Zhi (p0 : Y90) : Option Y90 := (Zhg p0.events).bind fun r3 => (Zhg p0.parked).bind fun r6 => some (Y90.mk p0.room r3 r6)
theorem Zhj (p0 : Y90) (r : Y90) (h : Zhi p0 = some r) : Ok Tryz.prog 218 [C.agg [cI p0.room, cM Y99 9 p0.events, cM Y99 9 p0.parked]] [] (fun c qs => ∃ (v11 : Value) (v12 : Value), c = C.agg [cI r.room, cV v11, cV v12] ∧ qs = [Obj.deep v11 136 Y9d Y9e 9 r.events, Obj.deep v12 136 Y9d Y9e 9 r.parked]) := by
 refine Ok.of_body (rs := [.cell 2 139]) Tryz.func218 rfl rfl rfl rfl rfl fun X => ?_
 unfold Zhi at h
 refine zw ?_
 refine ox fun b1 => ?_
 refine Ops.h (ns := []) rfl rfl (Y1p (cs := [cI 0, cV s0, cV s0]) Yb9 (Y42 rfl rfl) rfl) ?_
 rintro _ _ ⟨b2, rfl, rfl⟩
 refine zw ?_
 refine rD [0,0] [1,3,6] [9] [0,5,8,13,20,25,18,30,32,39] ?_
 refine zw ?_
 refine ob' h fun r3 g4 h => ?_
 refine Y3n.h (ns := []) rfl rfl rfl (Y23 (Zhh _ _ g4) rfl rfl) ?_
 rintro _ _ ⟨_, ⟨v5, rfl, rfl⟩, rfl⟩
 refine zw ?_
 refine ob' h fun r6 g7 h => ?_
 refine Y3n.h (ns := []) rfl rfl rfl (Y23 (Zhh _ _ g7) rfl rfl) ?_
 rintro _ _ ⟨_, ⟨v8, rfl, rfl⟩, rfl⟩
 refine OpsD.learn (Sim.deep_one (p := 3) rfl) fun n9 => ?_
 refine OpsD.learn (Sim.deep_one (p := 2) rfl) fun n10 => ?_
 refine OpsD.v rfl rfl (Y38 (ds := [cI p0.room, cV v5, cV v8]) Ydw Yb9 (Y42 rfl rfl) (.one rfl (One.val rfl) rfl rfl (.one rfl (One.val n9) rfl rfl (.one rfl (One.val n10) rfl rfl .nil))) rfl) ?_
 refine OpsD.late (ns := [0]) rfl rfl rfl (Y1u (gs := [cI p0.room, cV v5, cV v8]) Ybf.h rfl rfl rfl rfl rfl) ?_
 rintro _ _ ⟨rfl, rfl⟩
 refine zw ?_
 refine AW.ret ?_
 rw [← Wj h]
 exact ⟨[C.agg [cI p0.room, cV v5, cV v8]], _, Y21.refl _, (.cons (.cell (p := 0) rfl rfl Ybf.h rfl) .nil), [3, 2], _, _, rfl, ⟨v5, v8, rfl, rfl⟩⟩
instance Zhj' (p0 : Y90) : Sp Tryz.prog 218 [C.agg [cI p0.room, cM Y99 9 p0.events, cM Y99 9 p0.parked]] (Zhi p0) (fun r => C.agg [cI r.room, cM Y99 9 r.events, cM Y99 9 r.parked]) := ⟨fun r h => Ok.freeze (Zhj p0 r h) (by rintro c qs ⟨v11, v12, rfl, rfl⟩; exact Frz.agg (fS (FrzL.cons (os := [_]) ((Frz.deep Yb5)) (FrzL.cons (os := [_]) ((Frz.deep Yb5)) (FrzL.nil)))))⟩

def Zhk (r3 : List Y8x) (l76 : List Y90) (l78 : List Y90) : Option Y91 := some (Y91.mk l78 r3)
def Zhl (p0 : Y91) (l48 : List Y90) (l50 : List Y90) (x51 : Int) : Option ((List Y90 × List Y90 × Int) ⊕ ((List Y90 × List Y90))) := cond (decide (x51 < (p0.rooms.length : Int))) ((getI p0.rooms x51).bind fun e53 => (Zhi e53).bind fun r67 => (chk (decide ((l50.length + [r67].length) * 56 ≤ 140737488355328))).bind fun u73 => some (.inl (l48, (l50 ++ [r67]), (IntKind.i64.wrap (x51 + 1))))) (some (.inr (l48, l50)))
def Zhm (p0 : Y91) : Option Y91 := (Zha p0.stream).bind fun r3 => (iter (fun z81 => Zhl p0 z81.1 z81.2.1 z81.2.2) big ([], [], 0)).bind fun (y82, y83) => Zhk r3 y82 y83
theorem Zhn (p0 : Y91) (r : Y91) (h : Zhm p0 = some r) : Ok Tryz.prog 153 [C.agg [cM Y9f 3 p0.rooms, cM Y9b 2 p0.stream]] [] (fun c qs => ∃ (v79 : Value) (v80 : Value), c = C.agg [cV v79, cV v80] ∧ qs = [Obj.deep v79 139 Y9g Y9h 3 r.rooms, oA v80 142 Y9b 2 r.stream]) := by
 refine Ok.of_body (rs := [.cell 2 32]) Tryz.func153 rfl rfl rfl rfl rfl fun X => ?_
 unfold Zhm at h
 refine zw ?_
 refine ox fun b1 => ?_
 refine Ops.h (ns := []) rfl rfl (Y1p (cs := [cV s0, cV s0]) Ybu (Y42 rfl rfl) rfl) ?_
 rintro _ _ ⟨b2, rfl, rfl⟩
 refine zw ?_
 refine ob' h fun r3 g4 h => ?_
 refine Ops.h (ns := []) rfl rfl (Y23 (Zhb _ _ g4) rfl rfl) ?_
 rintro _ _ ⟨_, ⟨v5, rfl, rfl⟩, rfl⟩
 refine Ops.learn (Sim.arr_one (p := 0) rfl) fun n6 => ?_
 refine Ops.v rfl (Y38 (ds := [cV s0, cV v5]) Ydx Ybu (Y42 rfl rfl) (.one rfl (One.val n6) rfl rfl .nil) rfl) ?_
 refine Ops.h (ns := []) rfl rfl (Y1p (cs := [cV s0, cV s0]) Ybu (Y42 rfl rfl) rfl) ?_
 rintro _ _ ⟨b7, rfl, rfl⟩
 refine Ops.hd (ns := [0]) rfl rfl (Y1u (gs := [cV s0, cV v5]) Ybz.h rfl rfl rfl rfl rfl) ?_
 refine Ops.nil ?_
 refine AW.seq ?_
 refine AW.cut (τ := List Y90 × List Y90 × Value) (fun (l76, l78, v77) => ⟨[(2, pt b2), (3, pt b7)], [oB b2 32 [cV s0, cV s0], Obj.deep s0 139 Y9g Y9h 3 l76, oB b7 32 [cV v77, cV v5], Obj.deep v77 139 Y9g Y9h 3 l78, oA v5 142 Y9b 2 r3]⟩) (fun (l76, l78, v77) => Zhk r3 l76 l78 = some r) ?_ ?_
 ·
  refine zw ?_
  refine AW.lp h (fun (l48, l50, x51) (v49 : Value) => ⟨[(2, pt b2), (3, pt b7), (11, cM Y9f 3 p0.rooms), (12, cI (p0.rooms.length : Int)), (13, cI x51)], [oB b2 32 [cV s0, cV s0], Obj.deep s0 139 Y9g Y9h 3 l48, oB b7 32 [cV v49, cV v5], Obj.deep v49 139 Y9g Y9h 3 l50, oA v5 142 Y9b 2 r3]⟩) ((Y21.nilD 139 Y9g Y9h 3).trans ((Y21.nilD 139 Y9g Y9h 3).trans (Y21.both (ns := [4, 0, 1, 0, 0]) rfl rfl))) ?_
  rintro ⟨l48, l50, x51⟩ v49 y89 h
  refine zw ?_
  refine cnd h (fun hb52 h => ?_) fun hb52 h => ?_
  ·
   refine AW.ct hb52 rfl ?_
   refine zw ?_
   refine oi h fun e53 g54 h => ?_
   refine zw ?_
   refine Ops.h (ns := []) rfl rfl (Y1p (cs := [cI 0, cV s0, cV s0]) Yb9 (Y42 rfl rfl) rfl) ?_
   rintro _ _ ⟨b55, rfl, rfl⟩
   refine Ops.hd (ns := [0]) rfl rfl (Y1u (gs := [cI e53.room, cM Y99 9 e53.events, cM Y99 9 e53.parked]) Ybf.h rfl rfl rfl rfl rfl) ?_
   refine zw ?_
   refine rD [0,0,0,0,1] [1,2] [7] [0,5,9,14,18,22,24,31] ?_
   refine zw ?_
   refine ob' h fun r67 g68 h => ?_
   refine Y3n.h (ns := []) rfl rfl rfl (Y23 (Zhj _ _ g68) rfl rfl) ?_
   rintro _ _ ⟨_, ⟨v69, v70, rfl, rfl⟩, rfl⟩
   refine OpsD.one ?_
   refine Y3n.h (ns := [0, 0]) rfl rfl rfl (Y8k (k := Y9g) (ob := Y9h) (e := r67) (u := (v69, v70)) Ybg (.agg rfl rfl .nil) rfl rfl rfl) ?_
   rintro _ _ ⟨b71, rfl, rfl⟩
   refine zw ?_
   refine ob' h fun u73 c72 h => ?_
   refine Y3n.h (ns := [1, 0]) rfl rfl rfl (Y8m Ybg rfl rfl (Wo (Y3t c72)) (Y3w (by decide) c72) rfl) ?_
   rintro _ _ ⟨v74, rfl, rfl⟩
   refine OpsD.v rfl rfl (Y1b Ybv.h rfl rfl) ?_
   refine OpsD.learn (Sim.deep_one (p := 5) rfl) fun n75 => ?_
   refine OpsD.late (ns := [3]) rfl rfl rfl (Y1t (gs := [cV v74, cV v5]) Ybw.h rfl rfl (One.val n75) rfl rfl) ?_
   rintro _ _ ⟨rfl, rfl⟩
   refine zw ?_
   exact le h (gb [2, 2, 0, 2, 1])
  refine AW.cf hb52 rfl ?_
  refine AW.exit ?_
  refine lx h fun h => ?_
  exact ⟨(l48, l50, v49), h, Y21.both (ns := [0, 0, 0, 0, 0]) rfl rfl⟩
 rintro ⟨l76, l78, v77⟩ h
 replace h : Zhk r3 l76 l78 = some r := h
 unfold Zhk at h
 refine zw ?_
 refine Ops.hd (ns := [0]) rfl rfl (Y1u (gs := [cV v77, cV v5]) Ybz.h rfl rfl rfl rfl rfl) ?_
 refine zw ?_
 refine AW.ret ?_
 rw [← Wj h]
 exact ⟨[C.agg [cV v77, cV v5]], _, Y21.refl _, (.cons (.cell (p := 0) rfl rfl Ybz.h rfl) .nil), [3, 3], _, _, rfl, ⟨v77, v5, rfl, rfl⟩⟩
instance Zhn' (p0 : Y91) : Sp Tryz.prog 153 [C.agg [cM Y9f 3 p0.rooms, cM Y9b 2 p0.stream]] (Zhm p0) (fun r => C.agg [cM Y9f 3 r.rooms, cM Y9b 2 r.stream]) := ⟨fun r h => Ok.freeze (Zhn p0 r h) (by rintro c qs ⟨v79, v80, rfl, rfl⟩; exact Frz.agg (FrzL.cons (os := [_]) ((Frz.deep Ybh)) (FrzL.cons (os := [_]) (Frz.arr) (FrzL.nil))))⟩

end Go.Proofs.YtbgichfjcnibpaaGreat
