/- Printed by gen.py: plain functions for Go functions, and that the walks keep to them. -/
import Derived.Test.YtbgichfjcnibpaaGreatTQ5
set_option autoImplicit false
set_option linter.unusedVariables false
set_option linter.unusedSimpArgs false
set_option maxHeartbeats 1000000
set_option maxRecDepth 100000
namespace Go.Proofs.YtbgichfjcnibpaaGreat
open Go Go.Abs
attribute [local irreducible] AW Ops OpsD Y3n
def Zeb (l205 : List Y94) : Option (List Y94) := some l205
def Zec (x194 : Int) (l204 : List Y94) : Option ((List Y94 × Int) ⊕ ((List Y94))) := some (.inl (l204, (IntKind.i64.wrap (x194 + 1))))
def Zed (p0 : Y99) (r176 : List Y8z) (l193 : List Y94) (x194 : Int) : Option ((List Y94 × Int) ⊕ ((List Y94))) := cond (decide (x194 < (r176.length : Int))) ((getI r176 x194).bind fun e196 => (Zdq p0.graph l193 e196).bind fun r199 => cond (r199 == 0) ((Zdz l193 (Y94.mk e196.kind e196.key e196.id)).bind fun r202 => Zec x194 r202) (Zec x194 l193)) (some (.inr l193))
def Zee (p0 : Y99) (l37 : List Y94) (l175 : List Y8z) : Option (List Y94) := (Y7w (fun z1 z2 => Ze9 z1 z2 p0) l175).bind fun r176 => (iter (fun z206 => Zed p0 r176 z206.1 z206.2) big (l37, 0)).bind fun y207 => Zeb y207
def Zef (x113 : Int) (l172 : List Y8z) (m173 : List (Int × Bool)) : Option ((List Y8z × (List (Int × Bool)) × Int) ⊕ ((List Y8z))) := some (.inl (l172, m173, (IntKind.i64.wrap (x113 + 1))))
def Zeg (x145 : Int) (l169 : List Y8z) (m170 : List (Int × Bool)) : Option ((List Y8z × (List (Int × Bool)) × Int) ⊕ ((List Y8z × (List (Int × Bool))))) := some (.inl (l169, m170, (IntKind.i64.wrap (x145 + 1))))
def Zeh (l143 : List Y8z) (m144 : List (Int × Bool)) (x145 : Int) (e147 : Y94) (x155 : Int) (x156 : Int) (x157 : Int) (x158 : Int) (x159 : Int) (x160 : Int) (x161 : ByteArray) (l162 : List Int) (x163 : Int) : Option ((List Y8z × (List (Int × Bool)) × Int) ⊕ ((List Y8z × (List (Int × Bool))))) := (chk (decide ((l143.length + [(Y8z.mk x155 x156 x157 x158 x159 x160 x161 l162 x163)].length) * 96 ≤ 140737488355328))).bind fun u166 => Zeg x145 (l143 ++ [(Y8z.mk x155 x156 x157 x158 x159 x160 x161 l162 x163)]) (mset m144 e147.id true)
def Zei (p0 : Y99) (e115 : List Y94) (l143 : List Y8z) (m144 : List (Int × Bool)) (x145 : Int) : Option ((List Y8z × (List (Int × Bool)) × Int) ⊕ ((List Y8z × (List (Int × Bool))))) := cond (decide (x145 < (e115.length : Int))) ((getI e115 x145).bind fun e147 => cond (Option.getD (mget m144 e147.id) false) (Zeg x145 l143 m144) ((Zc8 p0.graph e147.id).bind fun r151 => Zeh l143 m144 x145 e147 r151.1.id r151.1.room r151.1.author r151.1.kind r151.1.key r151.1.n r151.1.text r151.1.prev r151.1.time)) (some (.inr (l143, m144)))
def Zej (p0 : Y99) (p1 : List (List Y94)) (l111 : List Y8z) (m112 : List (Int × Bool)) (x113 : Int) : Option ((List Y8z × (List (Int × Bool)) × Int) ⊕ ((List Y8z))) := cond (decide (x113 < (p1.length : Int))) ((getI p1 x113).bind fun e115 => (iter (fun z208 => Zei p0 e115 z208.1 z208.2.1 z208.2.2) big (l111, m112, 0)).bind fun (y209, y210) => Zef x113 y209 y210) (some (.inr l111))
def Zek (p0 : Y99) (p1 : List (List Y94)) (l37 : List Y94) (m49 : List (Int × Bool)) : Option (List Y94) := (iter (fun z211 => Zej p0 p1 z211.1 z211.2.1 z211.2.2) big (([] : List Y8z), m49, 0)).bind fun y212 => Zee p0 l37 y212
def Zel (l37 : List Y94) (m43 : List (Int × Bool)) (x44 : Int) : Option (((List (Int × Bool)) × Int) ⊕ ((List (Int × Bool)))) := cond (decide (x44 < (l37.length : Int))) ((getI l37 x44).bind fun e46 => some (.inl ((mset m43 e46.id true), (IntKind.i64.wrap (x44 + 1))))) (some (.inr m43))
def Zem (p0 : Y99) (p1 : List (List Y94)) (l37 : List Y94) : Option (List Y94) := (iter (fun z213 => Zel l37 z213.1 z213.2) big (([] : List (Int × Bool)), 0)).bind fun y214 => Zek p0 p1 l37 y214
def Zen (x22 : Int) (l35 : List Y94) : Option ((List Y94 × Int) ⊕ ((List Y94))) := some (.inl (l35, (IntKind.i64.wrap (x22 + 1))))
def Zeo (p1 : List (List Y94)) (e5 : List Y94) (l21 : List Y94) (x22 : Int) : Option ((List Y94 × Int) ⊕ ((List Y94))) := cond (decide (x22 < (e5.length : Int))) ((getI e5 x22).bind fun e24 => (Ze7 p1 e24).bind fun r27 => cond r27 (Zen x22 l21) ((chk (decide ((l21.length + [e24].length) * 24 ≤ 140737488355328))).bind fun u32 => Zen x22 (l21 ++ [e24]))) (some (.inr l21))
def Zep (p0 : Y99) (p1 : List (List Y94)) : Option (List Y94) := cond (decide ((p1.length : Int) > 0)) ((getI p1 0).bind fun e5 => (iter (fun z215 => Zeo p1 e5 z215.1 z215.2) big (([] : List Y94), 0)).bind fun y216 => Zem p0 p1 y216) (Zem p0 p1 ([] : List Y94))
theorem Zeq {b00 : Nat} {b01 : Nat} {b02 : Nat} {b03 : Nat} {b04 : Nat} (p0 : Y99) (p1 : List (List Y94)) (r : List Y94) (h : Zep p0 p1 = some r) : Ok Tryz.prog 142 [pt b00, cM Y9k 1 p1] [oB b00 196 [cI p0.graph.room, cM Y9b 9 p0.graph.events, cM Y9b 9 p0.graph.parked, mt b01, mt b02, mt b03, mt b04], Abs.Obj.map b01 .i64 Y9p p0.depth, Abs.Obj.map b02 .i64 Y9q p0.before, Abs.Obj.map b03 .i64 Y9q p0.after, Abs.Obj.map b04 .i64 Y9p p0.refused] (fun c qs => c = cM Y9j 3 r ∧ qs = [oB b00 196 [cI p0.graph.room, cM Y9b 9 p0.graph.events, cM Y9b 9 p0.graph.parked, mt b01, mt b02, mt b03, mt b04], Abs.Obj.map b01 .i64 Y9p p0.depth, Abs.Obj.map b02 .i64 Y9q p0.before, Abs.Obj.map b03 .i64 Y9q p0.after, Abs.Obj.map b04 .i64 Y9p p0.refused]) := by
 refine Ok.of_body (rs := [.tmp 4]) Tryz.func142 rfl rfl rfl rfl rfl fun X => ?_
 unfold Zep at h
 refine zw ?_
 refine Ops.h (ns := []) rfl rfl (Y1q rfl (One.val rfl) rfl) ?_
 rintro _ _ ⟨b1, rfl, rfl⟩
 refine zw ?_
 refine Ops.h (ns := []) rfl rfl (Y39 (k := Y9j) (ys := ([] : List Y94)) Ybt .nil rfl rfl rfl) ?_
 rintro _ _ ⟨b2, rfl, rfl⟩
 refine Ops.h (ns := []) rfl rfl (Y39 (k := Y9b) (ys := ([] : List Y8z)) Yau .nil rfl rfl rfl) ?_
 rintro _ _ ⟨b3, rfl, rfl⟩
 refine Ops.v rfl (Yr rfl rfl) ?_
 refine Ops.v rfl (Yr rfl rfl) ?_
 refine Ops.nil ?_
 refine AW.seq ?_
 refine AW.cut (τ := List Y94 × Value) (fun (l37, v36) => ⟨[(1, cM Y9k 1 p1), (2, pt b1), (5, cV v36), (6, cV (sv b3 0 0))], [oB b1 186 [pt b00], oB b00 196 [cI p0.graph.room, cM Y9b 9 p0.graph.events, cM Y9b 9 p0.graph.parked, mt b01, mt b02, mt b03, mt b04], Abs.Obj.map b01 .i64 Y9p p0.depth, Abs.Obj.map b02 .i64 Y9q p0.before, Abs.Obj.map b03 .i64 Y9q p0.after, Abs.Obj.map b04 .i64 Y9p p0.refused, oA v36 106 Y9j 3 l37, oA (sv b3 0 0) 136 Y9b 9 ([] : List Y8z)]⟩) (fun (l37, v36) => Zem p0 p1 l37 = some r) ?_ ?_
 ·
  refine zw ?_
  refine cnd h (fun hb4 h => ?_) fun hb4 h => ?_
  ·
   refine AW.ct hb4 rfl ?_
   refine zw ?_
   refine oi h fun e5 g6 h => ?_
   refine zw ?_
   refine AW.lp h (fun (l21, x22) (v20 : Value) => ⟨[(1, cM Y9k 1 p1), (2, pt b1), (5, cV v20), (6, cV (sv b3 0 0)), (27, cM Y9j 3 e5), (28, cI (e5.length : Int)), (29, cI x22)], [oB b1 186 [pt b00], oB b00 196 [cI p0.graph.room, cM Y9b 9 p0.graph.events, cM Y9b 9 p0.graph.parked, mt b01, mt b02, mt b03, mt b04], Abs.Obj.map b01 .i64 Y9p p0.depth, Abs.Obj.map b02 .i64 Y9q p0.before, Abs.Obj.map b03 .i64 Y9q p0.after, Abs.Obj.map b04 .i64 Y9p p0.refused, oA v20 106 Y9j 3 l21, oA (sv b3 0 0) 136 Y9b 9 ([] : List Y8z)]⟩) (gb [2, 2, 2, 2, 2, 2, 1, 0]) ?_
   rintro ⟨l21, x22⟩ v20 y250 h
   refine zw ?_
   refine cnd h (fun hb23 h => ?_) fun hb23 h => ?_
   ·
    refine AW.ct hb23 rfl ?_
    refine AW.skip ?_
    refine AW.seq ?_
    refine AW.cut (τ := List Y94 × Value) (fun (l35, v34) => ⟨[(1, cM Y9k 1 p1), (2, pt b1), (5, cV v34), (6, cV (sv b3 0 0)), (27, cM Y9j 3 e5), (28, cI (e5.length : Int)), (29, cI x22)], [oB b1 186 [pt b00], oB b00 196 [cI p0.graph.room, cM Y9b 9 p0.graph.events, cM Y9b 9 p0.graph.parked, mt b01, mt b02, mt b03, mt b04], Abs.Obj.map b01 .i64 Y9p p0.depth, Abs.Obj.map b02 .i64 Y9q p0.before, Abs.Obj.map b03 .i64 Y9q p0.after, Abs.Obj.map b04 .i64 Y9p p0.refused, oA v34 106 Y9j 3 l35, oA (sv b3 0 0) 136 Y9b 9 ([] : List Y8z)]⟩) (fun (l35, v34) => Zen x22 l35 = some y250) ?_ ?_
    ·
     refine zw ?_
     refine oi h fun e24 g25 h => ?_
     refine zw ?_
     refine Ops.h (ns := []) rfl rfl (Y1p (cs := [cI 0, cI 0, cI 0]) Yc0 (Y42 rfl rfl) rfl) ?_
     rintro _ _ ⟨b26, rfl, rfl⟩
     refine Ops.hd (ns := [0]) rfl rfl (Y1u (gs := [cI e24.kind, cI e24.key, cI e24.id]) Ybu.h rfl rfl rfl rfl rfl) ?_
     refine zw ?_
     refine Ops.v rfl (Y6q rfl rfl) ?_
     refine ob' h fun r27 g28 h => ?_
     refine Ops.hd (ns := [0]) rfl rfl (Y24 (Ze8 p1 e24 _ g28) rfl rfl) ?_
     refine zw ?_
     refine cnd h (fun hb29 h => ?_) fun hb29 h => ?_
     ·
      refine AW.cond rfl (fun hn => absurd ((Y3u hb29).symm.trans hn) (by decide)) (fun _ => ?_)
      refine zw ?_
      exact ⟨(l21, v20), h, Y21.both (ns := [1, 1, 1, 1, 1, 1, 1, 1]) rfl rfl⟩
     refine AW.cond rfl (fun _ => ?_) (fun hn => absurd ((Y3v hb29).symm.trans hn) (by decide))
     refine zw ?_
     refine Ops.h (ns := []) rfl rfl (Y39 (k := Y9j) (ys := [e24]) Ybt (.agg rfl rfl .nil) rfl rfl rfl) ?_
     rintro _ _ ⟨b30, rfl, rfl⟩
     refine ob' h fun u32 c31 h => ?_
     refine Ops.h (ns := [8, 0]) rfl rfl (Y2s Ybt rfl rfl (Wo (Y3t c31)) (Y3w (by decide) c31) rfl) ?_
     rintro _ _ ⟨v33, rfl, rfl⟩
     refine zw ?_
     exact ⟨((l21 ++ [e24]), v33), h, Y21.both (ns := [2, 2, 2, 2, 2, 2, 0, 1]) rfl rfl⟩
    rintro ⟨l35, v34⟩ h
    replace h : Zen x22 l35 = some y250 := h
    unfold Zen at h
    refine zw ?_
    exact le h (gb [0, 0, 0, 0, 0, 0, 0, 0])
   refine AW.cf hb23 rfl ?_
   refine AW.exit ?_
   refine lx h fun h => ?_
   exact ⟨(l21, v20), h, Y21.both (ns := [0, 0, 0, 0, 0, 0, 0, 0]) rfl rfl⟩
  refine AW.cf hb4 rfl ?_
  refine zw ?_
  exact ⟨(([] : List Y94), (sv b2 0 0)), h, Y21.both (ns := [2, 2, 2, 2, 2, 2, 1, 0]) rfl rfl⟩
 rintro ⟨l37, v36⟩ h
 replace h : Zem p0 p1 l37 = some r := h
 unfold Zem at h
 refine zw ?_
 refine Ops.h (ns := []) rfl rfl (Y6j (kd := .i64) (kc := Y9r) rfl) ?_
 rintro _ _ ⟨b38, rfl, rfl⟩
 refine Ops.v rfl (Yr rfl rfl) ?_
 refine Ops.nil ?_
 refine AW.seq ?_
 refine AW.cut (τ := (List (Int × Bool))) (fun m49 => ⟨[(1, cM Y9k 1 p1), (2, pt b1), (5, cV v36), (6, cV (sv b3 0 0)), (9, mt b38)], [oB b1 186 [pt b00], oB b00 196 [cI p0.graph.room, cM Y9b 9 p0.graph.events, cM Y9b 9 p0.graph.parked, mt b01, mt b02, mt b03, mt b04], Abs.Obj.map b01 .i64 Y9p p0.depth, Abs.Obj.map b02 .i64 Y9q p0.before, Abs.Obj.map b03 .i64 Y9q p0.after, Abs.Obj.map b04 .i64 Y9p p0.refused, oA v36 106 Y9j 3 l37, oA (sv b3 0 0) 136 Y9b 9 ([] : List Y8z), Abs.Obj.map b38 .i64 Y9r m49]⟩) (fun m49 => Zek p0 p1 l37 m49 = some r) ?_ ?_
 ·
  refine AW.seq ?_
  refine AW.region ?_
  refine Ops.v rfl (Yq rfl rfl) ?_
  refine Ops.v rfl (Y2u (p := 7) Ybn.h rfl rfl rfl) ?_
  refine zw ?_
  refine AW.lp (v := ()) h (fun (m43, x44) (_ : Unit) => ⟨[(1, cM Y9k 1 p1), (2, pt b1), (5, cV v36), (6, cV (sv b3 0 0)), (9, mt b38), (43, cV v36), (44, cI (l37.length : Int)), (45, cI x44)], [oB b1 186 [pt b00], oB b00 196 [cI p0.graph.room, cM Y9b 9 p0.graph.events, cM Y9b 9 p0.graph.parked, mt b01, mt b02, mt b03, mt b04], Abs.Obj.map b01 .i64 Y9p p0.depth, Abs.Obj.map b02 .i64 Y9q p0.before, Abs.Obj.map b03 .i64 Y9q p0.after, Abs.Obj.map b04 .i64 Y9p p0.refused, oA v36 106 Y9j 3 l37, oA (sv b3 0 0) 136 Y9b 9 ([] : List Y8z), Abs.Obj.map b38 .i64 Y9r m43]⟩) (gb [1, 1, 1, 1, 1, 1, 1, 1, 0]) ?_
  rintro ⟨m43, x44⟩ _ y243 h
  refine zw ?_
  refine cnd h (fun hb45 h => ?_) fun hb45 h => ?_
  ·
   refine AW.ct hb45 rfl ?_
   refine zw ?_
   refine ob' h fun e46 g47 h => ?_
   refine Ops.v rfl (Y2x (p := 6) Ybn.h rfl rfl rfl g47 rfl) ?_
   refine Ops.v rfl (Y31 (p := 6) Ybu.h rfl rfl (Y29 g47).2.2 rfl rfl rfl) ?_
   refine Ops.h (ns := []) rfl rfl (Y1p (cs := [cI 0, cI 0, cI 0]) Yc0 (Y42 rfl rfl) rfl) ?_
   rintro _ _ ⟨b48, rfl, rfl⟩
   refine Ops.hd (ns := [0]) rfl rfl (Y1u (gs := [cI e46.kind, cI e46.key, cI e46.id]) Ybu.h rfl rfl rfl rfl rfl) ?_
   refine zw ?_
   refine Ops.hd (ns := [9]) rfl rfl (Y6m (kc := Y9r) (v := true) Ydc rfl rfl rfl rfl) ?_
   refine zw ?_
   exact lu h (gb [2, 2, 2, 2, 2, 2, 2, 2, 0])
  refine AW.cf hb45 rfl ?_
  refine AW.exit ?_
  refine lx h fun h => ?_
  exact ⟨m43, h, Y21.both (ns := [0, 0, 0, 0, 0, 0, 0, 0, 0]) rfl rfl⟩
 intro m49 h
 replace h : Zek p0 p1 l37 m49 = some r := h
 unfold Zek at h
 refine AW.seq ?_
 refine AW.cut (τ := List Y8z × Value) (fun (l175, v174) => ⟨[(2, pt b1), (5, cV v36), (6, cV v174)], [oB b1 186 [pt b00], oB b00 196 [cI p0.graph.room, cM Y9b 9 p0.graph.events, cM Y9b 9 p0.graph.parked, mt b01, mt b02, mt b03, mt b04], Abs.Obj.map b01 .i64 Y9p p0.depth, Abs.Obj.map b02 .i64 Y9q p0.before, Abs.Obj.map b03 .i64 Y9q p0.after, Abs.Obj.map b04 .i64 Y9p p0.refused, oA v36 106 Y9j 3 l37, oA v174 136 Y9b 9 l175]⟩) (fun (l175, v174) => Zee p0 l37 l175 = some r) ?_ ?_
 ·
  refine zw ?_
  refine AW.lp h (fun (l111, m112, x113) (v110 : Value) => ⟨[(2, pt b1), (5, cV v36), (6, cV v110), (9, mt b38), (53, cM Y9k 1 p1), (54, cI (p1.length : Int)), (55, cI x113)], [oB b1 186 [pt b00], oB b00 196 [cI p0.graph.room, cM Y9b 9 p0.graph.events, cM Y9b 9 p0.graph.parked, mt b01, mt b02, mt b03, mt b04], Abs.Obj.map b01 .i64 Y9p p0.depth, Abs.Obj.map b02 .i64 Y9q p0.before, Abs.Obj.map b03 .i64 Y9q p0.after, Abs.Obj.map b04 .i64 Y9p p0.refused, oA v36 106 Y9j 3 l37, oA v110 136 Y9b 9 l111, Abs.Obj.map b38 .i64 Y9r m112]⟩) (gb [0, 0, 0, 0, 0, 0, 0, 0, 0]) ?_
  rintro ⟨l111, m112, x113⟩ v110 y229 h
  refine zw ?_
  refine cnd h (fun hb114 h => ?_) fun hb114 h => ?_
  ·
   refine AW.ct hb114 rfl ?_
   refine AW.skip ?_
   refine AW.seq ?_
   refine AW.cut (τ := List Y8z × (List (Int × Bool)) × Value) (fun (l172, m173, v171) => ⟨[(2, pt b1), (5, cV v36), (6, cV v171), (9, mt b38), (53, cM Y9k 1 p1), (54, cI (p1.length : Int)), (55, cI x113)], [oB b1 186 [pt b00], oB b00 196 [cI p0.graph.room, cM Y9b 9 p0.graph.events, cM Y9b 9 p0.graph.parked, mt b01, mt b02, mt b03, mt b04], Abs.Obj.map b01 .i64 Y9p p0.depth, Abs.Obj.map b02 .i64 Y9q p0.before, Abs.Obj.map b03 .i64 Y9q p0.after, Abs.Obj.map b04 .i64 Y9p p0.refused, oA v36 106 Y9j 3 l37, oA v171 136 Y9b 9 l172, Abs.Obj.map b38 .i64 Y9r m173]⟩) (fun (l172, m173, v171) => Zef x113 l172 m173 = some y229) ?_ ?_
   ·
    refine zw ?_
    refine oi h fun e115 g116 h => ?_
    refine zw ?_
    refine AW.lp h (fun (l143, m144, x145) (v142 : Value) => ⟨[(2, pt b1), (5, cV v36), (6, cV v142), (9, mt b38), (53, cM Y9k 1 p1), (54, cI (p1.length : Int)), (55, cI x113), (59, cM Y9j 3 e115), (60, cI (e115.length : Int)), (61, cI x145)], [oB b1 186 [pt b00], oB b00 196 [cI p0.graph.room, cM Y9b 9 p0.graph.events, cM Y9b 9 p0.graph.parked, mt b01, mt b02, mt b03, mt b04], Abs.Obj.map b01 .i64 Y9p p0.depth, Abs.Obj.map b02 .i64 Y9q p0.before, Abs.Obj.map b03 .i64 Y9q p0.after, Abs.Obj.map b04 .i64 Y9p p0.refused, oA v36 106 Y9j 3 l37, oA v142 136 Y9b 9 l143, Abs.Obj.map b38 .i64 Y9r m144]⟩) (gb [0, 0, 0, 0, 0, 0, 0, 0, 0]) ?_
    rintro ⟨l143, m144, x145⟩ v142 y236 h
    refine zw ?_
    refine cnd h (fun hb146 h => ?_) fun hb146 h => ?_
    ·
     refine AW.ct hb146 rfl ?_
     refine AW.skip ?_
     refine AW.seq ?_
     refine AW.cut (τ := List Y8z × (List (Int × Bool)) × Value) (fun (l169, m170, v168) => ⟨[(2, pt b1), (5, cV v36), (6, cV v168), (9, mt b38), (53, cM Y9k 1 p1), (54, cI (p1.length : Int)), (55, cI x113), (59, cM Y9j 3 e115), (60, cI (e115.length : Int)), (61, cI x145)], [oB b1 186 [pt b00], oB b00 196 [cI p0.graph.room, cM Y9b 9 p0.graph.events, cM Y9b 9 p0.graph.parked, mt b01, mt b02, mt b03, mt b04], Abs.Obj.map b01 .i64 Y9p p0.depth, Abs.Obj.map b02 .i64 Y9q p0.before, Abs.Obj.map b03 .i64 Y9q p0.after, Abs.Obj.map b04 .i64 Y9p p0.refused, oA v36 106 Y9j 3 l37, oA v168 136 Y9b 9 l169, Abs.Obj.map b38 .i64 Y9r m170]⟩) (fun (l169, m170, v168) => Zeg x145 l169 m170 = some y236) ?_ ?_
     ·
      refine zw ?_
      refine oi h fun e147 g148 h => ?_
      refine zw ?_
      refine Ops.h (ns := []) rfl rfl (Y1p (cs := [cI 0, cI 0, cI 0]) Yc0 (Y42 rfl rfl) rfl) ?_
      rintro _ _ ⟨b149, rfl, rfl⟩
      refine Ops.hd (ns := [0]) rfl rfl (Y1u (gs := [cI e147.kind, cI e147.key, cI e147.id]) Ybu.h rfl rfl rfl rfl rfl) ?_
      refine zw ?_
      refine Ops.v rfl (Y6l (p := 9) (kc := Y9r) (z0 := false) Ydc zv_4 (fun _ _ => rfl) rfl rfl rfl rfl) ?_
      refine zw ?_
      refine cnd h (fun hb150 h => ?_) fun hb150 h => ?_
      ·
       refine AW.cond rfl (fun hn => absurd ((Y3u hb150).symm.trans hn) (by decide)) (fun _ => ?_)
       refine zw ?_
       exact ⟨(l143, m144, v142), h, Y21.both (ns := [1, 1, 1, 1, 1, 1, 1, 1, 1]) rfl rfl⟩
      refine AW.cond rfl (fun _ => ?_) (fun hn => absurd ((Y3v hb150).symm.trans hn) (by decide))
      refine zw ?_
      refine Ops.hd (ns := [9]) rfl rfl (Y6m (kc := Y9r) (v := true) Ydc rfl rfl rfl rfl) ?_
      refine Ops.nil ?_
      refine AW.seq ?_
      refine AW.cut (τ := Int × Int × Int × Int × Int × Int × ByteArray × List Int × Int × Nat) (fun (x155, x156, x157, x158, x159, x160, x161, l162, x163, b154) => ⟨[(2, pt b1), (5, cV v36), (6, cV v142), (9, mt b38), (16, pt b154), (53, cM Y9k 1 p1), (54, cI (p1.length : Int)), (55, cI x113), (59, cM Y9j 3 e115), (60, cI (e115.length : Int)), (61, cI x145)], [oB b1 186 [pt b00], oB b00 196 [cI p0.graph.room, cM Y9b 9 p0.graph.events, cM Y9b 9 p0.graph.parked, mt b01, mt b02, mt b03, mt b04], Abs.Obj.map b01 .i64 Y9p p0.depth, Abs.Obj.map b02 .i64 Y9q p0.before, Abs.Obj.map b03 .i64 Y9q p0.after, Abs.Obj.map b04 .i64 Y9p p0.refused, oA v36 106 Y9j 3 l37, oA v142 136 Y9b 9 l143, Abs.Obj.map b38 .i64 Y9r (mset m144 e147.id true), oB b154 136 [cI x155, cI x156, cI x157, cI x158, cI x159, cI x160, C.str x161, cM kI64 1 l162, cI x163]]⟩) (fun (x155, x156, x157, x158, x159, x160, x161, l162, x163, b154) => Zeh l143 m144 x145 e147 x155 x156 x157 x158 x159 x160 x161 l162 x163 = some y236) ?_ ?_
      ·
       refine AW.regionD (L := [0, 3, 5]) (Lt := [11]) (k := .light 0 true (.light 1 false (.light 2 false (.light 3 true (.light 4 false (.light 5 true (.two 6 10 (.light 7 false (.light 8 false (.light 9 false (.one 10 (.late 11 (.light 12 false .done)))))) (.one 6 (.light 7 false (.light 8 false (.light 9 false (.late 11 (.light 12 false .done))))))))))))) (ns := [0, 0, 0, 0, 0, 0, 0, 0, 0, 0]) (by kernel_rfl) (by kernel_rfl) (by kernel_rfl) (by kernel_rfl) rfl ?_
       refine OpsD.v rfl rfl (Y1k (p := 2) Ydd.h rfl rfl rfl rfl) ?_
       refine OpsD.v rfl rfl (Y14 rfl rfl) ?_
       refine OpsD.v rfl rfl (Y1b Yde.h rfl rfl) ?_
       refine OpsD.v rfl rfl (Y1l (p := 3) (ds := [cI p0.graph.room, cM Y9b 9 p0.graph.events, cM Y9b 9 p0.graph.parked]) Yb4.h rfl rfl rfl rfl rfl) ?_
       refine zw ?_
       refine ob' h fun r151 g152 h => ?_
       refine OpsD.two ?_ ?_
       ·
        refine Y3n.h (ns := []) rfl rfl rfl (Y24 ((Zc9 _ _).h _ g152) rfl rfl) ?_
        rintro _ _ ⟨rfl, rfl⟩
        refine OpsD.v rfl rfl (Yq rfl rfl) ?_
        refine OpsD.v rfl rfl (Y13 rfl rfl rfl) ?_
        refine OpsD.v rfl rfl (Y13 rfl rfl rfl) ?_
        refine OpsD.one ?_
        refine Y3n.h (ns := []) rfl rfl rfl (Y1p (cs := [cI 0, cI 0, cI 0, cI 0, cI 0, cI 0, C.str ByteArray.empty, cV s0, cI 0]) Yac (Y42 rfl rfl) rfl) ?_
        rintro _ _ ⟨b153, rfl, rfl⟩
        refine OpsD.late (ns := [10]) rfl rfl rfl (Y1u (gs := [cI r151.1.id, cI r151.1.room, cI r151.1.author, cI r151.1.kind, cI r151.1.key, cI r151.1.n, C.str r151.1.text, cM kI64 1 r151.1.prev, cI r151.1.time]) Yat.h rfl rfl rfl rfl rfl) ?_
        rintro _ _ ⟨rfl, rfl⟩
        refine zw ?_
        exact ⟨(r151.1.id, r151.1.room, r151.1.author, r151.1.kind, r151.1.key, r151.1.n, r151.1.text, r151.1.prev, r151.1.time, b153), h, Y21.both (ns := [3, 3, 3, 3, 3, 3, 3, 3, 1, 0]) rfl rfl⟩
       refine Y3n.h (ns := []) rfl rfl rfl (Y1p (cs := [cI 0, cI 0, cI 0, cI 0, cI 0, cI 0, C.str ByteArray.empty, cV s0, cI 0]) Yac (Y42 rfl rfl) rfl) ?_
       rintro _ _ ⟨b153, rfl, rfl⟩
       refine OpsD.one ?_
       refine Y3n.h (ns := []) rfl rfl rfl (Y24 ((Zc9 _ _).h _ g152) rfl rfl) ?_
       rintro _ _ ⟨rfl, rfl⟩
       refine zw ?_
       refine OpsD.late (ns := [10]) rfl rfl rfl (Y1u (gs := [cI r151.1.id, cI r151.1.room, cI r151.1.author, cI r151.1.kind, cI r151.1.key, cI r151.1.n, C.str r151.1.text, cM kI64 1 r151.1.prev, cI r151.1.time]) Yat.h rfl rfl rfl rfl rfl) ?_
       rintro _ _ ⟨rfl, rfl⟩
       refine zw ?_
       exact ⟨(r151.1.id, r151.1.room, r151.1.author, r151.1.kind, r151.1.key, r151.1.n, r151.1.text, r151.1.prev, r151.1.time, b153), h, Y21.both (ns := [3, 3, 3, 3, 3, 3, 3, 3, 1, 0]) rfl rfl⟩
      rintro ⟨x155, x156, x157, x158, x159, x160, x161, l162, x163, b154⟩ h
      replace h : Zeh l143 m144 x145 e147 x155 x156 x157 x158 x159 x160 x161 l162 x163 = some y236 := h
      unfold Zeh at h
      refine AW.region ?_
      refine Ops.v rfl (Yq rfl rfl) ?_
      refine Ops.v rfl (Y1l (p := 9) (ds := [cI x155, cI x156, cI x157, cI x158, cI x159, cI x160, C.str x161, cM kI64 1 l162, cI x163]) Yat.h rfl rfl rfl rfl rfl) ?_
      refine Ops.h (ns := []) rfl rfl (Y39 (k := Y9b) (ys := [(Y8z.mk x155 x156 x157 x158 x159 x160 x161 l162 x163)]) Yau (.agg rfl rfl .nil) rfl rfl rfl) ?_
      rintro _ _ ⟨b164, rfl, rfl⟩
      refine ob' h fun u166 c165 h => ?_
      refine Ops.h (ns := [8, 0]) rfl rfl (Y2s Yau rfl rfl (Wo (Y3t c165)) (Y3w (by decide) c165) rfl) ?_
      rintro _ _ ⟨v167, rfl, rfl⟩
      refine zw ?_
      exact ⟨((l143 ++ [(Y8z.mk x155 x156 x157 x158 x159 x160 x161 l162 x163)]), (mset m144 e147.id true), v167), h, Y21.both (ns := [1, 1, 1, 1, 1, 1, 1, 0, 0]) rfl rfl⟩
     rintro ⟨l169, m170, v168⟩ h
     replace h : Zeg x145 l169 m170 = some y236 := h
     unfold Zeg at h
     refine zw ?_
     exact le h (gb [0, 0, 0, 0, 0, 0, 0, 0, 0])
    refine AW.cf hb146 rfl ?_
    refine AW.exit ?_
    refine lx h fun h => ?_
    exact ⟨(l143, m144, v142), h, Y21.both (ns := [0, 0, 0, 0, 0, 0, 0, 0, 0]) rfl rfl⟩
   rintro ⟨l172, m173, v171⟩ h
   replace h : Zef x113 l172 m173 = some y229 := h
   unfold Zef at h
   refine zw ?_
   exact le h (gb [0, 0, 0, 0, 0, 0, 0, 0, 0])
  refine AW.cf hb114 rfl ?_
  refine AW.exit ?_
  refine lx h fun h => ?_
  exact ⟨(l111, v110), h, Y21.both (ns := [0, 0, 0, 0, 0, 0, 0, 0]) rfl rfl⟩
 rintro ⟨l175, v174⟩ h
 replace h : Zee p0 l37 l175 = some r := h
 unfold Zee at h
 refine zw ?_
 refine Ops.v rfl (Y6q rfl rfl) ?_
 refine ob' h fun r176 g177 h => ?_
 refine Ops.hd (ns := [7, 0, 0, 0, 0, 0, 0]) rfl rfl (Y87 (k := Y9b) Y8x rfl rfl (Y86.clo rfl) (FrzT.cons (os := [_,_,_,_,_,_]) (Frz.box (FrzL.cons (os := [_,_,_,_,_]) (Frz.box (fS (fS (fS (FrzL.cons (os := [_]) Frz.map (FrzL.cons (os := [_]) Frz.map (FrzL.cons (os := [_]) Frz.map (FrzL.cons (os := [_]) Frz.map FrzL.nil)))))))) FrzL.nil)) FrzT.nil) (fun z1 z2 r_ h_ => (Zea z1 z2 p0).h r_ h_) g177 rfl) ?_
 refine Ops.nil ?_
 refine AW.seq ?_
 refine AW.cut (τ := List Y94) (fun l205 => ⟨[(5, cM Y9j 3 l205)], [oB b00 196 [cI p0.graph.room, cM Y9b 9 p0.graph.events, cM Y9b 9 p0.graph.parked, mt b01, mt b02, mt b03, mt b04], Abs.Obj.map b01 .i64 Y9p p0.depth, Abs.Obj.map b02 .i64 Y9q p0.before, Abs.Obj.map b03 .i64 Y9q p0.after, Abs.Obj.map b04 .i64 Y9p p0.refused]⟩) (fun l205 => Zeb l205 = some r) ?_ ?_
 ·
  refine zw ?_
  refine AW.lp (v := ()) h (fun (l193, x194) (_ : Unit) => ⟨[(2, pt b1), (5, cM Y9j 3 l193), (92, cV v174), (93, cI (r176.length : Int)), (94, cI x194)], [oB b1 186 [pt b00], oB b00 196 [cI p0.graph.room, cM Y9b 9 p0.graph.events, cM Y9b 9 p0.graph.parked, mt b01, mt b02, mt b03, mt b04], Abs.Obj.map b01 .i64 Y9p p0.depth, Abs.Obj.map b02 .i64 Y9q p0.before, Abs.Obj.map b03 .i64 Y9q p0.after, Abs.Obj.map b04 .i64 Y9p p0.refused, oA v174 136 Y9b 9 r176]⟩) ((Y21.freeze (p := 7) (t := 5) rfl rfl).trans (Y21.both (ns := [1, 1, 1, 1, 1, 1, 0]) rfl rfl)) ?_
  rintro ⟨l193, x194⟩ _ y222 h
  refine zw ?_
  refine cnd h (fun hb195 h => ?_) fun hb195 h => ?_
  ·
   refine AW.ct hb195 rfl ?_
   refine AW.skip ?_
   refine AW.seq ?_
   refine AW.cut (τ := List Y94) (fun l204 => ⟨[(2, pt b1), (5, cM Y9j 3 l204), (92, cV v174), (93, cI (r176.length : Int)), (94, cI x194)], [oB b1 186 [pt b00], oB b00 196 [cI p0.graph.room, cM Y9b 9 p0.graph.events, cM Y9b 9 p0.graph.parked, mt b01, mt b02, mt b03, mt b04], Abs.Obj.map b01 .i64 Y9p p0.depth, Abs.Obj.map b02 .i64 Y9q p0.before, Abs.Obj.map b03 .i64 Y9q p0.after, Abs.Obj.map b04 .i64 Y9p p0.refused, oA v174 136 Y9b 9 r176]⟩) (fun l204 => Zec x194 l204 = some y222) ?_ ?_
   ·
    refine zw ?_
    refine ob' h fun e196 g197 h => ?_
    refine Ops.v rfl (Y2x (p := 6) Yax.h rfl rfl rfl g197 rfl) ?_
    refine Ops.v rfl (Y31 (p := 6) Yat.h rfl rfl (Y29 g197).2.2 rfl rfl rfl) ?_
    refine Ops.h (ns := []) rfl rfl (Y1p (cs := [cI 0, cI 0, cI 0, cI 0, cI 0, cI 0, C.str ByteArray.empty, cV s0, cI 0]) Yac (Y42 rfl rfl) rfl) ?_
    rintro _ _ ⟨b198, rfl, rfl⟩
    refine Ops.hd (ns := [0]) rfl rfl (Y1u (gs := [cI e196.id, cI e196.room, cI e196.author, cI e196.kind, cI e196.key, cI e196.n, C.str e196.text, cM kI64 1 e196.prev, cI e196.time]) Yat.h rfl rfl rfl rfl rfl) ?_
    refine zw ?_
    refine rD [0,0,0,0,0,0,0,0] [0,3,5] [] [1,4,8,13,16,21,26,28] ?_
    refine zw ?_
    refine dc h fun r199 g200 h => ?_
    refine zw ?_
    refine cnd h (fun hb201 h => ?_) fun hb201 h => ?_
    ·
     refine AW.ct hb201 rfl ?_
     refine zw ?_
     refine Ops.v rfl (Y38 (ds := [cI e196.kind, cI e196.key, cI e196.id]) Ybz Yc0 (Y42 rfl rfl) (.one rfl (One.val rfl) rfl rfl (.one rfl (One.val rfl) rfl rfl (.one rfl (One.val rfl) rfl rfl .nil))) rfl) ?_
     refine oc h fun r202 g203 h => ?_
     refine zw ?_
     exact ⟨r202, h, Y21.both (ns := [1, 1, 1, 1, 1, 1, 1]) rfl rfl⟩
    refine AW.cf hb201 rfl ?_
    refine zw ?_
    exact ⟨l193, h, Y21.both (ns := [1, 1, 1, 1, 1, 1, 1]) rfl rfl⟩
   intro l204 h
   replace h : Zec x194 l204 = some y222 := h
   unfold Zec at h
   refine zw ?_
   exact lu h (gb [0, 0, 0, 0, 0, 0, 0])
  refine AW.cf hb195 rfl ?_
  refine AW.exit ?_
  refine lx h fun h => ?_
  exact ⟨l193, h, Y21.both (ns := [1, 1, 1, 1, 1]) rfl rfl⟩
 intro l205 h
 replace h : Zeb l205 = some r := h
 unfold Zeb at h
 refine zw ?_
 refine AW.ret ?_
 rw [← Wj h]
 exact ⟨[cM Y9j 3 l205], _, Y21.refl _, (.cons (.tmp rfl) .nil), [0, 0, 0, 0, 0], _, _, rfl, ⟨rfl, rfl⟩⟩

def Zer (p0 : List Int) : Option (List Int) := (chk (decide (p0.length * 8 ≤ 140737488355328))).bind fun _ => some p0
theorem Zes (p0 : List Int) (r : List Int) (h : Zer p0 = some r) : Ok Tryz.prog 110 [cM kI64 1 p0] [] (fun c qs => ∃ (v : Value), c = cV v ∧ qs = [oA v 2 kI64 1 r]) := by
 refine ob' h fun u hc h => ?_
 obtain rfl := Wj h
 have hc := Wo (Y3t hc)
 refine Ok.of_body (rs := [.tmp 2]) Tryz.func110 rfl rfl rfl rfl rfl fun X => ?_
 refine zw ?_
 refine Ops.h (ns := []) rfl rfl (Y5m Y9v.h rfl rfl) ?_
 rintro _ _ ⟨b, hb, rfl, rfl⟩
 refine zw ?_
 refine tf' b (fun hq => ?_) (fun hq => ?_)
 ·
  refine AW.cond rfl (fun _ => ?_) (fun hn => absurd (hq.symm.trans hn) (by decide))
  refine zw ?_
  refine AW.ret ?_
  obtain rfl := hb hq
  exact ⟨[cV s0], _, Y21.nil 2 kI64 1, .cons (.tmp rfl) .nil, [0], _, _, rfl, ⟨_, rfl, rfl⟩⟩
 refine AW.cond rfl (fun hn => absurd (hq.symm.trans hn) (by decide)) (fun _ => ?_)
 refine zw ?_
 refine Ops.h (ns := []) rfl rfl (Y39 (k := kI64) (ys := ([] : List Int)) Yab .nil rfl rfl rfl) ?_
 rintro _ _ ⟨b1, rfl, rfl⟩
 refine zw ?_
 refine Ops.h (ns := [0]) rfl rfl (Y2r Yab rfl rfl (by simpa using hc) (by simp; omega) rfl) ?_
 rintro _ _ ⟨v, rfl, rfl⟩
 refine zw ?_
 refine AW.ret ?_
 exact ⟨[cV v], _, Y21.refl _, .cons (.tmp rfl) .nil, [0], _, _, rfl, ⟨v, rfl, rfl⟩⟩
instance Zes' (p0 : List Int) : Sp Tryz.prog 110 [cM kI64 1 p0] (Zer p0) (fun r => cM kI64 1 r) := ⟨fun r h => Ok.freeze (Zes p0 r h) (by rintro c qs ⟨v, rfl, rfl⟩; exact Frz.arr)⟩

def Zet : Option Bool := some false
def Zeu (x24 : Int) (m36 : List (Int × Bool)) (l38 : List Int) : Option (((List (Int × Bool)) × List Int × Int) ⊕ (Bool ⊕ Unit)) := some (.inl (m36, l38, (IntKind.i64.wrap (x24 + 1))))
def Zev (p0 : Y92) (p1 : Int) (m21 : List (Int × Bool)) (l23 : List Int) (x24 : Int) : Option (((List (Int × Bool)) × List Int × Int) ⊕ (Bool ⊕ Unit)) := cond (decide (x24 < (l23.length : Int))) ((getI l23 x24).bind fun e26 => cond (e26 == p1) (some (.inr (.inl true))) (cond (Option.getD (mget m21 e26) false) (Zeu x24 m21 l23) ((Zc8 p0 e26).bind fun r30 => (chk (decide ((l23.length + r30.1.prev.length) * 8 ≤ 140737488355328))).bind fun u34 => Zeu x24 (mset m21 e26 true) (l23 ++ r30.1.prev)))) (some (.inr (.inr ())))
def Zew (p0 : Y92) (p1 : Int) (p2 : Y8z) : Option Bool := (Zer p2.prev).bind fun r4 => (iter (fun z39 => Zev p0 p1 z39.1 z39.2.1 z39.2.2) big (([] : List (Int × Bool)), r4, 0)).bind (fun z41 => match z41 with | .inl y40 => some y40 | .inr () => Zet)
instance Zex (p0 : Y92) (p1 : Int) (p2 : Y8z) : Sp Tryz.prog 240 [C.agg [cI p0.room, cM Y9b 9 p0.events, cM Y9b 9 p0.parked], cI p1, C.agg [cI p2.id, cI p2.room, cI p2.author, cI p2.kind, cI p2.key, cI p2.n, C.str p2.text, cM kI64 1 p2.prev, cI p2.time]] (Zew p0 p1 p2) C.bool := sp Tryz.func240 rfl rfl fun r X h => by
 unfold Zew at h
 refine zw ?_
 refine ox fun b1 => ?_
 refine ox fun b2 => ?_
 refine zw ?_
 refine Ops.h (ns := []) rfl rfl (Y6j (kd := .i64) (kc := Y9r) rfl) ?_
 rintro _ _ ⟨b3, rfl, rfl⟩
 refine zw ?_
 refine ob' h fun r4 g5 h => ?_
 refine Ops.h (ns := []) rfl rfl (Y23 (Zes _ _ g5) rfl rfl) ?_
 rintro _ _ ⟨_, ⟨v6, rfl, rfl⟩, rfl⟩
 refine zw ?_
 refine AW.lp h (fun (m21, l23, x24) (v22 : Value) => ⟨[(1, cI p1), (3, pt b1), (7, mt b3), (8, cV v22), (9, cI x24)], [oB b1 139 [cI p0.room, cM Y9b 9 p0.events, cM Y9b 9 p0.parked], Abs.Obj.map b3 .i64 Y9r m21, oA v22 2 kI64 1 l23]⟩) (gb [3, 1, 0]) ?_
 rintro ⟨m21, l23, x24⟩ v22 y47 h
 refine AW.seq ?_
 refine AW.seq ?_
 refine AW.region ?_
 refine Ops.v rfl (Yq rfl rfl) ?_
 refine Ops.v rfl (Yq rfl rfl) ?_
 refine Ops.v rfl (Y2u (p := 2) Y9v.h rfl rfl rfl) ?_
 refine zw ?_
 refine cnd h (fun hb25 h => ?_) fun hb25 h => ?_
 ·
  refine AW.ct hb25 rfl ?_
  refine zw ?_
  refine ob' h fun e26 g27 h => ?_
  refine Ops.v rfl (Y2x (p := 2) Y9v.h rfl rfl rfl g27 rfl) ?_
  refine Ops.v rfl (Y30 (p := 2) ld_2.h rfl rfl (Y29 g27).2.2 rfl rfl) ?_
  refine zw ?_
  refine cnd h (fun hb28 h => go) fun hb28 h => ?_
  refine AW.cf hb28 rfl ?_
  refine zw ?_
  refine Ops.v rfl (Y6l (p := 1) (kc := Y9r) (z0 := false) Ydc zv_4 (fun _ _ => rfl) rfl rfl rfl rfl) ?_
  refine zw ?_
  refine cnd h (fun hb29 h => go) fun hb29 h => ?_
  refine AW.cond rfl (fun _ => ?_) (fun hn => absurd ((Y3v hb29).symm.trans hn) (by decide))
  refine zw ?_
  refine Ops.hd (ns := [1]) rfl rfl (Y6m (kc := Y9r) (v := true) Ydc rfl rfl rfl rfl) ?_
  refine zw ?_
  refine oc h fun r30 g31 h => ?_
  refine zw ?_
  refine Ops.h (ns := []) rfl rfl (Y1p (cs := [cI 0, cI 0, cI 0, cI 0, cI 0, cI 0, C.str ByteArray.empty, cV s0, cI 0]) Yac (Y42 rfl rfl) rfl) ?_
  rintro _ _ ⟨b32, rfl, rfl⟩
  refine Ops.hd (ns := [0]) rfl rfl (Y1u (gs := [cI r30.1.id, cI r30.1.room, cI r30.1.author, cI r30.1.kind, cI r30.1.key, cI r30.1.n, C.str r30.1.text, cM kI64 1 r30.1.prev, cI r30.1.time]) Yat.h rfl rfl rfl rfl rfl) ?_
  refine zw ?_
  refine ob' h fun u34 c33 h => ?_
  refine Ops.h (ns := [3]) rfl rfl (Y2r Yab rfl rfl (Wo (Y3t c33)) (Y3w (by decide) c33) rfl) ?_
  rintro _ _ ⟨v35, rfl, rfl⟩
  exact go
 exact go

def Zey (p0 : Y99) (p1 : Y8z) (r5 : List Y94) (x15 : Int) (x29 : Bool) : Option ((List (Int × List Y94)) × (List (Int × List Y94)) × (List (Int × Int))) := cond x29 ((Zdz r5 (Y94.mk p1.kind p1.key p1.id)).bind fun r31 => some ((mset p0.before p1.id r5), (mset (mset p0.after p1.id r5) p1.id r31), (mset p0.refused p1.id x15))) (some ((mset p0.before p1.id r5), (mset p0.after p1.id r5), (mset p0.refused p1.id x15)))
def Zez (p0 : Y99) (p1 : Y8z) (r5 : List Y94) (x15 : Int) : Option ((List (Int × List Y94)) × (List (Int × List Y94)) × (List (Int × Int))) := cond (x15 == 0) (Zey p0 p1 r5 x15 (decide (p1.kind ≤ 6))) (Zey p0 p1 r5 x15 false)
def Zf0 (p0 : Y99) (p1 : Y8z) (r5 : List Y94) (r7 : Int) (x13 : Bool) : Option ((List (Int × List Y94)) × (List (Int × List Y94)) × (List (Int × Int))) := cond x13 (Zez p0 p1 r5 6) (Zez p0 p1 r5 r7)
def Zf1 (p0 : Y99) (p1 : Y8z) : Option ((List (Int × List Y94)) × (List (Int × List Y94)) × (List (Int × Int))) := (Zcc p0 p1.prev).bind fun r2 => (Zep p0 r2).bind fun r5 => (Zdq p0.graph r5 p1).bind fun r7 => cond (r7 == 0) (cond (p1.kind == 8) ((Zew p0.graph p1.key p1).bind fun r11 => Zf0 p0 p1 r5 r7 (!r11)) (Zf0 p0 p1 r5 r7 false)) (Zf0 p0 p1 r5 r7 false)
theorem Zf2 {b00 : Nat} {b01 : Nat} {b02 : Nat} {b03 : Nat} {b04 : Nat} (p0 : Y99) (p1 : Y8z) (r : (List (Int × List Y94)) × (List (Int × List Y94)) × (List (Int × Int))) (h : Zf1 p0 p1 = some r) : Ok Tryz.prog 192 [pt b00, C.agg [cI p1.id, cI p1.room, cI p1.author, cI p1.kind, cI p1.key, cI p1.n, C.str p1.text, cM kI64 1 p1.prev, cI p1.time]] [oB b00 196 [cI p0.graph.room, cM Y9b 9 p0.graph.events, cM Y9b 9 p0.graph.parked, mt b01, mt b02, mt b03, mt b04], Abs.Obj.map b01 .i64 Y9p p0.depth, Abs.Obj.map b02 .i64 Y9q p0.before, Abs.Obj.map b03 .i64 Y9q p0.after, Abs.Obj.map b04 .i64 Y9p p0.refused] (fun c qs => c = C.tup [] ∧ qs = [oB b00 196 [cI p0.graph.room, cM Y9b 9 p0.graph.events, cM Y9b 9 p0.graph.parked, mt b01, mt b02, mt b03, mt b04], Abs.Obj.map b01 .i64 Y9p p0.depth, Abs.Obj.map b02 .i64 Y9q r.1, Abs.Obj.map b03 .i64 Y9q r.2.1, Abs.Obj.map b04 .i64 Y9p r.2.2]) := by
 refine Ok.of_body (rs := []) Tryz.func192 rfl rfl rfl rfl rfl fun X => ?_
 unfold Zf1 at h
 refine zw ?_
 refine ox fun b1 => ?_
 refine zw ?_
 refine ob' h fun r2 g3 h => ?_
 refine Ops.h (ns := [1, 1, 1, 1, 1]) rfl rfl (Y23 (Zcd p0 p1.prev _ g3) rfl rfl) ?_
 rintro _ _ ⟨_, ⟨v4, rfl, rfl⟩, rfl⟩
 refine ob' h fun r5 g6 h => ?_
 refine Ops.hd (ns := [0, 0, 0, 0, 0, 0]) rfl rfl (HOp.frz (t := 10) rfl Frz.arr (Y24 (Zeq p0 r2 _ g6) rfl rfl)) ?_
 refine zw ?_
 refine rD [0,0,0,0,0,0] [3,5] [] [0,4,8,13,16,21,26,28] ?_
 refine OpsD.v rfl rfl (Yq rfl rfl) ?_
 refine OpsD.v rfl rfl (Y14 rfl rfl) ?_
 refine OpsD.v rfl rfl (Y1b Yde.h rfl rfl) ?_
 refine OpsD.v rfl rfl (Y1l (p := 0) (ds := [cI p0.graph.room, cM Y9b 9 p0.graph.events, cM Y9b 9 p0.graph.parked]) Yb4.h rfl rfl rfl rfl rfl) ?_
 refine OpsD.v rfl rfl (Yq rfl rfl) ?_
 refine OpsD.v rfl rfl (Y1l (p := 5) (ds := [cI p1.id, cI p1.room, cI p1.author, cI p1.kind, cI p1.key, cI p1.n, C.str p1.text, cM kI64 1 p1.prev, cI p1.time]) Yat.h rfl rfl rfl rfl rfl) ?_
 refine zw ?_
 refine dc h fun r7 g8 h => ?_
 refine OpsD.v rfl rfl (Yr rfl rfl) ?_
 refine OpsD.done ?_
 refine AW.seq ?_
 refine AW.cut (τ := Int) (fun x15 => ⟨[(0, pt b00), (3, pt b1), (4, cM Y9j 3 r5), (5, cI x15)], [oB b00 196 [cI p0.graph.room, cM Y9b 9 p0.graph.events, cM Y9b 9 p0.graph.parked, mt b01, mt b02, mt b03, mt b04], Abs.Obj.map b01 .i64 Y9p p0.depth, Abs.Obj.map b02 .i64 Y9q p0.before, Abs.Obj.map b03 .i64 Y9q p0.after, Abs.Obj.map b04 .i64 Y9p p0.refused, oB b1 136 [cI p1.id, cI p1.room, cI p1.author, cI p1.kind, cI p1.key, cI p1.n, C.str p1.text, cM kI64 1 p1.prev, cI p1.time]]⟩) (fun x15 => Zez p0 p1 r5 x15 = some r) ?_ ?_
 ·
  refine AW.seq ?_
  refine AW.cut (τ := Bool) (fun x13 => ⟨[(0, pt b00), (3, pt b1), (4, cM Y9j 3 r5), (5, cI r7), (36, C.bool x13)], [oB b00 196 [cI p0.graph.room, cM Y9b 9 p0.graph.events, cM Y9b 9 p0.graph.parked, mt b01, mt b02, mt b03, mt b04], Abs.Obj.map b01 .i64 Y9p p0.depth, Abs.Obj.map b02 .i64 Y9q p0.before, Abs.Obj.map b03 .i64 Y9q p0.after, Abs.Obj.map b04 .i64 Y9p p0.refused, oB b1 136 [cI p1.id, cI p1.room, cI p1.author, cI p1.kind, cI p1.key, cI p1.n, C.str p1.text, cM kI64 1 p1.prev, cI p1.time]]⟩) (fun x13 => Zf0 p0 p1 r5 r7 x13 = some r) ?_ ?_
  ·
   refine rD [0,0,0,0,0,0] [4,11,13,14] [] [0,4,8,12,17,20,24,28,32,36,40,45,48,53,57,62,64,68] ?_
   refine zw ?_
   refine cnd h (fun hb9 h => ?_) fun hb9 h => ?_
   ·
    refine OpsD.gv rfl rfl rfl rfl rfl hb9 (Y1b Yak.h rfl rfl) ?_
    refine OpsD.gv rfl rfl rfl rfl rfl hb9 (Y1k (p := 5) ld_2.h rfl rfl rfl rfl) ?_
    refine zw ?_
    refine cnd h (fun hb10 h => ?_) fun hb10 h => ?_
    ·
     refine OpsD.gv rfl rfl rfl rfl rfl hb10 (Yq rfl rfl) ?_
     refine OpsD.gv rfl rfl rfl rfl rfl hb10 (Y14 rfl rfl) ?_
     refine OpsD.gv rfl rfl rfl rfl rfl hb10 (Y1b Yde.h rfl rfl) ?_
     refine OpsD.gv rfl rfl rfl rfl rfl hb10 (Y1l (p := 0) (ds := [cI p0.graph.room, cM Y9b 9 p0.graph.events, cM Y9b 9 p0.graph.parked]) Yb4.h rfl rfl rfl rfl rfl) ?_
     refine OpsD.gv rfl rfl rfl rfl rfl hb10 (Y1b Yam.h rfl rfl) ?_
     refine OpsD.gv rfl rfl rfl rfl rfl hb10 (Y1k (p := 5) ld_2.h rfl rfl rfl rfl) ?_
     refine OpsD.gv rfl rfl rfl rfl rfl hb10 (Y1l (p := 5) (ds := [cI p1.id, cI p1.room, cI p1.author, cI p1.kind, cI p1.key, cI p1.n, C.str p1.text, cM kI64 1 p1.prev, cI p1.time]) Yat.h rfl rfl rfl rfl rfl) ?_
     refine zw ?_
     refine ob' h fun r11 g12 h => ?_
     refine Y3n.gh (ns := []) rfl rfl rfl rfl rfl hb10 rfl (Y24 ((Zex _ _ _).h _ g12) rfl rfl) ?_
     rintro _ _ ⟨rfl, rfl⟩
     refine zw ?_
     exact ⟨(!r11), h, Y21.both (ns := [0, 0, 0, 0, 0, 0]) rfl rfl⟩
    refine OpsD.gs rfl rfl rfl rfl (.b rfl hb10) rfl rfl ?_
    refine OpsD.gs rfl rfl rfl rfl (.b rfl hb10) rfl rfl ?_
    refine OpsD.gs rfl rfl rfl rfl (.b rfl hb10) rfl rfl ?_
    refine OpsD.gs rfl rfl rfl rfl (.b rfl hb10) rfl rfl ?_
    refine OpsD.gs rfl rfl rfl rfl (.b rfl hb10) rfl rfl ?_
    refine OpsD.gs rfl rfl rfl rfl (.b rfl hb10) rfl rfl ?_
    refine OpsD.gs rfl rfl rfl rfl (.b rfl hb10) rfl rfl ?_
    refine OpsD.one ?_
    refine Y3n.gs rfl rfl rfl rfl (.b rfl hb10) rfl rfl ?_
    refine zw ?_
    exact ⟨false, h, Y21.both (ns := [0, 0, 0, 0, 0, 0]) rfl rfl⟩
   refine OpsD.gs rfl rfl rfl rfl (.b rfl hb9) rfl rfl ?_
   refine OpsD.gs rfl rfl rfl rfl (.b rfl hb9) rfl rfl ?_
   refine OpsD.gs rfl rfl rfl rfl (.b rfl hb9) rfl rfl ?_
   refine OpsD.v rfl rfl (Yt rfl hb9 rfl rfl) ?_
   refine OpsD.v rfl rfl (Yq rfl rfl) ?_
   refine OpsD.gs rfl rfl rfl rfl (.b rfl rfl) rfl rfl ?_
   refine OpsD.gs rfl rfl rfl rfl (.b rfl rfl) rfl rfl ?_
   refine OpsD.gs rfl rfl rfl rfl (.b rfl rfl) rfl rfl ?_
   refine OpsD.gs rfl rfl rfl rfl (.b rfl rfl) rfl rfl ?_
   refine OpsD.gs rfl rfl rfl rfl (.b rfl rfl) rfl rfl ?_
   refine OpsD.gs rfl rfl rfl rfl (.b rfl rfl) rfl rfl ?_
   refine OpsD.gs rfl rfl rfl rfl (.b rfl rfl) rfl rfl ?_
   refine OpsD.one ?_
   refine Y3n.gs rfl rfl rfl rfl (.b rfl rfl) rfl rfl ?_
   refine zw ?_
   exact ⟨false, h, Y21.both (ns := [0, 0, 0, 0, 0, 0]) rfl rfl⟩
  intro x13 h
  replace h : Zf0 p0 p1 r5 r7 x13 = some r := h
  unfold Zf0 at h
  refine cnd h (fun hb14 h => ?_) fun hb14 h => ?_
  ·
   refine AW.ct hb14 rfl ?_
   refine zw ?_
   exact ⟨6, h, Y21.both (ns := [0, 0, 0, 0, 0, 0]) rfl rfl⟩
  refine AW.cf hb14 rfl ?_
  refine zw ?_
  exact ⟨r7, h, Y21.both (ns := [0, 0, 0, 0, 0, 0]) rfl rfl⟩
 intro x15 h
 replace h : Zez p0 p1 r5 x15 = some r := h
 unfold Zez at h
 refine zw ?_
 refine rD [0,0,3] [3,5,9,11,15,17] [29] [0,4,8,13,16,21,24,28,32,37,40,45,48,52,56,61,64,69,72,76,80,86,88,94,98,100,106,110,112,119] ?_
 refine OpsD.v rfl rfl (Yq rfl rfl) ?_
 refine OpsD.v rfl rfl (Y14 rfl rfl) ?_
 refine OpsD.v rfl rfl (Y1b Ydi.h rfl rfl) ?_
 refine OpsD.v rfl rfl (Y1k (p := 0) Yd8.h rfl rfl rfl rfl) ?_
 refine OpsD.v rfl rfl (Y1b Yae.h rfl rfl) ?_
 refine OpsD.v rfl rfl (Y1k (p := 2) ld_2.h rfl rfl rfl rfl) ?_
 refine OpsD.v rfl rfl (Yq rfl rfl) ?_
 refine OpsD.v rfl rfl (Y14 rfl rfl) ?_
 refine OpsD.v rfl rfl (Y1b Yd7.h rfl rfl) ?_
 refine OpsD.v rfl rfl (Y1k (p := 0) Yd8.h rfl rfl rfl rfl) ?_
 refine OpsD.v rfl rfl (Y1b Yae.h rfl rfl) ?_
 refine OpsD.v rfl rfl (Y1k (p := 2) ld_2.h rfl rfl rfl rfl) ?_
 refine OpsD.v rfl rfl (Yq rfl rfl) ?_
 refine OpsD.v rfl rfl (Y14 rfl rfl) ?_
 refine OpsD.v rfl rfl (Y1b Ydj.h rfl rfl) ?_
 refine OpsD.v rfl rfl (Y1k (p := 0) Ydg.h rfl rfl rfl rfl) ?_
 refine OpsD.v rfl rfl (Y1b Yae.h rfl rfl) ?_
 refine OpsD.v rfl rfl (Y1k (p := 2) ld_2.h rfl rfl rfl rfl) ?_
 refine OpsD.v rfl rfl (Yq rfl rfl) ?_
 refine OpsD.v rfl rfl (Yq rfl rfl) ?_
 refine OpsD.v rfl rfl (Yq rfl rfl) ?_
 refine OpsD.one ?_
 refine Y3n.h (ns := [0]) rfl rfl rfl (Y6o (kc := Y9q) (z0 := ([] : List Y94)) Yd9 Yda (fun w F => Imp.nil Y9j 3 w F _ rfl) rfl rfl rfl) ?_
 rintro _ _ ⟨st25, rfl, rfl⟩
 refine OpsD.v rfl rfl (Y13 rfl rfl rfl) ?_
 refine OpsD.one ?_
 refine Y3n.h (ns := [0]) rfl rfl rfl (Y6p (kc := Y9q) (v := r5) rfl rfl rfl rfl) ?_
 rintro _ _ ⟨rfl, rfl⟩
 refine OpsD.one ?_
 refine Y3n.h (ns := [1]) rfl rfl rfl (Y6o (kc := Y9q) (z0 := ([] : List Y94)) Yd9 Yda (fun w F => Imp.nil Y9j 3 w F _ rfl) rfl rfl rfl) ?_
 rintro _ _ ⟨st26, rfl, rfl⟩
 refine OpsD.v rfl rfl (Y13 rfl rfl rfl) ?_
 refine OpsD.one ?_
 refine Y3n.h (ns := [0]) rfl rfl rfl (Y6p (kc := Y9q) (v := r5) rfl rfl rfl rfl) ?_
 rintro _ _ ⟨rfl, rfl⟩
 refine OpsD.one ?_
 refine Y3n.h (ns := [2]) rfl rfl rfl (Y6o (kc := Y9p) (z0 := 0) Ydh zv_2 (fun _ _ => rfl) rfl rfl rfl) ?_
 rintro _ _ ⟨st27, rfl, rfl⟩
 refine zw ?_
 refine OpsD.late (ns := [3]) rfl rfl rfl (Y6p (kc := Y9p) (v := x15) rfl rfl rfl rfl) ?_
 rintro _ _ ⟨rfl, rfl⟩
 refine OpsD.done ?_
 refine AW.seq ?_
 refine AW.cut (τ := Bool) (fun x29 => ⟨[(0, pt b00), (3, pt b1), (4, cM Y9j 3 r5), (70, C.bool x29)], [oB b00 196 [cI p0.graph.room, cM Y9b 9 p0.graph.events, cM Y9b 9 p0.graph.parked, mt b01, mt b02, mt b03, mt b04], Abs.Obj.map b01 .i64 Y9p p0.depth, Abs.Obj.map b02 .i64 Y9q (mset p0.before p1.id r5), Abs.Obj.map b03 .i64 Y9q (mset p0.after p1.id r5), Abs.Obj.map b04 .i64 Y9p (mset p0.refused p1.id x15), oB b1 136 [cI p1.id, cI p1.room, cI p1.author, cI p1.kind, cI p1.key, cI p1.n, C.str p1.text, cM kI64 1 p1.prev, cI p1.time]]⟩) (fun x29 => Zey p0 p1 r5 x15 x29 = some r) ?_ ?_
 ·
  refine zw ?_
  refine cnd h (fun hb28 h => ?_) fun hb28 h => ?_
  ·
   refine zw ?_
   exact ⟨decide (p1.kind ≤ 6), h, Y21.both (ns := [1, 1, 3, 2, 0, 0]) rfl rfl⟩
  refine zw ?_
  exact ⟨false, h, Y21.both (ns := [1, 1, 3, 2, 0, 0]) rfl rfl⟩
 intro x29 h
 replace h : Zey p0 p1 r5 x15 x29 = some r := h
 unfold Zey at h
 refine cnd h (fun hb30 h => ?_) fun hb30 h => ?_
 ·
  refine AW.ct hb30 rfl ?_
  refine rD [0,0,0,0,0,0] [3,5,8,10,12] [15] [0,4,8,13,16,21,24,28,33,36,41,44,49,52,58,63] ?_
  refine OpsD.v rfl rfl (Yq rfl rfl) ?_
  refine OpsD.v rfl rfl (Y14 rfl rfl) ?_
  refine OpsD.v rfl rfl (Y1b Yd7.h rfl rfl) ?_
  refine OpsD.v rfl rfl (Y1k (p := 0) Yd8.h rfl rfl rfl rfl) ?_
  refine OpsD.v rfl rfl (Y1b Yae.h rfl rfl) ?_
  refine OpsD.v rfl rfl (Y1k (p := 5) ld_2.h rfl rfl rfl rfl) ?_
  refine OpsD.v rfl rfl (Yq rfl rfl) ?_
  refine OpsD.v rfl rfl (Y1b Yak.h rfl rfl) ?_
  refine OpsD.v rfl rfl (Y1k (p := 5) ld_2.h rfl rfl rfl rfl) ?_
  refine OpsD.v rfl rfl (Y1b Yam.h rfl rfl) ?_
  refine OpsD.v rfl rfl (Y1k (p := 5) ld_2.h rfl rfl rfl rfl) ?_
  refine OpsD.v rfl rfl (Y1b Yae.h rfl rfl) ?_
  refine OpsD.v rfl rfl (Y1k (p := 5) ld_2.h rfl rfl rfl rfl) ?_
  refine OpsD.v rfl rfl (Y38 (ds := [cI p1.kind, cI p1.key, cI p1.id]) Ybz Yc0 (Y42 rfl rfl) (.one rfl (One.val rfl) rfl rfl (.one rfl (One.val rfl) rfl rfl (.one rfl (One.val rfl) rfl rfl .nil))) rfl) ?_
  refine zw ?_
  refine dc h fun r31 g32 h => ?_
  refine OpsD.late (ns := [3]) rfl rfl rfl (Y6m (kc := Y9q) (v := r31) Yd9 rfl rfl rfl rfl) ?_
  rintro _ _ ⟨rfl, rfl⟩
  refine zw ?_
  rw [← Wj h]
  exact ⟨[], _, Y21.refl _, .nil, [1, 1, 1, 0, 0], _, _, rfl, ⟨rfl, rfl⟩⟩
 refine AW.cf hb30 rfl ?_
 refine zw ?_
 rw [← Wj h]
 exact ⟨[], _, Y21.refl _, .nil, [0, 0, 0, 0, 0], _, _, rfl, ⟨rfl, rfl⟩⟩

def Zf3 (p0 : Y92) (m23 : List (Int × Int)) (m46 : List (Int × List Y94)) (m47 : List (Int × List Y94)) (m48 : List (Int × Int)) : Option Y99 := some (Y99.mk p0 m23 m46 m47 m48)
def Zf4 (p0 : Y92) (m23 : List (Int × Int)) (r24 : List Int) (m34 : List (Int × List Y94)) (m35 : List (Int × List Y94)) (m36 : List (Int × Int)) (x37 : Int) : Option (((List (Int × List Y94)) × (List (Int × List Y94)) × (List (Int × Int)) × Int) ⊕ (((List (Int × List Y94)) × (List (Int × List Y94)) × (List (Int × Int))))) := cond (decide (x37 < (r24.length : Int))) ((getI r24 x37).bind fun e39 => (Zc8 p0 e39).bind fun r41 => (Zf1 (Y99.mk p0 m23 m34 m35 m36) r41.1).bind fun r44 => some (.inl (r44.1, r44.2.1, r44.2.2, (IntKind.i64.wrap (x37 + 1))))) (some (.inr (m34, m35, m36)))
def Zf5 (p0 : Y92) (m23 : List (Int × Int)) : Option Y99 := (Zc6 p0).bind fun r24 => (iter (fun z54 => Zf4 p0 m23 r24 z54.1 z54.2.1 z54.2.2.1 z54.2.2.2) big (([] : List (Int × List Y94)), ([] : List (Int × List Y94)), ([] : List (Int × Int)), 0)).bind fun (y55, y56, y57) => Zf3 p0 m23 y55 y56 y57
def Zf6 (p0 : Y92) (r7 : List Int × Bool) (m15 : List (Int × Int)) (x16 : Int) : Option (((List (Int × Int)) × Int) ⊕ ((List (Int × Int)))) := cond (decide (x16 < (p0.events.length : Int))) ((getI p0.events x16).bind fun e18 => (getI r7.1 x16).bind fun e21 => some (.inl ((mset m15 e18.id e21), (IntKind.i64.wrap (x16 + 1))))) (some (.inr m15))
def Zf7 (p0 : Y92) : Option Y99 := (Za5 p0).bind fun r7 => (iter (fun z58 => Zf6 p0 r7 z58.1 z58.2) big (([] : List (Int × Int)), 0)).bind fun y59 => Zf5 p0 y59
theorem Zf8 (p0 : Y92) (r : Y99) (h : Zf7 p0 = some r) : Ok Tryz.prog 136 [C.agg [cI p0.room, cM Y9b 9 p0.events, cM Y9b 9 p0.parked]] [] (fun c qs => ∃ (b49 : Nat) (b50 : Nat) (b51 : Nat) (b52 : Nat) (b53 : Nat), c = pt b49 ∧ qs = [oB b49 196 [cI r.graph.room, cM Y9b 9 r.graph.events, cM Y9b 9 r.graph.parked, mt b50, mt b51, mt b52, mt b53], Abs.Obj.map b50 .i64 Y9p r.depth, Abs.Obj.map b51 .i64 Y9q r.before, Abs.Obj.map b52 .i64 Y9q r.after, Abs.Obj.map b53 .i64 Y9p r.refused]) := by
 refine Ok.of_body (rs := [.tmp 2]) Tryz.func136 rfl rfl rfl rfl rfl fun X => ?_
 unfold Zf7 at h
 refine zw ?_
 refine ox fun b1 => ?_
 refine zw ?_
 refine Ops.h (ns := []) rfl rfl (Y6j (kd := .i64) (kc := Y9p) rfl) ?_
 rintro _ _ ⟨b2, rfl, rfl⟩
 refine Ops.h (ns := []) rfl rfl (Y6j (kd := .i64) (kc := Y9q) rfl) ?_
 rintro _ _ ⟨b3, rfl, rfl⟩
 refine Ops.h (ns := []) rfl rfl (Y6j (kd := .i64) (kc := Y9q) rfl) ?_
 rintro _ _ ⟨b4, rfl, rfl⟩
 refine Ops.h (ns := []) rfl rfl (Y6j (kd := .i64) (kc := Y9p) rfl) ?_
 rintro _ _ ⟨b5, rfl, rfl⟩
 refine Ops.v rfl (Y38 (ds := [cI p0.room, cM Y9b 9 p0.events, cM Y9b 9 p0.parked, mt b2, mt b3, mt b4, mt b5]) Ydk Ydl (Y42 rfl rfl) (.agg rfl rfl rfl (.one rfl (One.val rfl) rfl rfl (.one rfl (One.val rfl) rfl rfl (.one rfl (One.val rfl) rfl rfl (.one rfl (One.val rfl) rfl rfl .nil))))) rfl) ?_
 refine ox fun b6 => ?_
 refine Ops.v rfl (Yr rfl rfl) ?_
 refine Ops.nil ?_
 refine AW.seq ?_
 refine AW.region ?_
 refine Ops.v rfl (Y1l (p := 5) (ds := [cI p0.room, cM Y9b 9 p0.events, cM Y9b 9 p0.parked]) Yb4.h rfl rfl rfl rfl rfl) ?_
 refine oc h fun r7 g8 h => ?_
 refine Ops.v rfl (Yq rfl rfl) ?_
 refine Ops.v rfl (Y13 rfl rfl rfl) ?_
 refine Ops.v rfl (Y13 rfl rfl rfl) ?_
 refine Ops.v rfl (Yr rfl rfl) ?_
 refine Ops.v rfl (Yr rfl rfl) ?_
 refine Ops.nil ?_
 refine AW.seq ?_
 refine AW.cut (τ := (List (Int × Int))) (fun m23 => ⟨[(1, pt b1), (3, pt b6)], [oB b1 139 [cI p0.room, cM Y9b 9 p0.events, cM Y9b 9 p0.parked], oB b6 196 [cI p0.room, cM Y9b 9 p0.events, cM Y9b 9 p0.parked, mt b2, mt b3, mt b4, mt b5], Abs.Obj.map b2 .i64 Y9p m23, Abs.Obj.map b3 .i64 Y9q ([] : List (Int × List Y94)), Abs.Obj.map b4 .i64 Y9q ([] : List (Int × List Y94)), Abs.Obj.map b5 .i64 Y9p ([] : List (Int × Int))]⟩) (fun m23 => Zf5 p0 m23 = some r) ?_ ?_
 ·
  refine AW.seq ?_
  refine AW.region ?_
  refine Ops.v rfl (Y1b Yb1.h rfl rfl) ?_
  refine Ops.v rfl (Y1k (p := 5) Yb2.h rfl rfl rfl rfl) ?_
  refine zw ?_
  refine AW.lp (v := ()) h (fun (m15, x16) (_ : Unit) => ⟨[(1, pt b1), (3, pt b6), (4, cM kI64 1 r7.1), (25, cM Y9b 9 p0.events), (26, cI (p0.events.length : Int)), (27, cI x16)], [oB b1 139 [cI p0.room, cM Y9b 9 p0.events, cM Y9b 9 p0.parked], oB b6 196 [cI p0.room, cM Y9b 9 p0.events, cM Y9b 9 p0.parked, mt b2, mt b3, mt b4, mt b5], Abs.Obj.map b2 .i64 Y9p m15, Abs.Obj.map b3 .i64 Y9q ([] : List (Int × List Y94)), Abs.Obj.map b4 .i64 Y9q ([] : List (Int × List Y94)), Abs.Obj.map b5 .i64 Y9p ([] : List (Int × Int))]⟩) (gb [5, 0, 3, 2, 1, 0]) ?_
  rintro ⟨m15, x16⟩ _ y72 h
  refine zw ?_
  refine cnd h (fun hb17 h => ?_) fun hb17 h => ?_
  ·
   refine AW.ct hb17 rfl ?_
   refine zw ?_
   refine oi h fun e18 g19 h => ?_
   refine zw ?_
   refine Ops.h (ns := []) rfl rfl (Y1p (cs := [cI 0, cI 0, cI 0, cI 0, cI 0, cI 0, C.str ByteArray.empty, cV s0, cI 0]) Yac (Y42 rfl rfl) rfl) ?_
   rintro _ _ ⟨b20, rfl, rfl⟩
   refine zw ?_
   refine Ops.hd (ns := [0]) rfl rfl (Y1u (gs := [cI e18.id, cI e18.room, cI e18.author, cI e18.kind, cI e18.key, cI e18.n, C.str e18.text, cM kI64 1 e18.prev, cI e18.time]) Yat.h rfl rfl rfl rfl rfl) ?_
   refine zw ?_
   refine rD [0,0,0,0,0,0,0] [3,5,9] [10] [0,4,8,13,16,21,24,28,32,37,43] ?_
   refine zw ?_
   refine di h fun e21 g22 h => ?_
   refine zw ?_
   refine OpsD.late (ns := [3]) rfl rfl rfl (Y6m (kc := Y9p) (v := e21) Ydh rfl rfl rfl rfl) ?_
   rintro _ _ ⟨rfl, rfl⟩
   refine zw ?_
   exact lu h (gb [2, 2, 0, 1, 1, 1])
  refine AW.cf hb17 rfl ?_
  refine AW.exit ?_
  refine lx h fun h => ?_
  exact ⟨m15, h, Y21.both (ns := [0, 0, 0, 0, 0, 0]) rfl rfl⟩
 intro m23 h
 replace h : Zf5 p0 m23 = some r := h
 unfold Zf5 at h
 refine AW.seq ?_
 refine AW.cut (τ := (List (Int × List Y94)) × (List (Int × List Y94)) × (List (Int × Int))) (fun (m46, m47, m48) => ⟨[(3, pt b6)], [oB b6 196 [cI p0.room, cM Y9b 9 p0.events, cM Y9b 9 p0.parked, mt b2, mt b3, mt b4, mt b5], Abs.Obj.map b2 .i64 Y9p m23, Abs.Obj.map b3 .i64 Y9q m46, Abs.Obj.map b4 .i64 Y9q m47, Abs.Obj.map b5 .i64 Y9p m48]⟩) (fun (m46, m47, m48) => Zf3 p0 m23 m46 m47 m48 = some r) ?_ ?_
 ·
  refine zw ?_
  refine oc h fun r24 g25 h => ?_
  refine zw ?_
  refine AW.lp (v := ()) h (fun (m34, m35, m36, x37) (_ : Unit) => ⟨[(1, pt b1), (3, pt b6), (44, cM kI64 1 r24), (45, cI (r24.length : Int)), (46, cI x37)], [oB b1 139 [cI p0.room, cM Y9b 9 p0.events, cM Y9b 9 p0.parked], oB b6 196 [cI p0.room, cM Y9b 9 p0.events, cM Y9b 9 p0.parked, mt b2, mt b3, mt b4, mt b5], Abs.Obj.map b2 .i64 Y9p m23, Abs.Obj.map b3 .i64 Y9q m34, Abs.Obj.map b4 .i64 Y9q m35, Abs.Obj.map b5 .i64 Y9p m36]⟩) (gb [0, 0, 0, 0, 0, 0]) ?_
  rintro ⟨m34, m35, m36, x37⟩ _ y65 h
  refine zw ?_
  refine cnd h (fun hb38 h => ?_) fun hb38 h => ?_
  ·
   refine AW.ct hb38 rfl ?_
   refine zw ?_
   refine oi h fun e39 g40 h => ?_
   refine zw ?_
   refine oc h fun r41 g42 h => ?_
   refine zw ?_
   refine Ops.h (ns := []) rfl rfl (Y1p (cs := [cI 0, cI 0, cI 0, cI 0, cI 0, cI 0, C.str ByteArray.empty, cV s0, cI 0]) Yac (Y42 rfl rfl) rfl) ?_
   rintro _ _ ⟨b43, rfl, rfl⟩
   refine Ops.hd (ns := [0]) rfl rfl (Y1u (gs := [cI r41.1.id, cI r41.1.room, cI r41.1.author, cI r41.1.kind, cI r41.1.key, cI r41.1.n, C.str r41.1.text, cM kI64 1 r41.1.prev, cI r41.1.time]) Yat.h rfl rfl rfl rfl rfl) ?_
   refine zw ?_
   refine ob' h fun r44 g45 h => ?_
   refine Ops.hd (ns := [2, 2, 2, 2, 2]) rfl rfl (Y24 (Zf2 (Y99.mk p0 m23 m34 m35 m36) r41.1 _ g45) rfl rfl) ?_
   refine zw ?_
   exact lu h (gb [6, 0, 0, 0, 0, 0])
  refine AW.cf hb38 rfl ?_
  refine AW.exit ?_
  refine lx h fun h => ?_
  exact ⟨(m34, m35, m36), h, Y21.both (ns := [1, 1, 1, 1, 1]) rfl rfl⟩
 rintro ⟨m46, m47, m48⟩ h
 replace h : Zf3 p0 m23 m46 m47 m48 = some r := h
 unfold Zf3 at h
 refine zw ?_
 refine AW.ret ?_
 rw [← Wj h]
 exact ⟨[pt b6], _, Y21.refl _, (.cons (.tmp rfl) .nil), [0, 0, 0, 0, 0], _, _, rfl, ⟨b6, b2, b3, b4, b5, rfl, rfl⟩⟩
instance Zf8' (p0 : Y92) : Sp Tryz.prog 136 [C.agg [cI p0.room, cM Y9b 9 p0.events, cM Y9b 9 p0.parked]] (Zf7 p0) (fun r => C.ip [cI r.graph.room, cM Y9b 9 r.graph.events, cM Y9b 9 r.graph.parked, C.imap .i64 Y9p r.depth, C.imap .i64 Y9q r.before, C.imap .i64 Y9q r.after, C.imap .i64 Y9p r.refused]) := ⟨fun r h => Ok.freeze (Zf8 p0 r h) (by rintro c qs ⟨b49, b50, b51, b52, b53, rfl, rfl⟩; exact Frz.box (fS (fS (fS (FrzL.cons (os := [_]) (Frz.map) (FrzL.cons (os := [_]) (Frz.map) (FrzL.cons (os := [_]) (Frz.map) (FrzL.cons (os := [_]) (Frz.map) (FrzL.nil)))))))))⟩

def Zf9 (l28 : List Int) : Option (List Int) := some l28
def Zfa (x15 : Int) (l26 : List Int) : Option ((List Int × Int) ⊕ ((List Int))) := some (.inl (l26, (IntKind.i64.wrap (x15 + 1))))
def Zfb (p0 : Y99) (l14 : List Int) (x15 : Int) : Option ((List Int × Int) ⊕ ((List Int))) := cond (decide (x15 < (p0.graph.events.length : Int))) ((getI p0.graph.events x15).bind fun e17 => cond ((Option.getD (mget p0.refused e17.id) 0) == 0) ((chk (decide ((l14.length + [e17.id].length) * 8 ≤ 140737488355328))).bind fun u23 => Zfa x15 (l14 ++ [e17.id])) (Zfa x15 l14)) (some (.inr l14))
def Zfc (p0 : Y99) : Option (List Int) := (iter (fun z30 => Zfb p0 z30.1 z30.2) big (([] : List Int), 0)).bind fun y31 => Zf9 y31
theorem Zfd (p0 : Y99) (r : List Int) (h : Zfc p0 = some r) : Ok Tryz.prog 137 [C.ip [cI p0.graph.room, cM Y9b 9 p0.graph.events, cM Y9b 9 p0.graph.parked, C.imap .i64 Y9p p0.depth, C.imap .i64 Y9q p0.before, C.imap .i64 Y9q p0.after, C.imap .i64 Y9p p0.refused]] [] (fun c qs => ∃ (v29 : Value), c = cV v29 ∧ qs = [oA v29 2 kI64 1 r]) := by
 refine Ok.of_body (rs := [.tmp 2]) Tryz.func137 rfl rfl rfl rfl rfl fun X => ?_
 unfold Zfc at h
 refine zw ?_
 refine Ops.h (ns := []) rfl rfl (Y39 (k := kI64) (ys := ([] : List Int)) Yab .nil rfl rfl rfl) ?_
 rintro _ _ ⟨b1, rfl, rfl⟩
 refine Ops.v rfl (Yr rfl rfl) ?_
 refine Ops.nil ?_
 refine AW.seq ?_
 refine AW.cut (τ := List Int × Value) (fun (l28, v27) => ⟨[(3, cV v27)], [oA v27 2 kI64 1 l28]⟩) (fun (l28, v27) => Zf9 l28 = some r) ?_ ?_
 ·
  refine zw ?_
  refine AW.lp h (fun (l14, x15) (v13 : Value) => ⟨[(0, C.ip [cI p0.graph.room, cM Y9b 9 p0.graph.events, cM Y9b 9 p0.graph.parked, C.imap .i64 Y9p p0.depth, C.imap .i64 Y9q p0.before, C.imap .i64 Y9q p0.after, C.imap .i64 Y9p p0.refused]), (3, cV v13), (11, cM Y9b 9 p0.graph.events), (12, cI (p0.graph.events.length : Int)), (13, cI x15)], [oA v13 2 kI64 1 l14]⟩) (gb [0]) ?_
  rintro ⟨l14, x15⟩ v13 y37 h
  refine zw ?_
  refine cnd h (fun hb16 h => ?_) fun hb16 h => ?_
  ·
   refine AW.ct hb16 rfl ?_
   refine zw ?_
   refine oi h fun e17 g18 h => ?_
   refine zw ?_
   refine Ops.h (ns := []) rfl rfl (Y1p (cs := [cI 0, cI 0, cI 0, cI 0, cI 0, cI 0, C.str ByteArray.empty, cV s0, cI 0]) Yac (Y42 rfl rfl) rfl) ?_
   rintro _ _ ⟨b19, rfl, rfl⟩
   refine Ops.hd (ns := [0]) rfl rfl (Y1u (gs := [cI e17.id, cI e17.room, cI e17.author, cI e17.kind, cI e17.key, cI e17.n, C.str e17.text, cM kI64 1 e17.prev, cI e17.time]) Yat.h rfl rfl rfl rfl rfl) ?_
   refine zw ?_
   refine rD [0,0] [3,5,6] [] [0,4,8,13,16,21,25,28] ?_
   refine zw ?_
   refine OpsD.v rfl rfl (Y8a (kc := Y9p) (z0 := 0) Ydh zv_2 (fun _ _ => rfl) rfl rfl rfl) ?_
   refine zw ?_
   refine cnd h (fun hb20 h => ?_) fun hb20 h => ?_
   ·
    refine AW.ct hb20 rfl ?_
    refine zw ?_
    refine Ops.h (ns := []) rfl rfl (Y39 (k := kI64) (ys := [e17.id]) Yab (.one rfl (One.val rfl) rfl rfl .nil) rfl rfl rfl) ?_
    rintro _ _ ⟨b21, rfl, rfl⟩
    refine ob' h fun u23 c22 h => ?_
    refine Ops.h (ns := [2, 0]) rfl rfl (Y2s Yab rfl rfl (Wo (Y3t c22)) (Y3w (by decide) c22) rfl) ?_
    rintro _ _ ⟨v24, rfl, rfl⟩
    exact go
   exact go
  exact go
 rintro ⟨l28, v27⟩ h
 replace h : Zf9 l28 = some r := h
 unfold Zf9 at h
 refine zw ?_
 refine AW.ret ?_
 rw [← Wj h]
 exact ⟨[cV v27], _, Y21.refl _, (.cons (.tmp rfl) .nil), [0], _, _, rfl, ⟨v27, rfl, rfl⟩⟩
instance Zfd' (p0 : Y99) : Sp Tryz.prog 137 [C.ip [cI p0.graph.room, cM Y9b 9 p0.graph.events, cM Y9b 9 p0.graph.parked, C.imap .i64 Y9p p0.depth, C.imap .i64 Y9q p0.before, C.imap .i64 Y9q p0.after, C.imap .i64 Y9p p0.refused]] (Zfc p0) (fun r => cM kI64 1 r) := ⟨fun r h => Ok.freeze (Zfd p0 r h) (by rintro c qs ⟨v29, rfl, rfl⟩; exact Frz.arr)⟩

def Zfe (p0 : Y9a) (p1 : Int) : Option Y99 := (getI p0.rooms (IntKind.i64.wrap (p1 - 1))).bind fun e1 => some e1
theorem Zff {b00 : Nat} {w01 : Value} (p0 : Y9a) (p1 : Int) (r : Y99) (h : Zfe p0 p1 = some r) : Ok Tryz.prog 138 [pt b00, cI p1] [oB b00 145 [cM Y9g 3 p0.hub.rooms, cM Y9d 2 p0.hub.stream, cV w01], oA w01 186 Y9s 1 p0.rooms] (fun c qs => c = C.ip [cI r.graph.room, cM Y9b 9 r.graph.events, cM Y9b 9 r.graph.parked, C.imap .i64 Y9p r.depth, C.imap .i64 Y9q r.before, C.imap .i64 Y9q r.after, C.imap .i64 Y9p r.refused] ∧ qs = [oB b00 145 [cM Y9g 3 p0.hub.rooms, cM Y9d 2 p0.hub.stream, cV w01], oA w01 186 Y9s 1 p0.rooms]) := by
 refine Ok.of_body (rs := [.tmp 4]) Tryz.func138 rfl rfl rfl rfl rfl fun X => ?_
 unfold Zfe at h
 refine zw ?_
 refine ob' h fun e1 g2 h => ?_
 refine Ops.v rfl (Y2x (p := 1) Ydo.h rfl rfl rfl g2 rfl) ?_
 refine Ops.v rfl (Y30 (p := 1) Ydd.h rfl rfl (Y29 g2).2.2 rfl rfl) ?_
 refine zw ?_
 refine AW.ret ?_
 rw [← Wj h]
 exact ⟨[C.ip [cI e1.graph.room, cM Y9b 9 e1.graph.events, cM Y9b 9 e1.graph.parked, C.imap .i64 Y9p e1.depth, C.imap .i64 Y9q e1.before, C.imap .i64 Y9q e1.after, C.imap .i64 Y9p e1.refused]], _, Y21.refl _, (.cons (.tmp rfl) .nil), [0, 0], _, _, rfl, ⟨rfl, rfl⟩⟩

def Zfg (x2 : Bool) : Option Bool := some x2
def Zfh (p0 : Int) (q0 : Y99) (q1 : List ((Int × Int) × Bool)) (q2 : Y91) : Option Bool := cond ((Option.getD (mget q0.refused p0) 0) == 0) (Zfg (!(Option.getD (pget q1 (q2.room, p0)) false))) (Zfg false)
theorem Zfi {b00 : Nat} {b01 : Nat} {b02 : Nat} {b03 : Nat} (p0 : Int) (q0 : Y99) (q1 : List ((Int × Int) × Bool)) (q2 : Y91) (r : Bool) (h : Zfh p0 q0 q1 q2 = some r) : Ok Tryz.prog 141 [cI p0, pt b00, pt b01, pt b03] [oB b00 186 [C.ip [cI q0.graph.room, cM Y9b 9 q0.graph.events, cM Y9b 9 q0.graph.parked, C.imap .i64 Y9p q0.depth, C.imap .i64 Y9q q0.before, C.imap .i64 Y9q q0.after, C.imap .i64 Y9p q0.refused]], oB b01 189 [mt b02], Abs.Obj.pmap b02 Y9r q1, oB b03 142 [cI q2.room, cI q2.id]] (fun c qs => c = C.bool r ∧ qs = [oB b00 186 [C.ip [cI q0.graph.room, cM Y9b 9 q0.graph.events, cM Y9b 9 q0.graph.parked, C.imap .i64 Y9p q0.depth, C.imap .i64 Y9q q0.before, C.imap .i64 Y9q q0.after, C.imap .i64 Y9p q0.refused]], oB b01 189 [mt b02], Abs.Obj.pmap b02 Y9r q1, oB b03 142 [cI q2.room, cI q2.id]]) := by
 refine Ok.of_body (rs := [.tmp 5]) Tryz.func141 rfl rfl rfl rfl rfl fun X => ?_
 unfold Zfh at h
 refine AW.seq ?_
 refine AW.region ?_
 refine Ops.v rfl (Yr rfl rfl) ?_
 refine Ops.nil ?_
 refine AW.seq ?_
 refine AW.cut (τ := Bool) (fun x2 => ⟨[(5, C.bool x2)], [oB b00 186 [C.ip [cI q0.graph.room, cM Y9b 9 q0.graph.events, cM Y9b 9 q0.graph.parked, C.imap .i64 Y9p q0.depth, C.imap .i64 Y9q q0.before, C.imap .i64 Y9q q0.after, C.imap .i64 Y9p q0.refused]], oB b01 189 [mt b02], Abs.Obj.pmap b02 Y9r q1, oB b03 142 [cI q2.room, cI q2.id]]⟩) (fun x2 => Zfg x2 = some r) ?_ ?_
 ·
  refine zw ?_
  refine Ops.v rfl (Y8a (kc := Y9p) (z0 := 0) Ydh zv_2 (fun _ _ => rfl) rfl rfl rfl) ?_
  refine zw ?_
  refine cnd h (fun hb1 h => ?_) fun hb1 h => ?_
  ·
   refine zw ?_
   refine Ops.gv rfl rfl rfl rfl hb1 (Y38 (ds := [cI q2.room, cI p0]) Ydw Yb8 (Y42 rfl rfl) (.one rfl (One.val rfl) rfl rfl (.one rfl (One.val rfl) rfl rfl .nil)) rfl) ?_
   refine Ops.gv rfl rfl rfl rfl hb1 (Y8m (p := 2) (j := (q2.room, p0)) (kc := Y9r) (z0 := false) Ydu zv_4 (fun _ _ => rfl) rfl rfl rfl rfl) ?_
   refine zw ?_
   exact ⟨(!(Option.getD (pget q1 (q2.room, p0)) false)), h, Y21.both (ns := [0, 0, 0, 0]) rfl rfl⟩
  refine zw ?_
  exact ⟨false, h, Y21.both (ns := [0, 0, 0, 0]) rfl rfl⟩
 intro x2 h
 replace h : Zfg x2 = some r := h
 unfold Zfg at h
 refine AW.ret ?_
 rw [← Wj h]
 exact ⟨[C.bool x2], _, Y21.refl _, (.cons (.tmp rfl) .nil), [0, 0, 0, 0], _, _, rfl, ⟨rfl, rfl⟩⟩

def Zfj : Option Int := some (-1)
def Zfk (p0 : List Int) (p1_0 : Y99) (p1_1 : List ((Int × Int) × Bool)) (p1_2 : Y91) (x7 : Int) : Option (Int ⊕ (Int ⊕ Unit)) := cond (decide (x7 < (p0.length : Int))) ((getI p0 x7).bind fun e9 => (Zfh e9 p1_0 p1_1 p1_2).bind fun r11 => cond r11 (some (.inr (.inl x7))) (some (.inl (IntKind.i64.wrap (x7 + 1))))) (some (.inr (.inr ())))
def Zfl (p0 : List Int) (p1_0 : Y99) (p1_1 : List ((Int × Int) × Bool)) (p1_2 : Y91) : Option Int := (iter (Zfk p0 p1_0 p1_1 p1_2) big 0).bind (fun z15 => match z15 with | .inl y14 => some y14 | .inr () => Zfj)
theorem Zfm {b00 : Nat} {b01 : Nat} {b02 : Nat} {b03 : Nat} (p0 : List Int) (p1_0 : Y99) (p1_1 : List ((Int × Int) × Bool)) (p1_2 : Y91) (r : Int) (h : Zfl p0 p1_0 p1_1 p1_2 = some r) : Ok Tryz.prog 194 [cM kI64 1 p0, C.clo 141 [pt b00, pt b01, pt b03]] [oB b00 186 [C.ip [cI p1_0.graph.room, cM Y9b 9 p1_0.graph.events, cM Y9b 9 p1_0.graph.parked, C.imap .i64 Y9p p1_0.depth, C.imap .i64 Y9q p1_0.before, C.imap .i64 Y9q p1_0.after, C.imap .i64 Y9p p1_0.refused]], oB b01 189 [mt b02], Abs.Obj.pmap b02 Y9r p1_1, oB b03 142 [cI p1_2.room, cI p1_2.id]] (fun c qs => c = cI r ∧ qs = [oB b00 186 [C.ip [cI p1_0.graph.room, cM Y9b 9 p1_0.graph.events, cM Y9b 9 p1_0.graph.parked, C.imap .i64 Y9p p1_0.depth, C.imap .i64 Y9q p1_0.before, C.imap .i64 Y9q p1_0.after, C.imap .i64 Y9p p1_0.refused]], oB b01 189 [mt b02], Abs.Obj.pmap b02 Y9r p1_1, oB b03 142 [cI p1_2.room, cI p1_2.id]]) := by
 refine Ok.of_body (rs := [.tmp 4]) Tryz.func194 rfl rfl rfl rfl rfl fun X => ?_
 unfold Zfl at h
 refine AW.seq ?_
 refine AW.region ?_
 refine Ops.v rfl (Yr rfl rfl) ?_
 refine Ops.nil ?_
 refine AW.seq ?_
 refine AW.cut (τ := Unit) (fun (_ : Unit) => ⟨[], [oB b00 186 [C.ip [cI p1_0.graph.room, cM Y9b 9 p1_0.graph.events, cM Y9b 9 p1_0.graph.parked, C.imap .i64 Y9p p1_0.depth, C.imap .i64 Y9q p1_0.before, C.imap .i64 Y9q p1_0.after, C.imap .i64 Y9p p1_0.refused]], oB b01 189 [mt b02], Abs.Obj.pmap b02 Y9r p1_1, oB b03 142 [cI p1_2.room, cI p1_2.id]]⟩) (fun (_ : Unit) => Zfj = some r) ?_ ?_
 ·
  refine zw ?_
  refine AW.lp (v := ()) h (fun x7 (_ : Unit) => ⟨[(0, cM kI64 1 p0), (1, C.clo 141 [pt b00, pt b01, pt b03]), (7, cI (p0.length : Int)), (8, cI x7)], [oB b00 186 [C.ip [cI p1_0.graph.room, cM Y9b 9 p1_0.graph.events, cM Y9b 9 p1_0.graph.parked, C.imap .i64 Y9p p1_0.depth, C.imap .i64 Y9q p1_0.before, C.imap .i64 Y9q p1_0.after, C.imap .i64 Y9p p1_0.refused]], oB b01 189 [mt b02], Abs.Obj.pmap b02 Y9r p1_1, oB b03 142 [cI p1_2.room, cI p1_2.id]]⟩) (gb [0, 0, 0, 0]) ?_
  rintro x7 _ y21 h
  refine zw ?_
  refine cnd h (fun hb8 h => ?_) fun hb8 h => ?_
  ·
   refine AW.ct hb8 rfl ?_
   refine zw ?_
   refine oi h fun e9 g10 h => ?_
   refine zw ?_
   refine ob' h fun r11 g12 h => ?_
   refine Ops.hd (ns := [0, 0, 0, 0]) rfl rfl (Y6s (cs := [_]) (ds := [_, _, _]) rfl (Zfi e9 p1_0 p1_1 p1_2 _ g12) rfl rfl) ?_
   refine zw ?_
   refine cnd h (fun hb13 h => ?_) fun hb13 h => ?_
   ·
    refine AW.ct hb13 rfl ?_
    refine zw ?_
    refine AW.ret ?_
    refine lx h fun h => ?_
    rw [← Wj h]
    exact ⟨[cI x7], _, Y21.refl _, (.cons (.tmp rfl) .nil), [0, 0, 0, 0], _, _, rfl, ⟨rfl, rfl⟩⟩
   refine AW.cf hb13 rfl ?_
   refine zw ?_
   exact lu h (gb [0, 0, 0, 0])
  refine AW.cf hb8 rfl ?_
  refine AW.exit ?_
  refine lx h fun h => ?_
  exact ⟨(), h, Y21.both (ns := [0, 0, 0, 0]) rfl rfl⟩
 rintro ⟨⟩ h
 replace h : Zfj = some r := h
 unfold Zfj at h
 refine zw ?_
 refine AW.ret ?_
 rw [← Wj h]
 exact ⟨[cI (-1)], _, Y21.refl _, (.cons (.tmp rfl) .nil), [0, 0, 0, 0], _, _, rfl, ⟨rfl, rfl⟩⟩

def Zfn (p0 : List Int) (p1_0 : Y99) (p1_1 : List ((Int × Int) × Bool)) (p1_2 : Y91) : Option Bool := (Zfl p0 p1_0 p1_1 p1_2).bind fun r1 => some (decide (r1 ≥ 0))
theorem Zfo {b00 : Nat} {b01 : Nat} {b02 : Nat} {b03 : Nat} (p0 : List Int) (p1_0 : Y99) (p1_1 : List ((Int × Int) × Bool)) (p1_2 : Y91) (r : Bool) (h : Zfn p0 p1_0 p1_1 p1_2 = some r) : Ok Tryz.prog 140 [cM kI64 1 p0, C.clo 141 [pt b00, pt b01, pt b03]] [oB b00 186 [C.ip [cI p1_0.graph.room, cM Y9b 9 p1_0.graph.events, cM Y9b 9 p1_0.graph.parked, C.imap .i64 Y9p p1_0.depth, C.imap .i64 Y9q p1_0.before, C.imap .i64 Y9q p1_0.after, C.imap .i64 Y9p p1_0.refused]], oB b01 189 [mt b02], Abs.Obj.pmap b02 Y9r p1_1, oB b03 142 [cI p1_2.room, cI p1_2.id]] (fun c qs => c = C.bool r ∧ qs = [oB b00 186 [C.ip [cI p1_0.graph.room, cM Y9b 9 p1_0.graph.events, cM Y9b 9 p1_0.graph.parked, C.imap .i64 Y9p p1_0.depth, C.imap .i64 Y9q p1_0.before, C.imap .i64 Y9q p1_0.after, C.imap .i64 Y9p p1_0.refused]], oB b01 189 [mt b02], Abs.Obj.pmap b02 Y9r p1_1, oB b03 142 [cI p1_2.room, cI p1_2.id]]) := by
 refine Ok.of_body (rs := [.tmp 4]) Tryz.func140 rfl rfl rfl rfl rfl fun X => ?_
 unfold Zfn at h
 refine zw ?_
 refine ob' h fun r1 g2 h => ?_
 refine Ops.hd (ns := [0, 0, 0, 0]) rfl rfl (Y24 (Zfm p0 p1_0 p1_1 p1_2 _ g2) rfl rfl) ?_
 refine zw ?_
 refine AW.ret ?_
 rw [← Wj h]
 exact ⟨[C.bool (decide (r1 ≥ 0))], _, Y21.refl _, (.cons (.tmp rfl) .nil), [0, 0, 0, 0], _, _, rfl, ⟨rfl, rfl⟩⟩

def Zfp (p0 : Y93) (l100 : List Y99) (x101 : Int) : Option (Y9a × Bool) := cond (x101 == (p0.stream.length : Int)) (some ((Y9a.mk p0 l100), (x101 == (p0.stream.length : Int)))) (some ((Y9a.mk (Y93.mk [] []) []), (x101 == (p0.stream.length : Int))))
def Zfq (m178 : List ((Int × Int) × Bool)) (x179 : Int) (e181 : Y91) (x252 : Bool) : Option (((List ((Int × Int) × Bool)) × Int) ⊕ ((Y9a × Bool) ⊕ Unit)) := cond x252 (some (.inr (.inl ((Y9a.mk (Y93.mk [] []) []), false)))) (some (.inl ((pset m178 (e181.room, e181.id) true), (IntKind.i64.wrap (x179 + 1)))))
def Zfr (m178 : List ((Int × Int) × Bool)) (x179 : Int) (e181 : Y91) (r189 : Y99) (x196 : Int) (x197 : Int) (x198 : Int) (x199 : Int) (x200 : Int) (x201 : Int) (x202 : ByteArray) (l203 : List Int) (x204 : Int) (x205 : Bool) : Option (((List ((Int × Int) × Bool)) × Int) ⊕ ((Y9a × Bool) ⊕ Unit)) := cond x205 (cond ((Option.getD (mget r189.refused e181.id) 0) != 0) (Zfq m178 x179 e181 true) ((Zfn l203 r189 m178 e181).bind fun r244 => Zfq m178 x179 e181 r244)) (Zfq m178 x179 e181 true)
def Zfs (p0 : Y93) (l100 : List Y99) (m178 : List ((Int × Int) × Bool)) (x179 : Int) (e181 : Y91) (x187 : Bool) : Option (((List ((Int × Int) × Bool)) × Int) ⊕ ((Y9a × Bool) ⊕ Unit)) := cond x187 (some (.inr (.inl ((Y9a.mk (Y93.mk [] []) []), false)))) ((Zfe (Y9a.mk p0 l100) e181.room).bind fun r189 => (Zc8 r189.graph e181.id).bind fun r192 => Zfr m178 x179 e181 r189 r192.1.id r192.1.room r192.1.author r192.1.kind r192.1.key r192.1.n r192.1.text r192.1.prev r192.1.time r192.2)
def Zft (p0 : Y93) (l100 : List Y99) (m178 : List ((Int × Int) × Bool)) (x179 : Int) : Option (((List ((Int × Int) × Bool)) × Int) ⊕ ((Y9a × Bool) ⊕ Unit)) := cond (decide (x179 < (p0.stream.length : Int))) ((getI p0.stream x179).bind fun e181 => (Z85 e181.room).bind fun r184 => cond r184 (Zfs p0 l100 m178 x179 e181 (Option.getD (pget m178 (e181.room, e181.id)) false)) (Zfs p0 l100 m178 x179 e181 true)) (some (.inr (.inr ())))
def Zfu (p0 : Y93) (l100 : List Y99) (x101 : Int) : Option (Y9a × Bool) := (iter (fun z255 => Zft p0 l100 z255.1 z255.2) big (([] : List ((Int × Int) × Bool)), 0)).bind (fun z257 => match z257 with | .inl y256 => some y256 | .inr () => Zfp p0 l100 x101)
def Zfv (l57 : List Y99) (x58 : Int) (x59 : Int) (e61 : Y92) (x67 : Bool) : Option ((List Y99 × Int × Int) ⊕ ((Y9a × Bool) ⊕ (List Y99 × Int))) := cond x67 (some (.inr (.inl ((Y9a.mk (Y93.mk [] []) []), false)))) ((Zf7 e61).bind fun r83 => (chk (decide ((l57.length + [r83].length) * 8 ≤ 140737488355328))).bind fun u92 => (getI (l57 ++ [r83]) x59).bind fun e95 => (Zfc e95).bind fun r97 => some (.inl ((l57 ++ [r83]), (IntKind.i64.wrap (x58 + (r97.length : Int))), (IntKind.i64.wrap (x59 + 1)))))
def Zfw (p0 : Y93) (l57 : List Y99) (x58 : Int) (x59 : Int) : Option ((List Y99 × Int × Int) ⊕ ((Y9a × Bool) ⊕ (List Y99 × Int))) := cond (decide (x59 < (p0.rooms.length : Int))) ((getI p0.rooms x59).bind fun e61 => (Zap e61).bind fun r64 => cond r64 (Zfv l57 x58 x59 e61 (e61.room != (IntKind.i64.wrap (x59 + 1)))) (Zfv l57 x58 x59 e61 true)) (some (.inr (.inr (l57, x58))))
def Zfx (p0 : Y93) (x3 : Bool) : Option (Y9a × Bool) := cond x3 (some ((Y9a.mk (Y93.mk [] []) []), false)) ((iter (fun z258 => Zfw p0 z258.1 z258.2.1 z258.2.2) big ([], 0, 0)).bind (fun z262 => match z262 with | .inl y259 => some y259 | .inr (y260, y261) => Zfu p0 y260 y261))
def Zfy (p0 : Y93) : Option (Y9a × Bool) := cond ((p0.rooms.length : Int) != 3) (Zfx p0 true) (Zfx p0 (decide ((p0.stream.length : Int) > 120)))
theorem Zfz (p0 : Y93) (r : Y9a × Bool) (h : Zfy p0 = some r) : Ok Tryz.prog 73 [C.agg [cM Y9g 3 p0.rooms, cM Y9d 2 p0.stream]] [] (fun c qs => (r.2 = true ∧ c = C.tup [C.ip [cM Y9g 3 r.1.hub.rooms, cM Y9d 2 r.1.hub.stream, cM Y9s 1 r.1.rooms], C.bool r.2] ∧ qs = []) ∨ (r.2 = false ∧ c = C.tup [C.any, C.bool r.2] ∧ qs = [])) := by
 refine Ok.of_body (rs := [.tmp 2, .tmp 3]) Tryz.func73 rfl rfl rfl rfl rfl fun X => ?_
 unfold Zfy at h
 refine zw ?_
 refine ox fun b1 => ?_
 refine Ops.v rfl (Yr rfl rfl) ?_
 refine Ops.v rfl (Yr rfl rfl) ?_
 refine Ops.nil ?_
 refine AW.seq ?_
 refine AW.seq ?_
 refine AW.cut (τ := Bool) (fun x3 => ⟨[(1, pt b1), (23, C.bool x3)], [oB b1 32 [cM Y9g 3 p0.rooms, cM Y9d 2 p0.stream]]⟩) (fun x3 => Zfx p0 x3 = some r) go fun x3 h => ?_
 replace h : Zfx p0 x3 = some r := h
 unfold Zfx at h
 refine cnd h (fun hb4 h => ?_) fun hb4 h => ?_
 ·
  refine AW.ct hb4 rfl ?_
  refine zw ?_
  refine AW.ret ?_
  rw [← Wj h]
  exact ⟨[C.any, C.bool false], _, Y21.imp (t := 2) rfl (Imp.any _), (.cons (.tmp rfl) (.cons (.tmp rfl) .nil)), [], _, _, rfl, .inr ⟨rfl, rfl, rfl⟩⟩
 refine AW.cf hb4 rfl ?_
 refine zw ?_
 refine Ops.v rfl (Y38 (ds := [cM Y9g 3 p0.rooms, cM Y9d 2 p0.stream, cV s0]) Ydp Ydq (Y42 rfl rfl) (.agg rfl rfl rfl .nil) rfl) ?_
 refine ox fun b5 => ?_
 refine Ops.v rfl (Yr rfl rfl) ?_
 refine Ops.v rfl (Yr rfl rfl) ?_
 refine Ops.nil ?_
 refine AW.seq ?_
 refine AW.cut (τ := List Y99 × Int × Value) (fun (l100, x101, v99) => ⟨[(1, pt b1), (4, pt b5), (5, cI x101)], [oB b1 32 [cM Y9g 3 p0.rooms, cM Y9d 2 p0.stream], oB b5 145 [cM Y9g 3 p0.rooms, cM Y9d 2 p0.stream, cV v99], oA v99 186 Y9s 1 l100]⟩) (fun (l100, x101, v99) => Zfu p0 l100 x101 = some r) ?_ ?_
 ·
  refine zw ?_
  refine AW.lp h (fun (l57, x58, x59) (v56 : Value) => ⟨[(1, pt b1), (4, pt b5), (5, cI x58), (28, cM Y9g 3 p0.rooms), (29, cI (p0.rooms.length : Int)), (30, cI x59)], [oB b1 32 [cM Y9g 3 p0.rooms, cM Y9d 2 p0.stream], oB b5 145 [cM Y9g 3 p0.rooms, cM Y9d 2 p0.stream, cV v56], oA v56 186 Y9s 1 l57]⟩) ((Y21.nil 186 Y9s 1).trans (Y21.both (ns := [2, 1, 0]) rfl rfl)) ?_
  rintro ⟨l57, x58, x59⟩ v56 y275 h
  refine zw ?_
  refine cnd h (fun hb60 h => ?_) fun hb60 h => ?_
  ·
   refine AW.ct hb60 rfl ?_
   refine zw ?_
   refine oi h fun e61 g62 h => ?_
   refine zw ?_
   refine Ops.h (ns := []) rfl rfl (Y1p (cs := [cI 0, cV s0, cV s0]) Yay (Y42 rfl rfl) rfl) ?_
   rintro _ _ ⟨b63, rfl, rfl⟩
   refine zw ?_
   refine Ops.hd (ns := [0]) rfl rfl (Y1u (gs := [cI e61.room, cM Y9b 9 e61.events, cM Y9b 9 e61.parked]) Yb4.h rfl rfl rfl rfl rfl) ?_
   refine Ops.nil ?_
   refine AW.seq ?_
   refine AW.seq ?_
   refine AW.cut (τ := Bool) (fun x67 => ⟨[(1, pt b1), (4, pt b5), (5, cI x58), (6, cI x59), (7, pt b63), (28, cM Y9g 3 p0.rooms), (29, cI (p0.rooms.length : Int)), (30, cI x59), (44, C.bool x67)], [oB b1 32 [cM Y9g 3 p0.rooms, cM Y9d 2 p0.stream], oB b5 145 [cM Y9g 3 p0.rooms, cM Y9d 2 p0.stream, cV v56], oA v56 186 Y9s 1 l57, oB b63 139 [cI e61.room, cM Y9b 9 e61.events, cM Y9b 9 e61.parked]]⟩) (fun x67 => Zfv l57 x58 x59 e61 x67 = some y275) ?_ ?_
   ·
    refine zw ?_
    refine oc h fun r64 g65 h => ?_
    refine zw ?_
    refine cnd h (fun hb66 h => ?_) fun hb66 h => ?_
    ·
     refine zw ?_
     exact ⟨(e61.room != (IntKind.i64.wrap (x59 + 1))), h, Y21.both (ns := [1, 1, 1, 0]) rfl rfl⟩
    refine zw ?_
    exact ⟨true, h, Y21.both (ns := [1, 1, 1, 0]) rfl rfl⟩
   intro x67 h
   replace h : Zfv l57 x58 x59 e61 x67 = some y275 := h
   unfold Zfv at h
   refine cnd h (fun hb68 h => ?_) fun hb68 h => ?_
   ·
    refine AW.ct hb68 rfl ?_
    refine zw ?_
    refine AW.ret ?_
    refine lx h fun h => ?_
    rw [← Wj h]
    exact ⟨[C.any, C.bool false], _, Y21.imp (t := 2) rfl (Imp.any _), (.cons (.tmp rfl) (.cons (.tmp rfl) .nil)), [], _, _, rfl, .inr ⟨rfl, rfl, rfl⟩⟩
   refine AW.cf hb68 rfl ?_
   refine zw ?_
   refine rD [0,0,1] [4,5] [11] [0,4,8,12,17,21,26,30,34,36,40,47] ?_
   refine zw ?_
   refine ob' h fun r83 g84 h => ?_
   refine Y3n.h (ns := []) rfl rfl rfl (Y23 (Zf8 _ _ g84) rfl rfl) ?_
   rintro _ _ ⟨_, ⟨b85, b86, b87, b88, b89, rfl, rfl⟩, rfl⟩
   refine OpsD.one ?_
   refine Y3n.h (ns := [0, 0, 0, 0, 0]) rfl rfl rfl (HOp.frz (t := 51) rfl (Frz.box (fS (fS (fS (FrzL.cons (os := [_]) Frz.map (FrzL.cons (os := [_]) Frz.map (FrzL.cons (os := [_]) Frz.map (FrzL.cons (os := [_]) Frz.map FrzL.nil)))))))) (Y39 (k := Y9s) (ys := [r83]) Ydr (.one rfl One.ip rfl rfl .nil) rfl rfl rfl)) ?_
   rintro _ _ ⟨b90, rfl, rfl⟩
   refine zw ?_
   refine ob' h fun u92 c91 h => ?_
   refine Y3n.h (ns := [1, 0]) rfl rfl rfl (Y2s Ydr rfl rfl (Wo (Y3t c91)) (Y3w (by decide) c91) rfl) ?_
   rintro _ _ ⟨v93, rfl, rfl⟩
   refine OpsD.v rfl rfl (Y14 rfl rfl) ?_
   refine OpsD.v rfl rfl (Y1b Ydm.h rfl rfl) ?_
   refine OpsD.learn (Sim.arr_one (p := 3) rfl) fun n94 => ?_
   refine OpsD.late (ns := [1]) rfl rfl rfl (Y1t (gs := [cM Y9g 3 p0.rooms, cM Y9d 2 p0.stream, cV v93]) Ydn.h rfl rfl (One.val n94) rfl rfl) ?_
   rintro _ _ ⟨rfl, rfl⟩
   refine zw ?_
   refine ob' h fun e95 g96 h => ?_
   refine Ops.v rfl (Y2x (p := 3) Ydo.h rfl rfl rfl g96 rfl) ?_
   refine Ops.v rfl (Y30 (p := 3) Ydd.h rfl rfl (Y29 g96).2.2 rfl rfl) ?_
   exact go
  exact go
 rintro ⟨l100, x101, v99⟩ h
 replace h : Zfu p0 l100 x101 = some r := h
 unfold Zfu at h
 refine zw ?_
 refine Ops.h (ns := []) rfl rfl (Y8k (kc := Y9r) rfl) ?_
 rintro _ _ ⟨b102, rfl, rfl⟩
 refine Ops.h (ns := []) rfl rfl (Y1p (cs := [cV (.map none)]) Yds (Y42 rfl rfl) rfl) ?_
 rintro _ _ ⟨b103, rfl, rfl⟩
 refine Ops.hd (ns := [0]) rfl rfl (Y1t (gs := [mt b102]) Ydt.h rfl rfl (One.val rfl) rfl rfl) ?_
 refine Ops.nil ?_
 refine AW.seq ?_
 refine AW.cut (τ := Unit) (fun (_ : Unit) => ⟨[(1, pt b1), (4, pt b5), (5, cI x101)], [oB b1 32 [cM Y9g 3 p0.rooms, cM Y9d 2 p0.stream], oB b5 145 [cM Y9g 3 p0.rooms, cM Y9d 2 p0.stream, cV v99], oA v99 186 Y9s 1 l100]⟩) (fun (_ : Unit) => Zfp p0 l100 x101 = some r) ?_ ?_
 ·
  refine zw ?_
  refine AW.lp (v := ()) h (fun (m178, x179) (_ : Unit) => ⟨[(1, pt b1), (4, pt b5), (5, cI x101), (8, pt b103), (70, cM Y9d 2 p0.stream), (71, cI (p0.stream.length : Int)), (72, cI x179)], [oB b1 32 [cM Y9g 3 p0.rooms, cM Y9d 2 p0.stream], oB b5 145 [cM Y9g 3 p0.rooms, cM Y9d 2 p0.stream, cV v99], oA v99 186 Y9s 1 l100, oB b103 189 [mt b102], Abs.Obj.pmap b102 Y9r m178]⟩) (gb [2, 2, 2, 0, 0]) ?_
  rintro ⟨m178, x179⟩ _ y268 h
  refine zw ?_
  refine cnd h (fun hb180 h => ?_) fun hb180 h => ?_
  ·
   refine AW.ct hb180 rfl ?_
   refine zw ?_
   refine oi h fun e181 g182 h => ?_
   refine zw ?_
   refine Ops.h (ns := []) rfl rfl (Y1p (cs := [cI 0, cI 0]) Yb8 (Y42 rfl rfl) rfl) ?_
   rintro _ _ ⟨b183, rfl, rfl⟩
   refine Ops.hd (ns := [0]) rfl rfl (Y1u (gs := [cI e181.room, cI e181.id]) Ybd.h rfl rfl rfl rfl rfl) ?_
   refine Ops.nil ?_
   refine AW.seq ?_
   refine AW.seq ?_
   refine AW.cut (τ := Bool) (fun x187 => ⟨[(1, pt b1), (4, pt b5), (5, cI x101), (8, pt b103), (10, pt b183), (70, cM Y9d 2 p0.stream), (71, cI (p0.stream.length : Int)), (72, cI x179), (84, C.bool x187)], [oB b1 32 [cM Y9g 3 p0.rooms, cM Y9d 2 p0.stream], oB b5 145 [cM Y9g 3 p0.rooms, cM Y9d 2 p0.stream, cV v99], oA v99 186 Y9s 1 l100, oB b103 189 [mt b102], Abs.Obj.pmap b102 Y9r m178, oB b183 142 [cI e181.room, cI e181.id]]⟩) (fun x187 => Zfs p0 l100 m178 x179 e181 x187 = some y268) ?_ ?_
   ·
    refine zw ?_
    refine oc h fun r184 g185 h => ?_
    refine zw ?_
    refine cnd h (fun hb186 h => ?_) fun hb186 h => ?_
    ·
     refine Ops.gv rfl rfl rfl rfl (Y3u hb186) (Y1k (p := 4) Ydt.h rfl rfl rfl rfl) ?_
     refine zw ?_
     refine Ops.gv rfl rfl rfl rfl (Y3u hb186) (Y8m (p := 5) (j := (e181.room, e181.id)) (kc := Y9r) (z0 := false) Ydu zv_4 (fun _ _ => rfl) rfl rfl rfl rfl) ?_
     refine zw ?_
     exact ⟨(Option.getD (pget m178 (e181.room, e181.id)) false), h, Y21.both (ns := [1, 1, 1, 1, 1, 0]) rfl rfl⟩
    refine zw ?_
    exact ⟨true, h, Y21.both (ns := [1, 1, 1, 1, 1, 0]) rfl rfl⟩
   intro x187 h
   replace h : Zfs p0 l100 m178 x179 e181 x187 = some y268 := h
   unfold Zfs at h
   refine cnd h (fun hb188 h => ?_) fun hb188 h => ?_
   ·
    refine AW.ct hb188 rfl ?_
    refine zw ?_
    refine AW.ret ?_
    refine lx h fun h => ?_
    rw [← Wj h]
    exact ⟨[C.any, C.bool false], _, Y21.imp (t := 2) rfl (Imp.any _), (.cons (.tmp rfl) (.cons (.tmp rfl) .nil)), [], _, _, rfl, .inr ⟨rfl, rfl, rfl⟩⟩
   refine AW.cf hb188 rfl ?_
   refine AW.skip ?_
   refine AW.seq ?_
   refine AW.region ?_
   refine Ops.v rfl (Yq rfl rfl) ?_
   refine Ops.v rfl (Y1b Yba.h rfl rfl) ?_
   refine Ops.v rfl (Y1k (p := 5) ld_2.h rfl rfl rfl rfl) ?_
   refine ob' h fun r189 g190 h => ?_
   refine Ops.hd (ns := [1, 1]) rfl rfl (Y24 (Zff (Y9a.mk p0 l100) e181.room _ g190) rfl rfl) ?_
   refine Ops.h (ns := []) rfl rfl (Y1p (cs := [cV (.pointer none)]) Ydv (Y42 rfl rfl) rfl) ?_
   rintro _ _ ⟨b191, rfl, rfl⟩
   refine Ops.hd (ns := [0]) rfl rfl (Y1t (gs := [C.ip [cI r189.graph.room, cM Y9b 9 r189.graph.events, cM Y9b 9 r189.graph.parked, C.imap .i64 Y9p r189.depth, C.imap .i64 Y9q r189.before, C.imap .i64 Y9q r189.after, C.imap .i64 Y9p r189.refused]]) Ydd.h rfl rfl One.ip rfl rfl) ?_
   refine Ops.nil ?_
   refine AW.seq ?_
   refine AW.cut (τ := Int × Int × Int × Int × Int × Int × ByteArray × List Int × Int × Bool × Nat) (fun (x196, x197, x198, x199, x200, x201, x202, l203, x204, x205, b195) => ⟨[(1, pt b1), (4, pt b5), (5, cI x101), (8, pt b103), (10, pt b183), (11, pt b191), (12, pt b195), (13, C.bool x205), (70, cM Y9d 2 p0.stream), (71, cI (p0.stream.length : Int)), (72, cI x179)], [oB b1 32 [cM Y9g 3 p0.rooms, cM Y9d 2 p0.stream], oB b5 145 [cM Y9g 3 p0.rooms, cM Y9d 2 p0.stream, cV v99], oA v99 186 Y9s 1 l100, oB b103 189 [mt b102], Abs.Obj.pmap b102 Y9r m178, oB b183 142 [cI e181.room, cI e181.id], oB b191 186 [C.ip [cI r189.graph.room, cM Y9b 9 r189.graph.events, cM Y9b 9 r189.graph.parked, C.imap .i64 Y9p r189.depth, C.imap .i64 Y9q r189.before, C.imap .i64 Y9q r189.after, C.imap .i64 Y9p r189.refused]], oB b195 136 [cI x196, cI x197, cI x198, cI x199, cI x200, cI x201, C.str x202, cM kI64 1 l203, cI x204]]⟩) (fun (x196, x197, x198, x199, x200, x201, x202, l203, x204, x205, b195) => Zfr m178 x179 e181 r189 x196 x197 x198 x199 x200 x201 x202 l203 x204 x205 = some y268) ?_ ?_
   ·
    refine AW.regionD (L := [0, 3, 5]) (Lt := [11]) (k := .light 0 true (.light 1 false (.light 2 false (.light 3 true (.light 4 false (.light 5 true (.two 6 10 (.light 7 false (.light 8 false (.light 9 false (.one 10 (.late 11 (.light 12 false .done)))))) (.one 6 (.light 7 false (.light 8 false (.light 9 false (.late 11 (.light 12 false .done))))))))))))) (ns := [0, 0, 0, 0, 0, 0, 0]) (by kernel_rfl) (by kernel_rfl) (by kernel_rfl) (by kernel_rfl) rfl ?_
    refine OpsD.v rfl rfl (Y1k (p := 0) Ydd.h rfl rfl rfl rfl) ?_
    refine OpsD.v rfl rfl (Y15 rfl rfl) ?_
    refine OpsD.v rfl rfl (Y1c Yde.h rfl rfl rfl) ?_
    refine OpsD.v rfl rfl (Y1i Yb4.h rfl rfl rfl rfl) ?_
    refine OpsD.v rfl rfl (Y1b Ybc.h rfl rfl) ?_
    refine OpsD.v rfl rfl (Y1k (p := 6) ld_2.h rfl rfl rfl rfl) ?_
    refine ob' h fun r192 g193 h => ?_
    refine OpsD.two ?_ ?_
    ·
     refine Y3n.h (ns := []) rfl rfl rfl (Y24 ((Zc9 _ _).h _ g193) rfl rfl) ?_
     rintro _ _ ⟨rfl, rfl⟩
     refine OpsD.v rfl rfl (Yq rfl rfl) ?_
     refine OpsD.v rfl rfl (Y13 rfl rfl rfl) ?_
     refine OpsD.v rfl rfl (Y13 rfl rfl rfl) ?_
     refine OpsD.one ?_
     refine Y3n.h (ns := []) rfl rfl rfl (Y1p (cs := [cI 0, cI 0, cI 0, cI 0, cI 0, cI 0, C.str ByteArray.empty, cV s0, cI 0]) Yac (Y42 rfl rfl) rfl) ?_
     rintro _ _ ⟨b194, rfl, rfl⟩
     refine OpsD.late (ns := [7]) rfl rfl rfl (Y1u (gs := [cI r192.1.id, cI r192.1.room, cI r192.1.author, cI r192.1.kind, cI r192.1.key, cI r192.1.n, C.str r192.1.text, cM kI64 1 r192.1.prev, cI r192.1.time]) Yat.h rfl rfl rfl rfl rfl) ?_
     rintro _ _ ⟨rfl, rfl⟩
     refine zw ?_
     exact ⟨(r192.1.id, r192.1.room, r192.1.author, r192.1.kind, r192.1.key, r192.1.n, r192.1.text, r192.1.prev, r192.1.time, r192.2, b194), h, Y21.both (ns := [4, 2, 2, 2, 2, 2, 1, 0]) rfl rfl⟩
    refine Y3n.h (ns := []) rfl rfl rfl (Y1p (cs := [cI 0, cI 0, cI 0, cI 0, cI 0, cI 0, C.str ByteArray.empty, cV s0, cI 0]) Yac (Y42 rfl rfl) rfl) ?_
    rintro _ _ ⟨b194, rfl, rfl⟩
    refine OpsD.one ?_
    refine Y3n.h (ns := []) rfl rfl rfl (Y24 ((Zc9 _ _).h _ g193) rfl rfl) ?_
    rintro _ _ ⟨rfl, rfl⟩
    refine zw ?_
    refine OpsD.late (ns := [7]) rfl rfl rfl (Y1u (gs := [cI r192.1.id, cI r192.1.room, cI r192.1.author, cI r192.1.kind, cI r192.1.key, cI r192.1.n, C.str r192.1.text, cM kI64 1 r192.1.prev, cI r192.1.time]) Yat.h rfl rfl rfl rfl rfl) ?_
    rintro _ _ ⟨rfl, rfl⟩
    refine zw ?_
    exact ⟨(r192.1.id, r192.1.room, r192.1.author, r192.1.kind, r192.1.key, r192.1.n, r192.1.text, r192.1.prev, r192.1.time, r192.2, b194), h, Y21.both (ns := [4, 2, 2, 2, 2, 2, 1, 0]) rfl rfl⟩
   rintro ⟨x196, x197, x198, x199, x200, x201, x202, l203, x204, x205, b195⟩ h
   replace h : Zfr m178 x179 e181 r189 x196 x197 x198 x199 x200 x201 x202 l203 x204 x205 = some y268 := h
   unfold Zfr at h
   refine AW.seq ?_
   refine AW.seq ?_
   refine AW.cut (τ := Bool) (fun x252 => ⟨[(1, pt b1), (4, pt b5), (5, cI x101), (8, pt b103), (10, pt b183), (70, cM Y9d 2 p0.stream), (71, cI (p0.stream.length : Int)), (72, cI x179), (116, C.bool x252)], [oB b1 32 [cM Y9g 3 p0.rooms, cM Y9d 2 p0.stream], oB b5 145 [cM Y9g 3 p0.rooms, cM Y9d 2 p0.stream, cV v99], oA v99 186 Y9s 1 l100, oB b103 189 [mt b102], Abs.Obj.pmap b102 Y9r m178, oB b183 142 [cI e181.room, cI e181.id]]⟩) (fun x252 => Zfq m178 x179 e181 x252 = some y268) ?_ ?_
   ·
    refine AW.regionD (L := [3, 6, 8, 9, 14]) (Lt := []) (k := .light 0 false (.light 1 false (.light 2 false (.light 7 false (.two 3 8 (.light 4 false (.light 5 false (.two 6 8 (.one 8 (.one 9 (.light 10 false (.light 11 false (.light 12 false (.light 13 false (.light 15 false (.one 14 (.one 16 (.light 17 false .done)))))))))) (.one 6 (.one 9 (.light 10 false (.light 11 false (.light 12 false (.light 13 false (.light 15 false (.one 14 (.one 16 (.light 17 false .done))))))))))))) (.one 3 (.light 4 false (.light 5 false (.one 6 (.one 9 (.light 10 false (.light 11 false (.light 12 false (.light 13 false (.light 15 false (.one 14 (.one 16 (.light 17 false .done)))))))))))))))))) (ns := [0, 0, 0, 4]) (by kernel_rfl) (by kernel_rfl) (by kernel_rfl) (by kernel_rfl) rfl ?_
    refine zw ?_
    refine cnd h (fun hb242 h => ?_) fun hb242 h => ?_
    ·
     refine zw ?_
     refine OpsD.two ?_ ?_
     ·
      refine Y3n.gv rfl rfl rfl rfl rfl (Y3u hb242) (Y1k (p := 7) Ydd.h rfl rfl rfl rfl) ?_
      refine zw ?_
      refine OpsD.two ?_ ?_
      ·
       refine Y3n.gv rfl rfl rfl rfl rfl (Y3u hb242) (Y1h Ydg.h rfl rfl) ?_
       refine OpsD.one ?_
       refine Y3n.gv rfl rfl rfl rfl rfl (Y3u hb242) (Y1k (p := 6) ld_2.h rfl rfl rfl rfl) ?_
       refine OpsD.one ?_
       refine Y3n.gv rfl rfl rfl rfl rfl (Y3u hb242) (Y8a (kc := Y9p) (z0 := 0) Ydh zv_2 (fun _ _ => rfl) rfl rfl rfl) ?_
       refine zw ?_
       refine cnd h (fun hb243 h => ?_) fun hb243 h => ?_
       ·
        refine OpsD.gs rfl rfl rfl rfl (.b rfl hb243) rfl rfl ?_
        refine OpsD.gs rfl rfl rfl rfl (.b rfl hb243) rfl rfl ?_
        refine OpsD.one ?_
        refine Y3n.gs rfl rfl rfl rfl (.b rfl hb243) rfl rfl ?_
        refine OpsD.one ?_
        refine Y3n.gs rfl rfl rfl rfl (.b rfl hb243) rfl rfl ?_
        refine zw ?_
        exact ⟨true, h, Y21.both (ns := [0, 0, 0, 1, 1, 1]) rfl rfl⟩
       refine zw ?_
       refine OpsD.gv rfl rfl rfl rfl rfl hb243 (Y6q rfl rfl) ?_
       refine OpsD.one ?_
       refine Y3n.gv rfl rfl rfl rfl rfl hb243 (Y1k (p := 3) Y9y.h rfl rfl rfl rfl) ?_
       refine zw ?_
       refine ob' h fun r244 g245 h => ?_
       refine Y3n.gh (ns := [3, 0, 0, 0]) rfl rfl rfl rfl rfl hb243 rfl (Y24 (Zfo l203 r189 m178 e181 _ g245) rfl rfl) ?_
       rintro _ _ ⟨rfl, rfl⟩
       refine zw ?_
       exact ⟨r244, h, Y21.both (ns := [0, 0, 0, 2, 2, 2]) rfl rfl⟩
      refine Y3n.gv rfl rfl rfl rfl rfl (Y3u hb242) (Y1k (p := 6) ld_2.h rfl rfl rfl rfl) ?_
      refine OpsD.one ?_
      refine Y3n.gv rfl rfl rfl rfl rfl (Y3u hb242) (Y1h Ydg.h rfl rfl) ?_
      refine OpsD.one ?_
      refine Y3n.gv rfl rfl rfl rfl rfl (Y3u hb242) (Y8a (kc := Y9p) (z0 := 0) Ydh zv_2 (fun _ _ => rfl) rfl rfl rfl) ?_
      refine zw ?_
      refine cnd h (fun hb246 h => ?_) fun hb246 h => ?_
      ·
       refine OpsD.gs rfl rfl rfl rfl (.b rfl hb246) rfl rfl ?_
       refine OpsD.gs rfl rfl rfl rfl (.b rfl hb246) rfl rfl ?_
       refine OpsD.one ?_
       refine Y3n.gs rfl rfl rfl rfl (.b rfl hb246) rfl rfl ?_
       refine OpsD.one ?_
       refine Y3n.gs rfl rfl rfl rfl (.b rfl hb246) rfl rfl ?_
       refine zw ?_
       exact ⟨true, h, Y21.both (ns := [0, 0, 0, 1, 1, 1]) rfl rfl⟩
      refine zw ?_
      refine OpsD.gv rfl rfl rfl rfl rfl hb246 (Y6q rfl rfl) ?_
      refine OpsD.one ?_
      refine Y3n.gv rfl rfl rfl rfl rfl hb246 (Y1k (p := 3) Y9y.h rfl rfl rfl rfl) ?_
      refine zw ?_
      refine ob' h fun r247 g248 h => ?_
      refine Y3n.gh (ns := [3, 0, 0, 0]) rfl rfl rfl rfl rfl hb246 rfl (Y24 (Zfo l203 r189 m178 e181 _ g248) rfl rfl) ?_
      rintro _ _ ⟨rfl, rfl⟩
      refine zw ?_
      exact ⟨r247, h, Y21.both (ns := [0, 0, 0, 2, 2, 2]) rfl rfl⟩
     refine Y3n.gv rfl rfl rfl rfl rfl (Y3u hb242) (Y1k (p := 6) ld_2.h rfl rfl rfl rfl) ?_
     refine OpsD.one ?_
     refine Y3n.gv rfl rfl rfl rfl rfl (Y3u hb242) (Y1k (p := 7) Ydd.h rfl rfl rfl rfl) ?_
     refine OpsD.gv rfl rfl rfl rfl rfl (Y3u hb242) (Y15 rfl rfl) ?_
     refine OpsD.gv rfl rfl rfl rfl rfl (Y3u hb242) (Y1c Ydj.h rfl rfl rfl) ?_
     refine OpsD.one ?_
     refine Y3n.gv rfl rfl rfl rfl rfl (Y3u hb242) (Y1h Ydg.h rfl rfl) ?_
     refine OpsD.one ?_
     refine Y3n.gv rfl rfl rfl rfl rfl (Y3u hb242) (Y8a (kc := Y9p) (z0 := 0) Ydh zv_2 (fun _ _ => rfl) rfl rfl rfl) ?_
     refine zw ?_
     refine cnd h (fun hb249 h => ?_) fun hb249 h => ?_
     ·
      refine OpsD.gs rfl rfl rfl rfl (.b rfl hb249) rfl rfl ?_
      refine OpsD.gs rfl rfl rfl rfl (.b rfl hb249) rfl rfl ?_
      refine OpsD.one ?_
      refine Y3n.gs rfl rfl rfl rfl (.b rfl hb249) rfl rfl ?_
      refine OpsD.one ?_
      refine Y3n.gs rfl rfl rfl rfl (.b rfl hb249) rfl rfl ?_
      refine zw ?_
      exact ⟨true, h, Y21.both (ns := [0, 0, 0, 1, 1, 1]) rfl rfl⟩
     refine zw ?_
     refine OpsD.gv rfl rfl rfl rfl rfl hb249 (Y6q rfl rfl) ?_
     refine OpsD.one ?_
     refine Y3n.gv rfl rfl rfl rfl rfl hb249 (Y1k (p := 3) Y9y.h rfl rfl rfl rfl) ?_
     refine zw ?_
     refine ob' h fun r250 g251 h => ?_
     refine Y3n.gh (ns := [3, 0, 0, 0]) rfl rfl rfl rfl rfl hb249 rfl (Y24 (Zfo l203 r189 m178 e181 _ g251) rfl rfl) ?_
     rintro _ _ ⟨rfl, rfl⟩
     refine zw ?_
     exact ⟨r250, h, Y21.both (ns := [0, 0, 0, 2, 2, 2]) rfl rfl⟩
    refine zw ?_
    refine OpsD.two ?_ ?_
    ·
     refine Y3n.gs rfl rfl rfl rfl (.b rfl (Y3v hb242)) rfl rfl ?_
     refine zw ?_
     refine OpsD.two ?_ ?_
     ·
      refine Y3n.gs rfl rfl rfl rfl (.b rfl (Y3v hb242)) rfl rfl ?_
      refine OpsD.one ?_
      refine Y3n.gs rfl rfl rfl rfl (.b rfl (Y3v hb242)) rfl rfl ?_
      refine OpsD.one ?_
      refine Y3n.gs rfl rfl rfl rfl (.b rfl (Y3v hb242)) rfl rfl ?_
      refine OpsD.gs rfl rfl rfl rfl (.b rfl (Y3v hb242)) rfl rfl ?_
      refine OpsD.v rfl rfl (Ys rfl (Y3v hb242) rfl rfl) ?_
      refine OpsD.v rfl rfl (Yq rfl rfl) ?_
      refine OpsD.gs rfl rfl rfl rfl (.b rfl rfl) rfl rfl ?_
      refine OpsD.gs rfl rfl rfl rfl (.b rfl rfl) rfl rfl ?_
      refine OpsD.one ?_
      refine Y3n.gs rfl rfl rfl rfl (.b rfl rfl) rfl rfl ?_
      refine OpsD.one ?_
      refine Y3n.gs rfl rfl rfl rfl (.b rfl rfl) rfl rfl ?_
      refine zw ?_
      exact ⟨true, h, Y21.both (ns := [0, 0, 0, 1, 1, 1]) rfl rfl⟩
     refine Y3n.gs rfl rfl rfl rfl (.b rfl (Y3v hb242)) rfl rfl ?_
     refine OpsD.one ?_
     refine Y3n.gs rfl rfl rfl rfl (.b rfl (Y3v hb242)) rfl rfl ?_
     refine OpsD.one ?_
     refine Y3n.gs rfl rfl rfl rfl (.b rfl (Y3v hb242)) rfl rfl ?_
     refine OpsD.gs rfl rfl rfl rfl (.b rfl (Y3v hb242)) rfl rfl ?_
     refine OpsD.v rfl rfl (Ys rfl (Y3v hb242) rfl rfl) ?_
     refine OpsD.v rfl rfl (Yq rfl rfl) ?_
     refine OpsD.gs rfl rfl rfl rfl (.b rfl rfl) rfl rfl ?_
     refine OpsD.gs rfl rfl rfl rfl (.b rfl rfl) rfl rfl ?_
     refine OpsD.one ?_
     refine Y3n.gs rfl rfl rfl rfl (.b rfl rfl) rfl rfl ?_
     refine OpsD.one ?_
     refine Y3n.gs rfl rfl rfl rfl (.b rfl rfl) rfl rfl ?_
     refine zw ?_
     exact ⟨true, h, Y21.both (ns := [0, 0, 0, 1, 1, 1]) rfl rfl⟩
    refine Y3n.gs rfl rfl rfl rfl (.b rfl (Y3v hb242)) rfl rfl ?_
    refine OpsD.one ?_
    refine Y3n.gs rfl rfl rfl rfl (.b rfl (Y3v hb242)) rfl rfl ?_
    refine OpsD.gs rfl rfl rfl rfl (.b rfl (Y3v hb242)) rfl rfl ?_
    refine OpsD.gs rfl rfl rfl rfl (.b rfl (Y3v hb242)) rfl rfl ?_
    refine OpsD.one ?_
    refine Y3n.gs rfl rfl rfl rfl (.b rfl (Y3v hb242)) rfl rfl ?_
    refine OpsD.one ?_
    refine Y3n.gs rfl rfl rfl rfl (.b rfl (Y3v hb242)) rfl rfl ?_
    refine OpsD.gs rfl rfl rfl rfl (.b rfl (Y3v hb242)) rfl rfl ?_
    refine OpsD.v rfl rfl (Ys rfl (Y3v hb242) rfl rfl) ?_
    refine OpsD.v rfl rfl (Yq rfl rfl) ?_
    refine OpsD.gs rfl rfl rfl rfl (.b rfl rfl) rfl rfl ?_
    refine OpsD.gs rfl rfl rfl rfl (.b rfl rfl) rfl rfl ?_
    refine OpsD.one ?_
    refine Y3n.gs rfl rfl rfl rfl (.b rfl rfl) rfl rfl ?_
    refine OpsD.one ?_
    refine Y3n.gs rfl rfl rfl rfl (.b rfl rfl) rfl rfl ?_
    refine zw ?_
    exact ⟨true, h, Y21.both (ns := [0, 0, 0, 1, 1, 1]) rfl rfl⟩
   intro x252 h
   replace h : Zfq m178 x179 e181 x252 = some y268 := h
   unfold Zfq at h
   refine cnd h (fun hb253 h => ?_) fun hb253 h => ?_
   ·
    refine AW.ct hb253 rfl ?_
    refine zw ?_
    refine AW.ret ?_
    refine lx h fun h => ?_
    rw [← Wj h]
    exact ⟨[C.any, C.bool false], _, Y21.imp (t := 2) rfl (Imp.any _), (.cons (.tmp rfl) (.cons (.tmp rfl) .nil)), [], _, _, rfl, .inr ⟨rfl, rfl, rfl⟩⟩
   refine AW.cf hb253 rfl ?_
   refine AW.skip ?_
   refine AW.region ?_
   refine Ops.v rfl (Y1k (p := 3) Ydt.h rfl rfl rfl rfl) ?_
   refine Ops.v rfl (Y1l (p := 5) (ds := [cI e181.room, cI e181.id]) Ybd.h rfl rfl rfl rfl rfl) ?_
   refine Ops.hd (ns := [4]) rfl rfl (Y8n (j := (e181.room, e181.id)) (kc := Y9r) (v := true) Ydu rfl rfl rfl rfl) ?_
   refine zw ?_
   exact lu h (gb [1, 1, 1, 1, 0])
  exact go
 rintro ⟨⟩ h
 replace h : Zfp p0 l100 x101 = some r := h
 unfold Zfp at h
 refine zw ?_
 refine rD [0,0,0] [3] [] [0,4,8,13,16,20,24,28] ?_
 refine zw ?_
 refine AW.ret ?_
 refine cnd h (fun hb254 h => ?_) fun hb254 h => ?_
 ·
  rw [← Wj h]
  exact ⟨[C.ip [cM Y9g 3 p0.rooms, cM Y9d 2 p0.stream, cM Y9s 1 l100], C.bool (x101 == (p0.stream.length : Int))], _, Y21.freezeBy (ns := [1, 1]) (t := 2) rfl rfl (Frz.box (fS (fS (FrzL.cons (os := [_]) Frz.arr FrzL.nil)))), (.cons (.tmp rfl) (.cons (.tmp rfl) .nil)), [], _, _, rfl, .inl ⟨hb254, rfl, rfl⟩⟩
 rw [← Wj h]
 exact ⟨[C.any, C.bool (x101 == (p0.stream.length : Int))], _, Y21.imp (t := 2) rfl (Imp.any _), (.cons (.tmp rfl) (.cons (.tmp rfl) .nil)), [], _, _, rfl, .inr ⟨hb254, rfl, rfl⟩⟩

def Zg0 (p0 : Int) : Option Bool := (Z83 p0 1 20).bind fun r1 => some r1
instance Zg1 (p0 : Int) : Sp Tryz.prog 172 [cI p0] (Zg0 p0) C.bool := sp Tryz.func172 rfl rfl fun r X h => go

def Zg2 (r2 : Y9a × Bool) (x16 : Bool) : Option (Y9a × Bool) := cond x16 (some (r2.1, x16)) (some ((Y9a.mk (Y93.mk [] []) []), x16))
def Zg3 (p0 : Y93) (p1 : Int) (p2 : Int) (p3 : Int) (p4 : Int) : Option (Y9a × Bool) := (Zfy p0).bind fun r2 => cond r2.2 ((Z89 p1).bind fun r5 => cond r5 ((Z85 p2).bind fun r8 => cond r8 ((Zg0 p4).bind fun r11 => cond r11 ((Z83 p3 0 (r2.1.hub.stream.length : Int)).bind fun r14 => Zg2 r2 r14) (Zg2 r2 false)) (Zg2 r2 false)) (Zg2 r2 false)) (some ((Y9a.mk (Y93.mk [] []) []), false))
theorem Zg4 (p0 : Y93) (p1 : Int) (p2 : Int) (p3 : Int) (p4 : Int) (r : Y9a × Bool) (h : Zg3 p0 p1 p2 p3 p4 = some r) : Ok Tryz.prog 121 [C.agg [cM Y9g 3 p0.rooms, cM Y9d 2 p0.stream], cI p1, cI p2, cI p3, cI p4] [] (fun c qs => (r.2 = true ∧ c = C.tup [C.ip [cM Y9g 3 r.1.hub.rooms, cM Y9d 2 r.1.hub.stream, cM Y9s 1 r.1.rooms], C.bool r.2] ∧ qs = []) ∨ (r.2 = false ∧ c = C.tup [C.any, C.bool r.2] ∧ qs = [])) := by
 refine Ok.of_body (rs := [.tmp 10, .tmp 11]) Tryz.func121 rfl rfl rfl rfl rfl fun X => ?_
 unfold Zg3 at h
 refine zw ?_
 refine ox fun b1 => ?_
 refine zw ?_
 refine ob' h fun r2 g3 h => ?_
 refine Ops.h (ns := []) rfl rfl (Y23 (Zfz _ _ g3) rfl rfl) ?_
 rintro _ _ ⟨_, ⟨hb4, rfl, rfl⟩ | ⟨hb4, rfl, rfl⟩, rfl⟩
 ·
  replace h := Y3r hb4 h
  refine Ops.v rfl (Yq rfl rfl) ?_
  refine Ops.v rfl (Y13 rfl rfl rfl) ?_
  refine Ops.v rfl (Y13 rfl rfl rfl) ?_
  refine Ops.v rfl (Yr rfl rfl) ?_
  refine Ops.v rfl (Yr rfl rfl) ?_
  refine Ops.nil ?_
  refine AW.seq ?_
  refine AW.cut (τ := Bool) (fun x16 => ⟨[(10, C.ip [cM Y9g 3 r2.1.hub.rooms, cM Y9d 2 r2.1.hub.stream, cM Y9s 1 r2.1.rooms]), (11, C.bool x16)], []⟩) (fun x16 => Zg2 r2 x16 = some r) ?_ ?_
  ·
   refine zw ?_
   refine ob' h fun r5 g6 h => ?_
   refine Ops.ghd (ns := []) rfl rfl rfl rfl hb4 rfl (Y24 ((Z8a _).h _ g6) rfl rfl) ?_
   refine zw ?_
   refine cnd h (fun hb7 h => ?_) fun hb7 h => ?_
   ·
    refine zw ?_
    refine ob' h fun r8 g9 h => ?_
    refine Ops.ghd (ns := []) rfl rfl rfl rfl hb7 rfl (Y24 ((Z86 _).h _ g9) rfl rfl) ?_
    refine zw ?_
    refine cnd h (fun hb10 h => ?_) fun hb10 h => ?_
    ·
     refine zw ?_
     refine ob' h fun r11 g12 h => ?_
     refine Ops.ghd (ns := []) rfl rfl rfl rfl hb10 rfl (Y24 ((Zg1 _).h _ g12) rfl rfl) ?_
     refine zw ?_
     refine cnd h (fun hb13 h => ?_) fun hb13 h => ?_
     ·
      refine zw ?_
      refine ob' h fun r14 g15 h => ?_
      refine Ops.ghd (ns := []) rfl rfl rfl rfl hb13 rfl (Y24 ((Z84 _ _ _).h _ g15) rfl rfl) ?_
      exact go
     exact go
    exact go
   exact go
  intro x16 h
  replace h : Zg2 r2 x16 = some r := h
  unfold Zg2 at h
  refine AW.ret ?_
  refine cnd h (fun hb17 h => ?_) fun hb17 h => ?_
  ·
   rw [← Wj h]
   exact ⟨[C.ip [cM Y9g 3 r2.1.hub.rooms, cM Y9d 2 r2.1.hub.stream, cM Y9s 1 r2.1.rooms], C.bool x16], _, Y21.refl _, (.cons (.tmp rfl) (.cons (.tmp rfl) .nil)), [], _, _, rfl, .inl ⟨hb17, rfl, rfl⟩⟩
  rw [← Wj h]
  exact ⟨[C.any, C.bool x16], _, Y21.imp (t := 10) rfl (Imp.any _), (.cons (.tmp rfl) (.cons (.tmp rfl) .nil)), [], _, _, rfl, .inr ⟨hb17, rfl, rfl⟩⟩
 replace h := Y3s hb4 h
 refine zw ?_
 refine AW.ret ?_
 rw [← Wj h]
 exact ⟨[C.any, C.bool false], _, Y21.imp (t := 10) rfl (Imp.any _), (.cons (.tmp rfl) (.cons (.tmp rfl) .nil)), [], _, _, rfl, .inr ⟨rfl, rfl, rfl⟩⟩

def Zg5 : Option Int := some (-1)
def Zg6 (p0 : List Y91) (p1 : Y91) (x6 : Int) : Option (Int ⊕ (Int ⊕ Unit)) := cond (decide (x6 < (p0.length : Int))) ((getI p0 x6).bind fun e8 => cond ((p1.room == e8.room) && ((p1.id == e8.id) && true)) (some (.inr (.inl x6))) (some (.inl (IntKind.i64.wrap (x6 + 1))))) (some (.inr (.inr ())))
def Zg7 (p0 : List Y91) (p1 : Y91) : Option Int := (iter (Zg6 p0 p1) big 0).bind (fun z12 => match z12 with | .inl y11 => some y11 | .inr () => Zg5)
instance Zg8 (p0 : List Y91) (p1 : Y91) : Sp Tryz.prog 166 [cM Y9d 2 p0, C.agg [cI p1.room, cI p1.id]] (Zg7 p0 p1) cI := sp Tryz.func166 rfl rfl fun r X h => by
 unfold Zg7 at h
 refine zw ?_
 refine ox fun b1 => ?_
 refine zw ?_
 refine AW.lp (v := ()) h (fun x6 (_ : Unit) => ⟨[(0, cM Y9d 2 p0), (3, pt b1), (7, cI (p0.length : Int)), (8, cI x6)], [oB b1 142 [cI p1.room, cI p1.id]]⟩) (gb [0]) ?_
 rintro x6 _ y18 h
 refine zw ?_
 refine cnd h (fun hb7 h => ?_) fun hb7 h => ?_
 ·
  refine AW.ct hb7 rfl ?_
  refine zw ?_
  refine rD [0] [0,4] [] [1,4,8,12,17,20] ?_
  refine zw ?_
  refine di h fun e8 g9 h => ?_
  refine zw ?_
  refine OpsD.v rfl rfl (Y5l [.int .i64 p1.room, .int .i64 p1.id] [.int .i64 e8.room, .int .i64 e8.id] Ycq rfl rfl rfl rfl rfl rfl) ?_
  exact go
 exact go

def Zg9 (p0 : Y92) (p1 : List Y94) : Option Int := (Zd2 p0 p1 6 0).bind fun r2 => cond r2.2 (some r2.1.n) (some 2)
instance Zga (p0 : Y92) (p1 : List Y94) : Sp Tryz.prog 164 [C.agg [cI p0.room, cM Y9b 9 p0.events, cM Y9b 9 p0.parked], cM Y9j 3 p1] (Zg9 p0 p1) cI := sp Tryz.func164 rfl rfl fun r X h => by
 unfold Zg9 at h
 refine zw ?_
 refine ox fun b1 => ?_
 refine zw ?_
 refine oc h fun r2 g3 h => ?_
 refine zw ?_
 refine Ops.h (ns := []) rfl rfl (Y1p (cs := [cI 0, cI 0, cI 0, cI 0, cI 0, cI 0, C.str ByteArray.empty, cV s0, cI 0]) Yac (Y42 rfl rfl) rfl) ?_
 rintro _ _ ⟨b4, rfl, rfl⟩
 refine Ops.hd (ns := [0]) rfl rfl (Y1u (gs := [cI r2.1.id, cI r2.1.room, cI r2.1.author, cI r2.1.kind, cI r2.1.key, cI r2.1.n, C.str r2.1.text, cM kI64 1 r2.1.prev, cI r2.1.time]) Yat.h rfl rfl rfl rfl rfl) ?_
 exact go

def Zgb (p0 : List Int) : Option (List Int) := some p0
def Zgc (l85 : List Int) (x86 : Int) : Option (Int ⊕ ((List Int) ⊕ Unit)) := (chk (decide ((0 : Int) ≤ x86 ∧ x86 ≤ (l85.length : Int)))).bind fun u88 => (chk (decide ((Int.toNat x86) ≤ l85.length))).bind fun u90 => (chk (decide ((0 : Int) ≤ x86 ∧ x86 ≤ ((List.take (Int.toNat x86) l85 ++ List.replicate (l85.length - (Int.toNat x86)) 0).length : Int)))).bind fun u92 => some (.inr (.inl (List.take (Int.toNat x86) (List.take (Int.toNat x86) l85 ++ List.replicate (l85.length - (Int.toNat x86)) 0))))
def Zgd (x70 : Int) (l83 : List Int) (x84 : Int) : Option ((List Int × Int × Int) ⊕ ((List Int × Int))) := some (.inl (l83, x84, (IntKind.i64.wrap (x70 + 1))))
def Zge (x47 : Int) (l68 : List Int) (x69 : Int) (x70 : Int) : Option ((List Int × Int × Int) ⊕ ((List Int × Int))) := (chk (decide ((Int.toNat x47) ≤ l68.length))).bind fun u72 => cond (decide (x70 < ((List.drop (Int.toNat x47) l68).length : Int))) ((getI (List.drop (Int.toNat x47) l68) x70).bind fun e74 => (getI (List.drop (Int.toNat x47) l68) (IntKind.i64.wrap (x70 - 1))).bind fun e76 => cond (e74 != e76) ((getI (List.drop (Int.toNat x47) l68) x70).bind fun e79 => (getI l68 x69).bind fun e81 => Zgd x70 (List.set l68 (Int.toNat x69) e79) (IntKind.i64.wrap (x69 + 1))) (Zgd x70 l68 x69)) (some (.inr (l68, x69)))
def Zgf (p0 : List Int) (x47 : Int) : Option (Int ⊕ ((List Int) ⊕ Unit)) := cond (decide (x47 < (p0.length : Int))) ((getI p0 x47).bind fun e49 => (getI p0 (IntKind.i64.wrap (x47 - 1))).bind fun e51 => cond (e49 == e51) ((chk (decide ((0 : Int) ≤ x47 ∧ x47 ≤ (p0.length : Int)))).bind fun u55 => (iter (fun z94 => Zge x47 z94.1 z94.2.1 z94.2.2) big (p0, x47, 1)).bind fun (y95, y96) => Zgc y95 y96) (some (.inl (IntKind.i64.wrap (x47 + 1))))) (some (.inr (.inr ())))
def Zgg (p0 : List Int) : Option (List Int) := cond (decide ((p0.length : Int) < 2)) (some p0) ((iter (Zgf p0) big 1).bind (fun z98 => match z98 with | .inl y97 => some y97 | .inr () => Zgb p0))
theorem Zgh {w00 : Value} (p0 : List Int) (r : List Int) (h : Zgg p0 = some r) : Ok Tryz.prog 257 [cV w00] [oA w00 2 kI64 1 p0] (fun c qs => ∃ (v93 : Value), c = cV v93 ∧ qs = [oA v93 2 kI64 1 r]) := by
 refine Ok.of_body (rs := [.tmp 2]) Tryz.func257 rfl rfl rfl rfl rfl fun X => ?_
 unfold Zgg at h
 refine zw ?_
 refine cnd h (fun hb1 h => ?_) fun hb1 h => ?_
 ·
  refine AW.ct hb1 rfl ?_
  refine zw ?_
  refine AW.ret ?_
  rw [← Wj h]
  exact ⟨[cV w00], _, Y21.refl _, (.cons (.tmp rfl) .nil), [0], _, _, rfl, ⟨w00, rfl, rfl⟩⟩
 refine AW.cf hb1 rfl ?_
 refine AW.skip ?_
 refine AW.seq ?_
 refine AW.cut (τ := Unit) (fun (_ : Unit) => ⟨[(0, cV w00)], [oA w00 2 kI64 1 p0]⟩) (fun (_ : Unit) => Zgb p0 = some r) ?_ ?_
 ·
  refine zw ?_
  refine AW.lp (v := ()) h (fun x47 (_ : Unit) => ⟨[(0, cV w00), (3, cI x47)], [oA w00 2 kI64 1 p0]⟩) (gb [0]) ?_
  rintro x47 _ y104 h
  refine zw ?_
  refine cnd h (fun hb48 h => ?_) fun hb48 h => ?_
  ·
   refine AW.ct hb48 rfl ?_
   refine zw ?_
   refine rD [0] [3,8] [] [0,4,8,13,16,20,24,28,33,36] ?_
   refine zw ?_
   refine di h fun e49 g50 h => ?_
   refine OpsD.v rfl rfl (Y30 (p := 0) ld_2.h rfl rfl (Y29 g50).2.2 rfl rfl) ?_
   refine zw ?_
   refine di h fun e51 g52 h => ?_
   refine OpsD.v rfl rfl (Y30 (p := 0) ld_2.h rfl rfl (Y29 g52).2.2 rfl rfl) ?_
   refine zw ?_
   refine cnd h (fun hb53 h => ?_) fun hb53 h => ?_
   ·
    refine AW.ct hb53 rfl ?_
    refine zw ?_
    refine ob' h fun u55 c54 h => ?_
    refine Ops.v rfl (Y75 (p := 0) (l := (Int.toNat x47)) Y9v.h rfl rfl rfl (Wo (Y3t c54)) rfl rfl) ?_
    refine Ops.v rfl (Yr rfl rfl) ?_
    refine Ops.nil ?_
    refine AW.seq ?_
    refine AW.cut (τ := List Int × Int) (fun (l85, x86) => ⟨[(0, cV w00), (3, cI x86)], [oA w00 2 kI64 1 l85]⟩) (fun (l85, x86) => Zgc l85 x86 = some y104) ?_ ?_
    ·
     refine zw ?_
     refine AW.lp (v := ()) h (fun (l68, x69, x70) (_ : Unit) => ⟨[(0, cV w00), (3, cI x69), (4, cV (Y72 w00 1 (Int.toNat x47))), (5, cI x70)], [oA w00 2 kI64 1 l68]⟩) (gb [0]) ?_
     rintro ⟨l68, x69, x70⟩ _ y111 h
     refine zw ?_
     refine ob' h fun u72 c71 h => ?_
     refine Ops.v rfl (Y77 (p := 0) Y9v.h rfl rfl (Wo (Y3t c71)) rfl) ?_
     refine zw ?_
     refine cnd h (fun hb73 h => ?_) fun hb73 h => ?_
     ·
      refine AW.ct hb73 rfl ?_
      refine zw ?_
      refine rD [0] [3,8] [] [0,4,8,13,16,20,24,28,33,36] ?_
      refine zw ?_
      refine ob' h fun e74 g75 h => ?_
      refine OpsD.v rfl rfl (Y78 (p := 0) Y9v.h rfl rfl rfl g75 rfl) ?_
      refine OpsD.v rfl rfl (Y30 (p := 0) ld_2.h rfl rfl (Y79 g75) rfl rfl) ?_
      refine zw ?_
      refine ob' h fun e76 g77 h => ?_
      refine OpsD.v rfl rfl (Y78 (p := 0) Y9v.h rfl rfl rfl g77 rfl) ?_
      refine OpsD.v rfl rfl (Y30 (p := 0) ld_2.h rfl rfl (Y79 g77) rfl rfl) ?_
      refine zw ?_
      refine cnd h (fun hb78 h => ?_) fun hb78 h => ?_
      ·
       refine AW.ct hb78 rfl ?_
       refine zw ?_
       refine ob' h fun e79 g80 h => ?_
       refine Ops.v rfl (Y78 (p := 0) Y9v.h rfl rfl rfl g80 rfl) ?_
       refine Ops.v rfl (Y30 (p := 0) ld_2.h rfl rfl (Y79 g80) rfl rfl) ?_
       refine oi h fun e81 g82 h => ?_
       refine Ops.hd (ns := [0]) rfl rfl (Y33 (e' := e79) ld_2.h rfl rfl (One.val rfl) (Y29 g82).2.2 rfl rfl) ?_
       exact go
      exact go
     exact go
    rintro ⟨l85, x86⟩ h
    replace h : Zgc l85 x86 = some y104 := h
    unfold Zgc at h
    refine zw ?_
    refine ob' h fun u88 c87 h => ?_
    refine Ops.v rfl (Y75 (p := 0) (l := (Int.toNat x86)) Y9v.h rfl rfl rfl (Wo (Y3t c87)) rfl rfl) ?_
    refine ob' h fun u90 c89 h => ?_
    refine Ops.hd (ns := [0]) rfl rfl (Y7d (z := 0) Yab ze_2 (Y42 rfl rfl) rfl (Wo (Y3t c89))) ?_
    refine zw ?_
    refine ob' h fun u92 c91 h => ?_
    refine Ops.v rfl (Y76 (p := 0) (l := (Int.toNat x86)) Y9v.h rfl rfl rfl (Wo (Y3t c91)) rfl rfl) ?_
    refine zw ?_
    refine AW.ret ?_
    refine lx h fun h => ?_
    rw [← Wj h]
    exact ⟨[cV (Y73 w00 (Int.toNat x86))], _, Y21.prefix (p := 0) (h := (Int.toNat x86)) rfl (Int.le_toNat_len c91), (.cons (.tmp rfl) .nil), [0], _, _, rfl, ⟨(Y73 w00 (Int.toNat x86)), rfl, rfl⟩⟩
   exact go
  exact go
 rintro ⟨⟩ h
 replace h : Zgb p0 = some r := h
 unfold Zgb at h
 refine zw ?_
 refine AW.ret ?_
 rw [← Wj h]
 exact ⟨[cV w00], _, Y21.refl _, (.cons (.tmp rfl) .nil), [0], _, _, rfl, ⟨w00, rfl, rfl⟩⟩
def Zgi (p0 : List Int) : Option (List Int) := (chk (decide (p0.length < 4611686018427387904))).bind fun u2 => (Zgg (List.mergeSort p0 (fun x y => decide (x ≤ y)))).bind fun r3 => some r3
theorem Zgj {w00 : Value} (p0 : List Int) (r : List Int) (h : Zgi p0 = some r) : Ok Tryz.prog 205 [cV w00] [oA w00 2 kI64 1 p0] (fun c qs => ∃ (v6 : Value), c = cV v6 ∧ qs = [oA v6 2 kI64 1 r]) := by
 refine Ok.of_body (rs := [.tmp 2]) Tryz.func205 rfl rfl rfl rfl rfl fun X => ?_
 unfold Zgi at h
 refine zw ?_
 refine ob' h fun u2 c1 h => ?_
 refine Ops.hd (ns := [0]) rfl rfl (Y89 Y8y (fun _ => rfl) (Wo (Y3t c1)) rfl rfl) ?_
 refine zw ?_
 refine ob' h fun r3 g4 h => ?_
 refine Ops.h (ns := [0]) rfl rfl (Y23 (Zgh (List.mergeSort p0 (fun x y => decide (x ≤ y))) _ g4) rfl rfl) ?_
 rintro _ _ ⟨_, ⟨v5, rfl, rfl⟩, rfl⟩
 refine zw ?_
 refine AW.ret ?_
 rw [← Wj h]
 exact ⟨[cV v5], _, Y21.refl _, (.cons (.tmp rfl) .nil), [0], _, _, rfl, ⟨v5, rfl, rfl⟩⟩
def Zgk (p0 : Int) (q0 : Y8z) : Option Bool := (Z8m q0.prev p0).bind fun r1 => some r1
theorem Zgl {b00 : Nat} (p0 : Int) (q0 : Y8z) (r : Bool) (h : Zgk p0 q0 = some r) : Ok Tryz.prog 207 [cI p0, pt b00] [oB b00 136 [cI q0.id, cI q0.room, cI q0.author, cI q0.kind, cI q0.key, cI q0.n, C.str q0.text, cM kI64 1 q0.prev, cI q0.time]] (fun c qs => c = C.bool r ∧ qs = [oB b00 136 [cI q0.id, cI q0.room, cI q0.author, cI q0.kind, cI q0.key, cI q0.n, C.str q0.text, cM kI64 1 q0.prev, cI q0.time]]) := by
 refine Ok.of_body (rs := [.tmp 3]) Tryz.func207 rfl rfl rfl rfl rfl fun X => ?_
 unfold Zgk at h
 refine zw ?_
 refine oc h fun r1 g2 h => ?_
 refine zw ?_
 refine AW.ret ?_
 rw [← Wj h]
 exact ⟨[C.bool r1], _, Y21.refl _, (.cons (.tmp rfl) .nil), [0], _, _, rfl, ⟨rfl, rfl⟩⟩

def Zgm : Option Int := some (-1)
def Zgn (p0 : List Int) (p1_0 : Y8z) (x7 : Int) : Option (Int ⊕ (Int ⊕ Unit)) := cond (decide (x7 < (p0.length : Int))) ((getI p0 x7).bind fun e9 => (Zgk e9 p1_0).bind fun r11 => cond r11 (some (.inr (.inl x7))) (some (.inl (IntKind.i64.wrap (x7 + 1))))) (some (.inr (.inr ())))
def Zgo (p0 : List Int) (p1_0 : Y8z) : Option Int := (iter (Zgn p0 p1_0) big 0).bind (fun z15 => match z15 with | .inl y14 => some y14 | .inr () => Zgm)
theorem Zgp {w00 : Value} {b01 : Nat} (p0 : List Int) (p1_0 : Y8z) (r : Int) (h : Zgo p0 p1_0 = some r) : Ok Tryz.prog 194 [cV w00, C.clo 207 [pt b01]] [oA w00 2 kI64 1 p0, oB b01 136 [cI p1_0.id, cI p1_0.room, cI p1_0.author, cI p1_0.kind, cI p1_0.key, cI p1_0.n, C.str p1_0.text, cM kI64 1 p1_0.prev, cI p1_0.time]] (fun c qs => c = cI r ∧ qs = [oA w00 2 kI64 1 p0, oB b01 136 [cI p1_0.id, cI p1_0.room, cI p1_0.author, cI p1_0.kind, cI p1_0.key, cI p1_0.n, C.str p1_0.text, cM kI64 1 p1_0.prev, cI p1_0.time]]) := by
 refine Ok.of_body (rs := [.tmp 4]) Tryz.func194 rfl rfl rfl rfl rfl fun X => ?_
 unfold Zgo at h
 refine AW.seq ?_
 refine AW.region ?_
 refine Ops.v rfl (Yr rfl rfl) ?_
 refine Ops.nil ?_
 refine AW.seq ?_
 refine AW.cut (τ := Unit) (fun (_ : Unit) => ⟨[], [oA w00 2 kI64 1 p0, oB b01 136 [cI p1_0.id, cI p1_0.room, cI p1_0.author, cI p1_0.kind, cI p1_0.key, cI p1_0.n, C.str p1_0.text, cM kI64 1 p1_0.prev, cI p1_0.time]]⟩) (fun (_ : Unit) => Zgm = some r) ?_ ?_
 ·
  refine zw ?_
  refine AW.lp (v := ()) h (fun x7 (_ : Unit) => ⟨[(0, cV w00), (1, C.clo 207 [pt b01]), (7, cI (p0.length : Int)), (8, cI x7)], [oA w00 2 kI64 1 p0, oB b01 136 [cI p1_0.id, cI p1_0.room, cI p1_0.author, cI p1_0.kind, cI p1_0.key, cI p1_0.n, C.str p1_0.text, cM kI64 1 p1_0.prev, cI p1_0.time]]⟩) (gb [0, 0]) ?_
  rintro x7 _ y21 h
  refine zw ?_
  refine cnd h (fun hb8 h => ?_) fun hb8 h => ?_
  ·
   refine AW.ct hb8 rfl ?_
   refine zw ?_
   refine oi h fun e9 g10 h => ?_
   refine Ops.v rfl (Y30 (p := 0) ld_2.h rfl rfl (Y29 g10).2.2 rfl rfl) ?_
   refine ob' h fun r11 g12 h => ?_
   refine Ops.hd (ns := [1]) rfl rfl (Y6s (cs := [_]) (ds := [_]) rfl (Zgl e9 p1_0 _ g12) rfl rfl) ?_
   refine zw ?_
   refine cnd h (fun hb13 h => ?_) fun hb13 h => ?_
   ·
    refine AW.ct hb13 rfl ?_
    refine zw ?_
    refine AW.ret ?_
    refine lx h fun h => ?_
    rw [← Wj h]
    exact ⟨[cI x7], _, Y21.refl _, (.cons (.tmp rfl) .nil), [1, 0], _, _, rfl, ⟨rfl, rfl⟩⟩
   exact go
  exact go
 rintro ⟨⟩ h
 replace h : Zgm = some r := h
 unfold Zgm at h
 refine zw ?_
 refine AW.ret ?_
 rw [← Wj h]
 exact ⟨[cI (-1)], _, Y21.refl _, (.cons (.tmp rfl) .nil), [0, 0], _, _, rfl, ⟨rfl, rfl⟩⟩

def Zgq (l27 : List Int) (x28 : Int) : Option (List Int) := (chk (decide ((0 : Int) ≤ x28 ∧ x28 ≤ (l27.length : Int)))).bind fun u30 => (chk (decide ((Int.toNat x28) ≤ l27.length))).bind fun u32 => (chk (decide ((0 : Int) ≤ x28 ∧ x28 ≤ ((List.take (Int.toNat x28) l27 ++ List.replicate (l27.length - (Int.toNat x28)) 0).length : Int)))).bind fun u34 => some (List.take (Int.toNat x28) (List.take (Int.toNat x28) l27 ++ List.replicate (l27.length - (Int.toNat x28)) 0))
def Zgr (x16 : Int) (l25 : List Int) (x26 : Int) : Option ((List Int × Int × Int) ⊕ ((List Int × Int))) := some (.inl (l25, x26, (IntKind.i64.wrap (x16 + 1))))
def Zgs (p1_0 : Y8z) (l14 : List Int) (x15 : Int) (x16 : Int) : Option ((List Int × Int × Int) ⊕ ((List Int × Int))) := cond (decide (x16 < (l14.length : Int))) ((getI l14 x16).bind fun e18 => (Zgk e18 p1_0).bind fun r20 => cond r20 (Zgr x16 l14 x15) ((getI l14 x15).bind fun e23 => Zgr x16 (List.set l14 (Int.toNat x15) e18) (IntKind.i64.wrap (x15 + 1)))) (some (.inr (l14, x15)))
def Zgt (p0 : List Int) (p1_0 : Y8z) : Option (List Int) := (Zgo p0 p1_0).bind fun r1 => cond (r1 == (-1)) (some p0) ((iter (fun z36 => Zgs p1_0 z36.1 z36.2.1 z36.2.2) big (p0, r1, (IntKind.i64.wrap (r1 + 1)))).bind fun (y37, y38) => Zgq y37 y38)
theorem Zgu {w00 : Value} {b01 : Nat} (p0 : List Int) (p1_0 : Y8z) (r : List Int) (h : Zgt p0 p1_0 = some r) : Ok Tryz.prog 206 [cV w00, C.clo 207 [pt b01]] [oA w00 2 kI64 1 p0, oB b01 136 [cI p1_0.id, cI p1_0.room, cI p1_0.author, cI p1_0.kind, cI p1_0.key, cI p1_0.n, C.str p1_0.text, cM kI64 1 p1_0.prev, cI p1_0.time]] (fun c qs => ∃ (v35 : Value), c = cV v35 ∧ qs = [oA v35 2 kI64 1 r, oB b01 136 [cI p1_0.id, cI p1_0.room, cI p1_0.author, cI p1_0.kind, cI p1_0.key, cI p1_0.n, C.str p1_0.text, cM kI64 1 p1_0.prev, cI p1_0.time]]) := by
 refine Ok.of_body (rs := [.tmp 4]) Tryz.func206 rfl rfl rfl rfl rfl fun X => ?_
 unfold Zgt at h
 refine zw ?_
 refine ob' h fun r1 g2 h => ?_
 refine Ops.hd (ns := [0, 0]) rfl rfl (Y24 (Zgp p0 p1_0 _ g2) rfl rfl) ?_
 refine zw ?_
 refine cnd h (fun hb3 h => ?_) fun hb3 h => ?_
 ·
  refine AW.ct hb3 rfl ?_
  refine zw ?_
  refine AW.ret ?_
  rw [← Wj h]
  exact ⟨[cV w00], _, Y21.refl _, (.cons (.tmp rfl) .nil), [0, 0], _, _, rfl, ⟨w00, rfl, rfl⟩⟩
 refine AW.cf hb3 rfl ?_
 refine AW.skip ?_
 refine AW.seq ?_
 refine AW.cut (τ := List Int × Int) (fun (l27, x28) => ⟨[(0, cV w00), (5, cI x28)], [oA w00 2 kI64 1 l27, oB b01 136 [cI p1_0.id, cI p1_0.room, cI p1_0.author, cI p1_0.kind, cI p1_0.key, cI p1_0.n, C.str p1_0.text, cM kI64 1 p1_0.prev, cI p1_0.time]]⟩) (fun (l27, x28) => Zgq l27 x28 = some r) ?_ ?_
 ·
  refine zw ?_
  refine AW.lp (v := ()) h (fun (l14, x15, x16) (_ : Unit) => ⟨[(0, cV w00), (1, C.clo 207 [pt b01]), (5, cI x15), (6, cI x16)], [oA w00 2 kI64 1 l14, oB b01 136 [cI p1_0.id, cI p1_0.room, cI p1_0.author, cI p1_0.kind, cI p1_0.key, cI p1_0.n, C.str p1_0.text, cM kI64 1 p1_0.prev, cI p1_0.time]]⟩) (gb [0, 0]) ?_
  rintro ⟨l14, x15, x16⟩ _ y44 h
  refine zw ?_
  refine cnd h (fun hb17 h => ?_) fun hb17 h => ?_
  ·
   refine AW.ct hb17 rfl ?_
   refine zw ?_
   refine oi h fun e18 g19 h => ?_
   refine Ops.v rfl (Y30 (p := 0) ld_2.h rfl rfl (Y29 g19).2.2 rfl rfl) ?_
   refine zw ?_
   refine ob' h fun r20 g21 h => ?_
   refine Ops.hd (ns := [1]) rfl rfl (Y6s (cs := [_]) (ds := [_]) rfl (Zgl e18 p1_0 _ g21) rfl rfl) ?_
   refine zw ?_
   refine cnd h (fun hb22 h => go) fun hb22 h => ?_
   refine AW.cond rfl (fun _ => ?_) (fun hn => absurd ((Y3v hb22).symm.trans hn) (by decide))
   refine zw ?_
   refine ob' h fun e23 g24 h => ?_
   refine Ops.v rfl (Y2x (p := 1) Y9v.h rfl rfl rfl g24 rfl) ?_
   refine Ops.hd (ns := [1]) rfl rfl (Y33 (e' := e18) ld_2.h rfl rfl (One.val rfl) (Y29 g24).2.2 rfl rfl) ?_
   exact go
  exact go
 rintro ⟨l27, x28⟩ h
 replace h : Zgq l27 x28 = some r := h
 unfold Zgq at h
 refine zw ?_
 refine ob' h fun u30 c29 h => ?_
 refine Ops.v rfl (Y75 (p := 0) (l := (Int.toNat x28)) Y9v.h rfl rfl rfl (Wo (Y3t c29)) rfl rfl) ?_
 refine ob' h fun u32 c31 h => ?_
 refine Ops.hd (ns := [0]) rfl rfl (Y7d (z := 0) Yab ze_2 (Y42 rfl rfl) rfl (Wo (Y3t c31))) ?_
 refine zw ?_
 refine ob' h fun u34 c33 h => ?_
 refine Ops.v rfl (Y76 (p := 0) (l := (Int.toNat x28)) Y9v.h rfl rfl rfl (Wo (Y3t c33)) rfl rfl) ?_
 refine zw ?_
 refine AW.ret ?_
 rw [← Wj h]
 exact ⟨[cV (Y73 w00 (Int.toNat x28))], _, Y21.prefix (p := 0) (h := (Int.toNat x28)) rfl (Int.le_toNat_len c33), (.cons (.tmp rfl) .nil), [0, 0], _, _, rfl, ⟨(Y73 w00 (Int.toNat x28)), rfl, rfl⟩⟩

def Zgv (l29 : List Int) : Option (List Int) := some l29
def Zgw (p0 : Y99) (p1 : List Int) (l17 : List Int) (x18 : Int) : Option ((List Int × Int) ⊕ ((List Int))) := cond (decide (x18 < (p1.length : Int))) ((getI p1 x18).bind fun e20 => (Zc8 p0.graph e20).bind fun r22 => (Zgt l17 r22.1).bind fun r25 => some (.inl (r25, (IntKind.i64.wrap (x18 + 1))))) (some (.inr l17))
def Zgx (p0 : Y99) (p1 : List Int) : Option (List Int) := (Zer p1).bind fun r1 => (Zgi r1).bind fun r4 => (iter (fun z31 => Zgw p0 p1 z31.1 z31.2) big (r4, 0)).bind fun y32 => Zgv y32
theorem Zgy (p0 : Y99) (p1 : List Int) (r : List Int) (h : Zgx p0 p1 = some r) : Ok Tryz.prog 144 [C.ip [cI p0.graph.room, cM Y9b 9 p0.graph.events, cM Y9b 9 p0.graph.parked, C.imap .i64 Y9p p0.depth, C.imap .i64 Y9q p0.before, C.imap .i64 Y9q p0.after, C.imap .i64 Y9p p0.refused], cM kI64 1 p1] [] (fun c qs => ∃ (v30 : Value), c = cV v30 ∧ qs = [oA v30 2 kI64 1 r]) := by
 refine Ok.of_body (rs := [.tmp 4]) Tryz.func144 rfl rfl rfl rfl rfl fun X => ?_
 unfold Zgx at h
 refine zw ?_
 refine ob' h fun r1 g2 h => ?_
 refine Ops.h (ns := []) rfl rfl (Y23 (Zes _ _ g2) rfl rfl) ?_
 rintro _ _ ⟨_, ⟨v3, rfl, rfl⟩, rfl⟩
 refine ob' h fun r4 g5 h => ?_
 refine Ops.h (ns := [0]) rfl rfl (Y23 (Zgj r1 _ g5) rfl rfl) ?_
 rintro _ _ ⟨_, ⟨v6, rfl, rfl⟩, rfl⟩
 refine Ops.v rfl (Yr rfl rfl) ?_
 refine Ops.nil ?_
 refine AW.seq ?_
 refine AW.cut (τ := List Int × Value) (fun (l29, v28) => ⟨[(5, cV v28)], [oA v28 2 kI64 1 l29]⟩) (fun (l29, v28) => Zgv l29 = some r) ?_ ?_
 ·
  refine zw ?_
  refine AW.lp h (fun (l17, x18) (v16 : Value) => ⟨[(0, C.ip [cI p0.graph.room, cM Y9b 9 p0.graph.events, cM Y9b 9 p0.graph.parked, C.imap .i64 Y9p p0.depth, C.imap .i64 Y9q p0.before, C.imap .i64 Y9q p0.after, C.imap .i64 Y9p p0.refused]), (5, cV v16), (13, cM kI64 1 p1), (14, cI (p1.length : Int)), (15, cI x18)], [oA v16 2 kI64 1 l17]⟩) (gb [0]) ?_
  rintro ⟨l17, x18⟩ v16 y38 h
  refine zw ?_
  refine cnd h (fun hb19 h => ?_) fun hb19 h => ?_
  ·
   refine AW.ct hb19 rfl ?_
   refine zw ?_
   refine oi h fun e20 g21 h => ?_
   refine zw ?_
   refine oc h fun r22 g23 h => ?_
   refine zw ?_
   refine Ops.h (ns := []) rfl rfl (Y1p (cs := [cI 0, cI 0, cI 0, cI 0, cI 0, cI 0, C.str ByteArray.empty, cV s0, cI 0]) Yac (Y42 rfl rfl) rfl) ?_
   rintro _ _ ⟨b24, rfl, rfl⟩
   refine Ops.hd (ns := [0]) rfl rfl (Y1u (gs := [cI r22.1.id, cI r22.1.room, cI r22.1.author, cI r22.1.kind, cI r22.1.key, cI r22.1.n, C.str r22.1.text, cM kI64 1 r22.1.prev, cI r22.1.time]) Yat.h rfl rfl rfl rfl rfl) ?_
   refine zw ?_
   refine Ops.v rfl (Y6q rfl rfl) ?_
   refine ob' h fun r25 g26 h => ?_
   refine Ops.h (ns := [1, 0]) rfl rfl (Y23 (Zgu l17 r22.1 _ g26) rfl rfl) ?_
   rintro _ _ ⟨_, ⟨v27, rfl, rfl⟩, rfl⟩
   exact go
  exact go
 rintro ⟨l29, v28⟩ h
 replace h : Zgv l29 = some r := h
 unfold Zgv at h
 refine zw ?_
 refine AW.ret ?_
 rw [← Wj h]
 exact ⟨[cV v28], _, Y21.refl _, (.cons (.tmp rfl) .nil), [0], _, _, rfl, ⟨v28, rfl, rfl⟩⟩
instance Zgy' (p0 : Y99) (p1 : List Int) : Sp Tryz.prog 144 [C.ip [cI p0.graph.room, cM Y9b 9 p0.graph.events, cM Y9b 9 p0.graph.parked, C.imap .i64 Y9p p0.depth, C.imap .i64 Y9q p0.before, C.imap .i64 Y9q p0.after, C.imap .i64 Y9p p0.refused], cM kI64 1 p1] (Zgx p0 p1) (fun r => cM kI64 1 r) := ⟨fun r h => Ok.freeze (Zgy p0 p1 r h) (by rintro c qs ⟨v30, rfl, rfl⟩; exact Frz.arr)⟩

def Zgz (p0 : Y99) : Option (List Int) := (Zfc p0).bind fun r1 => (Zgx p0 r1).bind fun r3 => some r3
instance Zh0 (p0 : Y99) : Sp Tryz.prog 265 [C.ip [cI p0.graph.room, cM Y9b 9 p0.graph.events, cM Y9b 9 p0.graph.parked, C.imap .i64 Y9p p0.depth, C.imap .i64 Y9q p0.before, C.imap .i64 Y9q p0.after, C.imap .i64 Y9p p0.refused]] (Zgz p0) (fun r => cM kI64 1 r) := sp Tryz.func265 rfl rfl fun r X h => go

end Go.Proofs.YtbgichfjcnibpaaGreat
