/- Printed by gen.py: plain functions for Go functions, and that the walks keep to them. -/
import Derived.Test.YtbgichfjcnibpaaGreatTQ6
set_option autoImplicit false
set_option linter.unusedVariables false
set_option linter.unusedSimpArgs false
set_option maxHeartbeats 1000000
set_option maxRecDepth 100000
namespace Go.Proofs.YtbgichfjcnibpaaGreat
open Go Go.Abs
attribute [local irreducible] AW Ops OpsD Y3n
def Zh1 (l20 : List (List Y94)) : Option (List (List Y94)) := some l20
def Zh2 (p0 : Y99) (p1 : List Int) (l10 : List (List Y94)) (x11 : Int) : Option ((List (List Y94) × Int) ⊕ ((List (List Y94)))) := cond (decide (x11 < (p1.length : Int))) ((getI p1 x11).bind fun e13 => (chk (decide ((l10.length + [(Option.getD (mget p0.after e13) ([] : List Y94))].length) * 24 ≤ 140737488355328))).bind fun u17 => some (.inl ((l10 ++ [(Option.getD (mget p0.after e13) ([] : List Y94))]), (IntKind.i64.wrap (x11 + 1))))) (some (.inr l10))
def Zh3 (p0 : Y99) (p1 : List Int) : Option (List (List Y94)) := (iter (fun z22 => Zh2 p0 p1 z22.1 z22.2) big (([] : List (List Y94)), 0)).bind fun y23 => Zh1 y23
theorem Zh4 (p0 : Y99) (p1 : List Int) (r : List (List Y94)) (h : Zh3 p0 p1 = some r) : Ok Tryz.prog 143 [C.ip [cI p0.graph.room, cM Y9b 9 p0.graph.events, cM Y9b 9 p0.graph.parked, C.imap .i64 Y9p p0.depth, C.imap .i64 Y9q p0.before, C.imap .i64 Y9q p0.after, C.imap .i64 Y9p p0.refused], cM kI64 1 p1] [] (fun c qs => ∃ (v21 : Value), c = cV v21 ∧ qs = [oA v21 27 Y9k 1 r]) := by
 refine Ok.of_body (rs := [.tmp 4]) Tryz.func143 rfl rfl rfl rfl rfl fun X => ?_
 unfold Zh3 at h
 refine zw ?_
 refine Ops.h (ns := []) rfl rfl (Y39 (k := Y9k) (ys := ([] : List (List Y94))) Yc4 .nil rfl rfl rfl) ?_
 rintro _ _ ⟨b1, rfl, rfl⟩
 refine Ops.v rfl (Yr rfl rfl) ?_
 refine Ops.nil ?_
 refine AW.seq ?_
 refine AW.cut (τ := List (List Y94) × Value) (fun (l20, v19) => ⟨[(5, cV v19)], [oA v19 27 Y9k 1 l20]⟩) (fun (l20, v19) => Zh1 l20 = some r) ?_ ?_
 ·
  refine zw ?_
  refine AW.lp h (fun (l10, x11) (v9 : Value) => ⟨[(0, C.ip [cI p0.graph.room, cM Y9b 9 p0.graph.events, cM Y9b 9 p0.graph.parked, C.imap .i64 Y9p p0.depth, C.imap .i64 Y9q p0.before, C.imap .i64 Y9q p0.after, C.imap .i64 Y9p p0.refused]), (5, cV v9), (9, cM kI64 1 p1), (10, cI (p1.length : Int)), (11, cI x11)], [oA v9 27 Y9k 1 l10]⟩) (gb [0]) ?_
  rintro ⟨l10, x11⟩ v9 y29 h
  refine zw ?_
  refine cnd h (fun hb12 h => ?_) fun hb12 h => ?_
  ·
   refine AW.ct hb12 rfl ?_
   refine zw ?_
   refine oi h fun e13 g14 h => ?_
   refine zw ?_
   refine Ops.v rfl (Y8a (kc := Y9q) (z0 := ([] : List Y94)) Yd9 Yda (fun w F => Imp.nil Y9j 3 w F _ rfl) rfl rfl rfl) ?_
   refine Ops.h (ns := []) rfl rfl (Y39 (k := Y9k) (ys := [(Option.getD (mget p0.after e13) ([] : List Y94))]) Yc4 (.one rfl One.im rfl rfl .nil) rfl rfl rfl) ?_
   rintro _ _ ⟨b15, rfl, rfl⟩
   refine ob' h fun u17 c16 h => ?_
   refine Ops.h (ns := [1, 0]) rfl rfl (Y2s Yc4 rfl rfl (Wo (Y3t c16)) (Y3w (by decide) c16) rfl) ?_
   rintro _ _ ⟨v18, rfl, rfl⟩
   exact go
  exact go
 rintro ⟨l20, v19⟩ h
 replace h : Zh1 l20 = some r := h
 unfold Zh1 at h
 refine zw ?_
 refine AW.ret ?_
 rw [← Wj h]
 exact ⟨[cV v19], _, Y21.refl _, (.cons (.tmp rfl) .nil), [0], _, _, rfl, ⟨v19, rfl, rfl⟩⟩
instance Zh4' (p0 : Y99) (p1 : List Int) : Sp Tryz.prog 143 [C.ip [cI p0.graph.room, cM Y9b 9 p0.graph.events, cM Y9b 9 p0.graph.parked, C.imap .i64 Y9p p0.depth, C.imap .i64 Y9q p0.before, C.imap .i64 Y9q p0.after, C.imap .i64 Y9p p0.refused], cM kI64 1 p1] (Zh3 p0 p1) (fun r => cM Y9k 1 r) := ⟨fun r h => Ok.freeze (Zh4 p0 p1 r h) (by rintro c qs ⟨v21, rfl, rfl⟩; exact Frz.arr)⟩

def Zh5 (l205 : List Y94) : Option (List Y94) := some l205
def Zh6 (x194 : Int) (l204 : List Y94) : Option ((List Y94 × Int) ⊕ ((List Y94))) := some (.inl (l204, (IntKind.i64.wrap (x194 + 1))))
def Zh7 (p0 : Y99) (r176 : List Y8z) (l193 : List Y94) (x194 : Int) : Option ((List Y94 × Int) ⊕ ((List Y94))) := cond (decide (x194 < (r176.length : Int))) ((getI r176 x194).bind fun e196 => (Zdq p0.graph l193 e196).bind fun r199 => cond (r199 == 0) ((Zdz l193 (Y94.mk e196.kind e196.key e196.id)).bind fun r202 => Zh6 x194 r202) (Zh6 x194 l193)) (some (.inr l193))
def Zh8 (p0 : Y99) (l37 : List Y94) (l175 : List Y8z) : Option (List Y94) := (Y7w (fun z1 z2 => Ze9 z1 z2 p0) l175).bind fun r176 => (iter (fun z206 => Zh7 p0 r176 z206.1 z206.2) big (l37, 0)).bind fun y207 => Zh5 y207
def Zh9 (x113 : Int) (l172 : List Y8z) (m173 : List (Int × Bool)) : Option ((List Y8z × (List (Int × Bool)) × Int) ⊕ ((List Y8z))) := some (.inl (l172, m173, (IntKind.i64.wrap (x113 + 1))))
def Zha (x145 : Int) (l169 : List Y8z) (m170 : List (Int × Bool)) : Option ((List Y8z × (List (Int × Bool)) × Int) ⊕ ((List Y8z × (List (Int × Bool))))) := some (.inl (l169, m170, (IntKind.i64.wrap (x145 + 1))))
def Zhb (l143 : List Y8z) (m144 : List (Int × Bool)) (x145 : Int) (e147 : Y94) (x155 : Int) (x156 : Int) (x157 : Int) (x158 : Int) (x159 : Int) (x160 : Int) (x161 : ByteArray) (l162 : List Int) (x163 : Int) : Option ((List Y8z × (List (Int × Bool)) × Int) ⊕ ((List Y8z × (List (Int × Bool))))) := (chk (decide ((l143.length + [(Y8z.mk x155 x156 x157 x158 x159 x160 x161 l162 x163)].length) * 96 ≤ 140737488355328))).bind fun u166 => Zha x145 (l143 ++ [(Y8z.mk x155 x156 x157 x158 x159 x160 x161 l162 x163)]) (mset m144 e147.id true)
def Zhc (p0 : Y99) (e115 : List Y94) (l143 : List Y8z) (m144 : List (Int × Bool)) (x145 : Int) : Option ((List Y8z × (List (Int × Bool)) × Int) ⊕ ((List Y8z × (List (Int × Bool))))) := cond (decide (x145 < (e115.length : Int))) ((getI e115 x145).bind fun e147 => cond (Option.getD (mget m144 e147.id) false) (Zha x145 l143 m144) ((Zc8 p0.graph e147.id).bind fun r151 => Zhb l143 m144 x145 e147 r151.1.id r151.1.room r151.1.author r151.1.kind r151.1.key r151.1.n r151.1.text r151.1.prev r151.1.time)) (some (.inr (l143, m144)))
def Zhd (p0 : Y99) (p1 : List (List Y94)) (l111 : List Y8z) (m112 : List (Int × Bool)) (x113 : Int) : Option ((List Y8z × (List (Int × Bool)) × Int) ⊕ ((List Y8z))) := cond (decide (x113 < (p1.length : Int))) ((getI p1 x113).bind fun e115 => (iter (fun z208 => Zhc p0 e115 z208.1 z208.2.1 z208.2.2) big (l111, m112, 0)).bind fun (y209, y210) => Zh9 x113 y209 y210) (some (.inr l111))
def Zhe (p0 : Y99) (p1 : List (List Y94)) (l37 : List Y94) (m49 : List (Int × Bool)) : Option (List Y94) := (iter (fun z211 => Zhd p0 p1 z211.1 z211.2.1 z211.2.2) big (([] : List Y8z), m49, 0)).bind fun y212 => Zh8 p0 l37 y212
def Zhf (l37 : List Y94) (m43 : List (Int × Bool)) (x44 : Int) : Option (((List (Int × Bool)) × Int) ⊕ ((List (Int × Bool)))) := cond (decide (x44 < (l37.length : Int))) ((getI l37 x44).bind fun e46 => some (.inl ((mset m43 e46.id true), (IntKind.i64.wrap (x44 + 1))))) (some (.inr m43))
def Zhg (p0 : Y99) (p1 : List (List Y94)) (l37 : List Y94) : Option (List Y94) := (iter (fun z213 => Zhf l37 z213.1 z213.2) big (([] : List (Int × Bool)), 0)).bind fun y214 => Zhe p0 p1 l37 y214
def Zhh (x22 : Int) (l35 : List Y94) : Option ((List Y94 × Int) ⊕ ((List Y94))) := some (.inl (l35, (IntKind.i64.wrap (x22 + 1))))
def Zhi (p1 : List (List Y94)) (e5 : List Y94) (l21 : List Y94) (x22 : Int) : Option ((List Y94 × Int) ⊕ ((List Y94))) := cond (decide (x22 < (e5.length : Int))) ((getI e5 x22).bind fun e24 => (Ze7 p1 e24).bind fun r27 => cond r27 (Zhh x22 l21) ((chk (decide ((l21.length + [e24].length) * 24 ≤ 140737488355328))).bind fun u32 => Zhh x22 (l21 ++ [e24]))) (some (.inr l21))
def Zhj (p0 : Y99) (p1 : List (List Y94)) : Option (List Y94) := cond (decide ((p1.length : Int) > 0)) ((getI p1 0).bind fun e5 => (iter (fun z215 => Zhi p1 e5 z215.1 z215.2) big (([] : List Y94), 0)).bind fun y216 => Zhg p0 p1 y216) (Zhg p0 p1 ([] : List Y94))
instance Zhk (p0 : Y99) (p1 : List (List Y94)) : Sp Tryz.prog 142 [C.ip [cI p0.graph.room, cM Y9b 9 p0.graph.events, cM Y9b 9 p0.graph.parked, C.imap .i64 Y9p p0.depth, C.imap .i64 Y9q p0.before, C.imap .i64 Y9q p0.after, C.imap .i64 Y9p p0.refused], cM Y9k 1 p1] (Zhj p0 p1) (fun r => cM Y9j 3 r) := sp Tryz.func142 rfl rfl fun r X h => by
 unfold Zhj at h
 refine zw ?_
 refine Ops.h (ns := []) rfl rfl (Y1q rfl One.ip rfl) ?_
 rintro _ _ ⟨b1, rfl, rfl⟩
 refine zw ?_
 refine Ops.h (ns := []) rfl rfl (Y39 (k := Y9j) (ys := ([] : List Y94)) Ybt .nil rfl rfl rfl) ?_
 rintro _ _ ⟨b2, rfl, rfl⟩
 refine Ops.h (ns := []) rfl rfl (Y39 (k := Y9b) (ys := ([] : List Y8z)) Yau .nil rfl rfl rfl) ?_
 rintro _ _ ⟨b3, rfl, rfl⟩
 refine Ops.v rfl (Yr rfl rfl) ?_
 refine Ops.v rfl (Yr rfl rfl) ?_
 refine Ops.nil ?_
 refine AW.seq ?_
 refine AW.cut (τ := List Y94 × Value) (fun (l37, v36) => ⟨[(1, cM Y9k 1 p1), (2, pt b1), (5, cV v36), (6, cV (sv b3 0 0))], [oB b1 186 [C.ip [cI p0.graph.room, cM Y9b 9 p0.graph.events, cM Y9b 9 p0.graph.parked, C.imap .i64 Y9p p0.depth, C.imap .i64 Y9q p0.before, C.imap .i64 Y9q p0.after, C.imap .i64 Y9p p0.refused]], oA v36 106 Y9j 3 l37, oA (sv b3 0 0) 136 Y9b 9 ([] : List Y8z)]⟩) (fun (l37, v36) => Zhg p0 p1 l37 = some r) ?_ ?_
 ·
  refine zw ?_
  refine cnd h (fun hb4 h => ?_) fun hb4 h => ?_
  ·
   refine AW.ct hb4 rfl ?_
   refine zw ?_
   refine oi h fun e5 g6 h => ?_
   refine zw ?_
   refine AW.lp h (fun (l21, x22) (v20 : Value) => ⟨[(1, cM Y9k 1 p1), (2, pt b1), (5, cV v20), (6, cV (sv b3 0 0)), (27, cM Y9j 3 e5), (28, cI (e5.length : Int)), (29, cI x22)], [oB b1 186 [C.ip [cI p0.graph.room, cM Y9b 9 p0.graph.events, cM Y9b 9 p0.graph.parked, C.imap .i64 Y9p p0.depth, C.imap .i64 Y9q p0.before, C.imap .i64 Y9q p0.after, C.imap .i64 Y9p p0.refused]], oA v20 106 Y9j 3 l21, oA (sv b3 0 0) 136 Y9b 9 ([] : List Y8z)]⟩) (gb [2, 1, 0]) ?_
   rintro ⟨l21, x22⟩ v20 y250 h
   refine zw ?_
   refine cnd h (fun hb23 h => ?_) fun hb23 h => ?_
   ·
    refine AW.ct hb23 rfl ?_
    refine zw ?_
    refine oi h fun e24 g25 h => ?_
    refine zw ?_
    refine Ops.h (ns := []) rfl rfl (Y1p (cs := [cI 0, cI 0, cI 0]) Yc0 (Y42 rfl rfl) rfl) ?_
    rintro _ _ ⟨b26, rfl, rfl⟩
    refine Ops.hd (ns := [0]) rfl rfl (Y1u (gs := [cI e24.kind, cI e24.key, cI e24.id]) Ybu.h rfl rfl rfl rfl rfl) ?_
    refine zw ?_
    refine Ops.v rfl (Y6q rfl rfl) ?_
    refine ob' h fun r27 g28 h => ?_
    refine Ops.hd (ns := [0]) rfl rfl (Y24 (Ze8 p1 e24 _ g28) rfl rfl) ?_
    refine zw ?_
    refine cnd h (fun hb29 h => go) fun hb29 h => ?_
    refine AW.cond rfl (fun _ => ?_) (fun hn => absurd ((Y3v hb29).symm.trans hn) (by decide))
    refine zw ?_
    refine Ops.h (ns := []) rfl rfl (Y39 (k := Y9j) (ys := [e24]) Ybt (.agg rfl rfl .nil) rfl rfl rfl) ?_
    rintro _ _ ⟨b30, rfl, rfl⟩
    refine ob' h fun u32 c31 h => ?_
    refine Ops.h (ns := [3, 0]) rfl rfl (Y2s Ybt rfl rfl (Wo (Y3t c31)) (Y3w (by decide) c31) rfl) ?_
    rintro _ _ ⟨v33, rfl, rfl⟩
    exact go
   exact go
  refine AW.cf hb4 rfl ?_
  refine zw ?_
  exact ⟨(([] : List Y94), (sv b2 0 0)), h, Y21.both (ns := [2, 1, 0]) rfl rfl⟩
 rintro ⟨l37, v36⟩ h
 replace h : Zhg p0 p1 l37 = some r := h
 unfold Zhg at h
 refine zw ?_
 refine Ops.h (ns := []) rfl rfl (Y6j (kd := .i64) (kc := Y9r) rfl) ?_
 rintro _ _ ⟨b38, rfl, rfl⟩
 refine Ops.v rfl (Yr rfl rfl) ?_
 refine Ops.nil ?_
 refine AW.seq ?_
 refine AW.cut (τ := (List (Int × Bool))) (fun m49 => ⟨[(1, cM Y9k 1 p1), (2, pt b1), (5, cV v36), (6, cV (sv b3 0 0)), (9, mt b38)], [oB b1 186 [C.ip [cI p0.graph.room, cM Y9b 9 p0.graph.events, cM Y9b 9 p0.graph.parked, C.imap .i64 Y9p p0.depth, C.imap .i64 Y9q p0.before, C.imap .i64 Y9q p0.after, C.imap .i64 Y9p p0.refused]], oA v36 106 Y9j 3 l37, oA (sv b3 0 0) 136 Y9b 9 ([] : List Y8z), Abs.Obj.map b38 .i64 Y9r m49]⟩) (fun m49 => Zhe p0 p1 l37 m49 = some r) ?_ ?_
 ·
  refine AW.seq ?_
  refine AW.region ?_
  refine Ops.v rfl (Yq rfl rfl) ?_
  refine Ops.v rfl (Y2u (p := 2) Ybn.h rfl rfl rfl) ?_
  refine zw ?_
  refine AW.lp (v := ()) h (fun (m43, x44) (_ : Unit) => ⟨[(1, cM Y9k 1 p1), (2, pt b1), (5, cV v36), (6, cV (sv b3 0 0)), (9, mt b38), (43, cV v36), (44, cI (l37.length : Int)), (45, cI x44)], [oB b1 186 [C.ip [cI p0.graph.room, cM Y9b 9 p0.graph.events, cM Y9b 9 p0.graph.parked, C.imap .i64 Y9p p0.depth, C.imap .i64 Y9q p0.before, C.imap .i64 Y9q p0.after, C.imap .i64 Y9p p0.refused]], oA v36 106 Y9j 3 l37, oA (sv b3 0 0) 136 Y9b 9 ([] : List Y8z), Abs.Obj.map b38 .i64 Y9r m43]⟩) (gb [1, 1, 1, 0]) ?_
  rintro ⟨m43, x44⟩ _ y243 h
  refine zw ?_
  refine cnd h (fun hb45 h => ?_) fun hb45 h => ?_
  ·
   refine AW.ct hb45 rfl ?_
   refine zw ?_
   refine ob' h fun e46 g47 h => ?_
   refine Ops.v rfl (Y2x (p := 1) Ybn.h rfl rfl rfl g47 rfl) ?_
   refine Ops.v rfl (Y31 (p := 1) Ybu.h rfl rfl (Y29 g47).2.2 rfl rfl rfl) ?_
   refine Ops.h (ns := []) rfl rfl (Y1p (cs := [cI 0, cI 0, cI 0]) Yc0 (Y42 rfl rfl) rfl) ?_
   rintro _ _ ⟨b48, rfl, rfl⟩
   refine Ops.hd (ns := [0]) rfl rfl (Y1u (gs := [cI e46.kind, cI e46.key, cI e46.id]) Ybu.h rfl rfl rfl rfl rfl) ?_
   refine zw ?_
   refine Ops.hd (ns := [4]) rfl rfl (Y6m (kc := Y9r) (v := true) Ydc rfl rfl rfl rfl) ?_
   refine zw ?_
   exact lu h (gb [2, 2, 2, 0])
  refine AW.cf hb45 rfl ?_
  refine AW.exit ?_
  refine lx h fun h => ?_
  exact ⟨m43, h, Y21.both (ns := [0, 0, 0, 0]) rfl rfl⟩
 intro m49 h
 replace h : Zhe p0 p1 l37 m49 = some r := h
 unfold Zhe at h
 refine AW.seq ?_
 refine AW.cut (τ := List Y8z × Value) (fun (l175, v174) => ⟨[(2, pt b1), (5, cV v36), (6, cV v174)], [oB b1 186 [C.ip [cI p0.graph.room, cM Y9b 9 p0.graph.events, cM Y9b 9 p0.graph.parked, C.imap .i64 Y9p p0.depth, C.imap .i64 Y9q p0.before, C.imap .i64 Y9q p0.after, C.imap .i64 Y9p p0.refused]], oA v36 106 Y9j 3 l37, oA v174 136 Y9b 9 l175]⟩) (fun (l175, v174) => Zh8 p0 l37 l175 = some r) ?_ ?_
 ·
  refine zw ?_
  refine AW.lp h (fun (l111, m112, x113) (v110 : Value) => ⟨[(2, pt b1), (5, cV v36), (6, cV v110), (9, mt b38), (53, cM Y9k 1 p1), (54, cI (p1.length : Int)), (55, cI x113)], [oB b1 186 [C.ip [cI p0.graph.room, cM Y9b 9 p0.graph.events, cM Y9b 9 p0.graph.parked, C.imap .i64 Y9p p0.depth, C.imap .i64 Y9q p0.before, C.imap .i64 Y9q p0.after, C.imap .i64 Y9p p0.refused]], oA v36 106 Y9j 3 l37, oA v110 136 Y9b 9 l111, Abs.Obj.map b38 .i64 Y9r m112]⟩) (gb [0, 0, 0, 0]) ?_
  rintro ⟨l111, m112, x113⟩ v110 y229 h
  refine zw ?_
  refine cnd h (fun hb114 h => ?_) fun hb114 h => ?_
  ·
   refine AW.ct hb114 rfl ?_
   refine AW.skip ?_
   refine AW.seq ?_
   refine AW.cut (τ := List Y8z × (List (Int × Bool)) × Value) (fun (l172, m173, v171) => ⟨[(2, pt b1), (5, cV v36), (6, cV v171), (9, mt b38), (53, cM Y9k 1 p1), (54, cI (p1.length : Int)), (55, cI x113)], [oB b1 186 [C.ip [cI p0.graph.room, cM Y9b 9 p0.graph.events, cM Y9b 9 p0.graph.parked, C.imap .i64 Y9p p0.depth, C.imap .i64 Y9q p0.before, C.imap .i64 Y9q p0.after, C.imap .i64 Y9p p0.refused]], oA v36 106 Y9j 3 l37, oA v171 136 Y9b 9 l172, Abs.Obj.map b38 .i64 Y9r m173]⟩) (fun (l172, m173, v171) => Zh9 x113 l172 m173 = some y229) ?_ ?_
   ·
    refine zw ?_
    refine oi h fun e115 g116 h => ?_
    refine zw ?_
    refine AW.lp h (fun (l143, m144, x145) (v142 : Value) => ⟨[(2, pt b1), (5, cV v36), (6, cV v142), (9, mt b38), (53, cM Y9k 1 p1), (54, cI (p1.length : Int)), (55, cI x113), (59, cM Y9j 3 e115), (60, cI (e115.length : Int)), (61, cI x145)], [oB b1 186 [C.ip [cI p0.graph.room, cM Y9b 9 p0.graph.events, cM Y9b 9 p0.graph.parked, C.imap .i64 Y9p p0.depth, C.imap .i64 Y9q p0.before, C.imap .i64 Y9q p0.after, C.imap .i64 Y9p p0.refused]], oA v36 106 Y9j 3 l37, oA v142 136 Y9b 9 l143, Abs.Obj.map b38 .i64 Y9r m144]⟩) (gb [0, 0, 0, 0]) ?_
    rintro ⟨l143, m144, x145⟩ v142 y236 h
    refine zw ?_
    refine cnd h (fun hb146 h => ?_) fun hb146 h => ?_
    ·
     refine AW.ct hb146 rfl ?_
     refine AW.skip ?_
     refine AW.seq ?_
     refine AW.cut (τ := List Y8z × (List (Int × Bool)) × Value) (fun (l169, m170, v168) => ⟨[(2, pt b1), (5, cV v36), (6, cV v168), (9, mt b38), (53, cM Y9k 1 p1), (54, cI (p1.length : Int)), (55, cI x113), (59, cM Y9j 3 e115), (60, cI (e115.length : Int)), (61, cI x145)], [oB b1 186 [C.ip [cI p0.graph.room, cM Y9b 9 p0.graph.events, cM Y9b 9 p0.graph.parked, C.imap .i64 Y9p p0.depth, C.imap .i64 Y9q p0.before, C.imap .i64 Y9q p0.after, C.imap .i64 Y9p p0.refused]], oA v36 106 Y9j 3 l37, oA v168 136 Y9b 9 l169, Abs.Obj.map b38 .i64 Y9r m170]⟩) (fun (l169, m170, v168) => Zha x145 l169 m170 = some y236) ?_ ?_
     ·
      refine zw ?_
      refine oi h fun e147 g148 h => ?_
      refine zw ?_
      refine Ops.h (ns := []) rfl rfl (Y1p (cs := [cI 0, cI 0, cI 0]) Yc0 (Y42 rfl rfl) rfl) ?_
      rintro _ _ ⟨b149, rfl, rfl⟩
      refine Ops.hd (ns := [0]) rfl rfl (Y1u (gs := [cI e147.kind, cI e147.key, cI e147.id]) Ybu.h rfl rfl rfl rfl rfl) ?_
      refine zw ?_
      refine Ops.v rfl (Y6l (p := 4) (kc := Y9r) (z0 := false) Ydc zv_4 (fun _ _ => rfl) rfl rfl rfl rfl) ?_
      refine zw ?_
      refine cnd h (fun hb150 h => ?_) fun hb150 h => ?_
      ·
       refine AW.cond rfl (fun hn => absurd ((Y3u hb150).symm.trans hn) (by decide)) (fun _ => ?_)
       refine zw ?_
       exact ⟨(l143, m144, v142), h, Y21.both (ns := [1, 1, 1, 1]) rfl rfl⟩
      refine AW.cond rfl (fun _ => ?_) (fun hn => absurd ((Y3v hb150).symm.trans hn) (by decide))
      refine zw ?_
      refine Ops.hd (ns := [4]) rfl rfl (Y6m (kc := Y9r) (v := true) Ydc rfl rfl rfl rfl) ?_
      refine Ops.nil ?_
      refine AW.seq ?_
      refine AW.cut (τ := Int × Int × Int × Int × Int × Int × ByteArray × List Int × Int × Nat) (fun (x155, x156, x157, x158, x159, x160, x161, l162, x163, b154) => ⟨[(2, pt b1), (5, cV v36), (6, cV v142), (9, mt b38), (16, pt b154), (53, cM Y9k 1 p1), (54, cI (p1.length : Int)), (55, cI x113), (59, cM Y9j 3 e115), (60, cI (e115.length : Int)), (61, cI x145)], [oB b1 186 [C.ip [cI p0.graph.room, cM Y9b 9 p0.graph.events, cM Y9b 9 p0.graph.parked, C.imap .i64 Y9p p0.depth, C.imap .i64 Y9q p0.before, C.imap .i64 Y9q p0.after, C.imap .i64 Y9p p0.refused]], oA v36 106 Y9j 3 l37, oA v142 136 Y9b 9 l143, Abs.Obj.map b38 .i64 Y9r (mset m144 e147.id true), oB b154 136 [cI x155, cI x156, cI x157, cI x158, cI x159, cI x160, C.str x161, cM kI64 1 l162, cI x163]]⟩) (fun (x155, x156, x157, x158, x159, x160, x161, l162, x163, b154) => Zhb l143 m144 x145 e147 x155 x156 x157 x158 x159 x160 x161 l162 x163 = some y236) ?_ ?_
      ·
       refine AW.regionD (L := [0, 3, 5]) (Lt := [11]) (k := .light 0 true (.light 1 false (.light 2 false (.light 3 true (.light 4 false (.light 5 true (.two 6 10 (.light 7 false (.light 8 false (.light 9 false (.one 10 (.late 11 (.light 12 false .done)))))) (.one 6 (.light 7 false (.light 8 false (.light 9 false (.late 11 (.light 12 false .done))))))))))))) (ns := [0, 0, 0, 0, 0]) (by kernel_rfl) (by kernel_rfl) (by kernel_rfl) (by kernel_rfl) rfl ?_
       refine zw ?_
       refine ob' h fun r151 g152 h => ?_
       refine OpsD.two ?_ ?_
       ·
        refine Y3n.h (ns := []) rfl rfl rfl (Y24 ((Zc9 _ _).h _ g152) rfl rfl) ?_
        rintro _ _ ⟨rfl, rfl⟩
        refine OpsD.v rfl rfl (Yq rfl rfl) ?_
        refine OpsD.v rfl rfl (Y13 rfl rfl rfl) ?_
        refine OpsD.v rfl rfl (Y13 rfl rfl rfl) ?_
        refine OpsD.one ?_
        refine Y3n.h (ns := []) rfl rfl rfl (Y1p (cs := [cI 0, cI 0, cI 0, cI 0, cI 0, cI 0, C.str ByteArray.empty, cV s0, cI 0]) Yac (Y42 rfl rfl) rfl) ?_
        rintro _ _ ⟨b153, rfl, rfl⟩
        refine OpsD.late (ns := [5]) rfl rfl rfl (Y1u (gs := [cI r151.1.id, cI r151.1.room, cI r151.1.author, cI r151.1.kind, cI r151.1.key, cI r151.1.n, C.str r151.1.text, cM kI64 1 r151.1.prev, cI r151.1.time]) Yat.h rfl rfl rfl rfl rfl) ?_
        rintro _ _ ⟨rfl, rfl⟩
        refine zw ?_
        exact ⟨(r151.1.id, r151.1.room, r151.1.author, r151.1.kind, r151.1.key, r151.1.n, r151.1.text, r151.1.prev, r151.1.time, b153), h, Y21.both (ns := [3, 3, 3, 1, 0]) rfl rfl⟩
       refine Y3n.h (ns := []) rfl rfl rfl (Y1p (cs := [cI 0, cI 0, cI 0, cI 0, cI 0, cI 0, C.str ByteArray.empty, cV s0, cI 0]) Yac (Y42 rfl rfl) rfl) ?_
       rintro _ _ ⟨b153, rfl, rfl⟩
       refine OpsD.one ?_
       refine Y3n.h (ns := []) rfl rfl rfl (Y24 ((Zc9 _ _).h _ g152) rfl rfl) ?_
       rintro _ _ ⟨rfl, rfl⟩
       refine zw ?_
       refine OpsD.late (ns := [5]) rfl rfl rfl (Y1u (gs := [cI r151.1.id, cI r151.1.room, cI r151.1.author, cI r151.1.kind, cI r151.1.key, cI r151.1.n, C.str r151.1.text, cM kI64 1 r151.1.prev, cI r151.1.time]) Yat.h rfl rfl rfl rfl rfl) ?_
       rintro _ _ ⟨rfl, rfl⟩
       refine zw ?_
       exact ⟨(r151.1.id, r151.1.room, r151.1.author, r151.1.kind, r151.1.key, r151.1.n, r151.1.text, r151.1.prev, r151.1.time, b153), h, Y21.both (ns := [3, 3, 3, 1, 0]) rfl rfl⟩
      rintro ⟨x155, x156, x157, x158, x159, x160, x161, l162, x163, b154⟩ h
      replace h : Zhb l143 m144 x145 e147 x155 x156 x157 x158 x159 x160 x161 l162 x163 = some y236 := h
      unfold Zhb at h
      refine AW.region ?_
      refine Ops.v rfl (Yq rfl rfl) ?_
      refine Ops.v rfl (Y1l (p := 4) (ds := [cI x155, cI x156, cI x157, cI x158, cI x159, cI x160, C.str x161, cM kI64 1 l162, cI x163]) Yat.h rfl rfl rfl rfl rfl) ?_
      refine Ops.h (ns := []) rfl rfl (Y39 (k := Y9b) (ys := [(Y8z.mk x155 x156 x157 x158 x159 x160 x161 l162 x163)]) Yau (.agg rfl rfl .nil) rfl rfl rfl) ?_
      rintro _ _ ⟨b164, rfl, rfl⟩
      refine ob' h fun u166 c165 h => ?_
      refine Ops.h (ns := [3, 0]) rfl rfl (Y2s Yau rfl rfl (Wo (Y3t c165)) (Y3w (by decide) c165) rfl) ?_
      rintro _ _ ⟨v167, rfl, rfl⟩
      refine zw ?_
      exact ⟨((l143 ++ [(Y8z.mk x155 x156 x157 x158 x159 x160 x161 l162 x163)]), (mset m144 e147.id true), v167), h, Y21.both (ns := [1, 1, 0, 0]) rfl rfl⟩
     rintro ⟨l169, m170, v168⟩ h
     replace h : Zha x145 l169 m170 = some y236 := h
     unfold Zha at h
     refine zw ?_
     exact le h (gb [0, 0, 0, 0])
    refine AW.cf hb146 rfl ?_
    refine AW.exit ?_
    refine lx h fun h => ?_
    exact ⟨(l143, m144, v142), h, Y21.both (ns := [0, 0, 0, 0]) rfl rfl⟩
   rintro ⟨l172, m173, v171⟩ h
   replace h : Zh9 x113 l172 m173 = some y229 := h
   unfold Zh9 at h
   refine zw ?_
   exact le h (gb [0, 0, 0, 0])
  exact go
 rintro ⟨l175, v174⟩ h
 replace h : Zh8 p0 l37 l175 = some r := h
 unfold Zh8 at h
 refine zw ?_
 refine Ops.v rfl (Y6q rfl rfl) ?_
 refine ob' h fun r176 g177 h => ?_
 refine Ops.hd (ns := [2, 0]) rfl rfl (Y87 (k := Y9b) Y8x rfl rfl (Y86.clo rfl) (FrzT.cons (os := [_]) (Frz.box (fS FrzL.nil)) FrzT.nil) (fun z1 z2 r_ h_ => (Zea z1 z2 p0).h r_ h_) g177 rfl) ?_
 refine zw ?_
 refine AW.lp (v := ()) h (fun (l193, x194) (_ : Unit) => ⟨[(2, pt b1), (5, cM Y9j 3 l193), (92, cV v174), (93, cI (r176.length : Int)), (94, cI x194)], [oB b1 186 [C.ip [cI p0.graph.room, cM Y9b 9 p0.graph.events, cM Y9b 9 p0.graph.parked, C.imap .i64 Y9p p0.depth, C.imap .i64 Y9q p0.before, C.imap .i64 Y9q p0.after, C.imap .i64 Y9p p0.refused]], oA v174 136 Y9b 9 r176]⟩) ((Y21.freeze (p := 2) (t := 5) rfl rfl).trans (Y21.both (ns := [1, 0]) rfl rfl)) ?_
 rintro ⟨l193, x194⟩ _ y222 h
 refine zw ?_
 refine cnd h (fun hb195 h => ?_) fun hb195 h => ?_
 ·
  refine AW.ct hb195 rfl ?_
  refine zw ?_
  refine ob' h fun e196 g197 h => ?_
  refine Ops.v rfl (Y2x (p := 1) Yax.h rfl rfl rfl g197 rfl) ?_
  refine Ops.v rfl (Y31 (p := 1) Yat.h rfl rfl (Y29 g197).2.2 rfl rfl rfl) ?_
  refine Ops.h (ns := []) rfl rfl (Y1p (cs := [cI 0, cI 0, cI 0, cI 0, cI 0, cI 0, C.str ByteArray.empty, cV s0, cI 0]) Yac (Y42 rfl rfl) rfl) ?_
  rintro _ _ ⟨b198, rfl, rfl⟩
  refine Ops.hd (ns := [0]) rfl rfl (Y1u (gs := [cI e196.id, cI e196.room, cI e196.author, cI e196.kind, cI e196.key, cI e196.n, C.str e196.text, cM kI64 1 e196.prev, cI e196.time]) Yat.h rfl rfl rfl rfl rfl) ?_
  refine zw ?_
  refine rD [0,0,0] [0,3,5] [] [1,4,8,13,16,21,26,28] ?_
  refine zw ?_
  refine dc h fun r199 g200 h => ?_
  refine zw ?_
  refine cnd h (fun hb201 h => ?_) fun hb201 h => ?_
  ·
   refine AW.ct hb201 rfl ?_
   refine zw ?_
   refine Ops.v rfl (Y38 (ds := [cI e196.kind, cI e196.key, cI e196.id]) Ybz Yc0 (Y42 rfl rfl) (.one rfl (One.val rfl) rfl rfl (.one rfl (One.val rfl) rfl rfl (.one rfl (One.val rfl) rfl rfl .nil))) rfl) ?_
   exact go
  exact go
 exact go

def Zhl (p0 : Y99) : Option (List Y94) := (Zgz p0).bind fun r1 => (Zh3 p0 r1).bind fun r3 => (Zhj p0 r3).bind fun r5 => some r5
instance Zhm (p0 : Y99) : Sp Tryz.prog 223 [C.ip [cI p0.graph.room, cM Y9b 9 p0.graph.events, cM Y9b 9 p0.graph.parked, C.imap .i64 Y9p p0.depth, C.imap .i64 Y9q p0.before, C.imap .i64 Y9q p0.after, C.imap .i64 Y9p p0.refused]] (Zhl p0) (fun r => cM Y9j 3 r) := sp Tryz.func223 rfl rfl fun r X h => go

def Zhn (p0 : List Int) (p1 : Int) : Option (List Int) := (Y28 p0 (if 0 > (IntKind.i64.wrap ((p0.length : Int) - p1)) then 0 else (IntKind.i64.wrap ((p0.length : Int) - p1))) (p0.length : Int)).bind fun s1 => (Zer s1).bind fun r3 => some r3
theorem Zho (p0 : List Int) (p1 : Int) (r : List Int) (h : Zhn p0 p1 = some r) : Ok Tryz.prog 174 [cM kI64 1 p0, cI p1] [] (fun c qs => ∃ (v6 : Value), c = cV v6 ∧ qs = [oA v6 2 kI64 1 r]) := by
 refine Ok.of_body (rs := [.tmp 4]) Tryz.func174 rfl rfl rfl rfl rfl fun X => ?_
 unfold Zhn at h
 refine zw ?_
 refine Ops.v rfl (Y2f rfl rfl rfl) ?_
 refine ob' h fun s1 g2 h => ?_
 refine Ops.v rfl (Y2k Y9v.h rfl rfl g2 rfl) ?_
 refine ob' h fun r3 g4 h => ?_
 refine Ops.h (ns := []) rfl rfl (Y23 (Zes _ _ g4) rfl rfl) ?_
 rintro _ _ ⟨_, ⟨v5, rfl, rfl⟩, rfl⟩
 refine zw ?_
 refine AW.ret ?_
 rw [← Wj h]
 exact ⟨[cV v5], _, Y21.refl _, (.cons (.tmp rfl) .nil), [0], _, _, rfl, ⟨v5, rfl, rfl⟩⟩
instance Zho' (p0 : List Int) (p1 : Int) : Sp Tryz.prog 174 [cM kI64 1 p0, cI p1] (Zhn p0 p1) (fun r => cM kI64 1 r) := ⟨fun r h => Ok.freeze (Zho p0 p1 r h) (by rintro c qs ⟨v6, rfl, rfl⟩; exact Frz.arr)⟩

def Zhp (l12 : List Int) (x13 : Int) (x14 : Int) : Option ((List Int × Int × Int) ⊕ ((List Int))) := cond (decide (x13 < x14)) ((getI l12 x14).bind fun e16 => (getI l12 x13).bind fun e18 => (getI (List.set l12 (Int.toNat x13) e16) x14).bind fun e24 => some (.inl ((List.set (List.set l12 (Int.toNat x13) e16) (Int.toNat x14) e18), (IntKind.i64.wrap (x13 + 1)), (IntKind.i64.wrap (x14 - 1))))) (some (.inr l12))
def Zhq (p0 : List Int) : Option (List Int) := (iter (fun z26 => Zhp z26.1 z26.2.1 z26.2.2) big (p0, 0, (IntKind.i64.wrap ((p0.length : Int) - 1)))).bind fun y27 => some y27
theorem Zhr {w00 : Value} (p0 : List Int) (r : List Int) (h : Zhq p0 = some r) : Ok Tryz.prog 122 [cV w00] [oA w00 2 kI64 1 p0] (fun c qs => c = C.tup [] ∧ qs = [oA w00 2 kI64 1 r]) := by
 refine Ok.of_body (rs := []) Tryz.func122 rfl rfl rfl rfl rfl fun X => ?_
 unfold Zhq at h
 refine zw ?_
 refine AW.lp (v := ()) h (fun (l12, x13, x14) (_ : Unit) => ⟨[(0, cV w00), (2, cI x13), (3, cI x14)], [oA w00 2 kI64 1 l12]⟩) (gb [0]) ?_
 rintro ⟨l12, x13, x14⟩ _ y33 h
 refine zw ?_
 refine cnd h (fun hb15 h => ?_) fun hb15 h => ?_
 ·
  refine AW.ct hb15 rfl ?_
  refine zw ?_
  refine rD [0] [7,11] [13,15] [0,4,8,12,16,20,24,29,32,36,40,45,48,55,56,63] ?_
  refine zw ?_
  refine di h fun e16 g17 h => ?_
  refine OpsD.v rfl rfl (Y30 (p := 0) ld_2.h rfl rfl (Y29 g17).2.2 rfl rfl) ?_
  refine zw ?_
  refine di h fun e18 g19 h => ?_
  refine OpsD.v rfl rfl (Y30 (p := 0) ld_2.h rfl rfl (Y29 g19).2.2 rfl rfl) ?_
  refine zw ?_
  refine OpsD.late (ns := [0]) rfl rfl rfl (Y33 (e' := e16) ld_2.h rfl rfl (One.val rfl) (Y29 g19).2.2 rfl rfl) ?_
  rintro _ _ ⟨rfl, rfl⟩
  refine ob' h fun e24 g25 h => ?_
  refine OpsD.rest (ns := [0]) rfl ?_
  refine zw ?_
  refine OpsD.late (ns := [0]) rfl rfl rfl (Y33 (e' := e18) ld_2.h rfl rfl (One.val rfl) (Y29 g25).2.2 rfl rfl) ?_
  rintro _ _ ⟨rfl, rfl⟩
  exact go
 refine AW.cf hb15 rfl ?_
 refine AW.exit ?_
 refine lx h fun h => ?_
 rw [← Wj h]
 exact ⟨[], _, Y21.refl _, .nil, [0], _, _, rfl, ⟨rfl, rfl⟩⟩

def Zhs (p0 : Y8z) : Option Y8z := (Zer p0.prev).bind fun r3 => some (Y8z.mk p0.id p0.room p0.author p0.kind p0.key p0.n p0.text r3 p0.time)
theorem Zht (p0 : Y8z) (r : Y8z) (h : Zhs p0 = some r) : Ok Tryz.prog 169 [C.agg [cI p0.id, cI p0.room, cI p0.author, cI p0.kind, cI p0.key, cI p0.n, C.str p0.text, cM kI64 1 p0.prev, cI p0.time]] [] (fun c qs => ∃ (v7 : Value), c = C.agg [cI r.id, cI r.room, cI r.author, cI r.kind, cI r.key, cI r.n, C.str r.text, cV v7, cI r.time] ∧ qs = [oA v7 2 kI64 1 r.prev]) := by
 refine Ok.of_body (rs := [.cell 2 136]) Tryz.func169 rfl rfl rfl rfl rfl fun X => ?_
 unfold Zhs at h
 refine zw ?_
 refine ox fun b1 => ?_
 refine Ops.h (ns := []) rfl rfl (Y1p (cs := [cI 0, cI 0, cI 0, cI 0, cI 0, cI 0, C.str ByteArray.empty, cV s0, cI 0]) Yac (Y42 rfl rfl) rfl) ?_
 rintro _ _ ⟨b2, rfl, rfl⟩
 refine zw ?_
 refine ob' h fun r3 g4 h => ?_
 refine Ops.h (ns := []) rfl rfl (Y23 (Zes _ _ g4) rfl rfl) ?_
 rintro _ _ ⟨_, ⟨v5, rfl, rfl⟩, rfl⟩
 refine Ops.v rfl (Y1b Yaq.h rfl rfl) ?_
 refine Ops.learn (Sim.arr_one (p := 0) rfl) fun n6 => ?_
 refine Ops.hd (ns := [2]) rfl rfl (Y1t (gs := [cI p0.id, cI p0.room, cI p0.author, cI p0.kind, cI p0.key, cI p0.n, C.str p0.text, cV v5, cI p0.time]) Y9y.h rfl rfl (One.val n6) rfl rfl) ?_
 refine zw ?_
 refine Ops.hd (ns := [2]) rfl rfl (Y1u (gs := [cI p0.id, cI p0.room, cI p0.author, cI p0.kind, cI p0.key, cI p0.n, C.str p0.text, cV v5, cI p0.time]) Yat.h rfl rfl rfl rfl rfl) ?_
 refine zw ?_
 refine AW.ret ?_
 rw [← Wj h]
 exact ⟨[C.agg [cI p0.id, cI p0.room, cI p0.author, cI p0.kind, cI p0.key, cI p0.n, C.str p0.text, cV v5, cI p0.time]], _, Y21.refl _, (.cons (.cell (p := 0) rfl rfl Yat.h rfl) .nil), [2], _, _, rfl, ⟨v5, rfl, rfl⟩⟩
instance Zht' (p0 : Y8z) : Sp Tryz.prog 169 [C.agg [cI p0.id, cI p0.room, cI p0.author, cI p0.kind, cI p0.key, cI p0.n, C.str p0.text, cM kI64 1 p0.prev, cI p0.time]] (Zhs p0) (fun r => C.agg [cI r.id, cI r.room, cI r.author, cI r.kind, cI r.key, cI r.n, C.str r.text, cM kI64 1 r.prev, cI r.time]) := ⟨fun r h => Ok.freeze (Zht p0 r h) (by rintro c qs ⟨v7, rfl, rfl⟩; exact Frz.agg (fS (fS (fS (fS (fS (fS (fS (FrzL.cons (os := [_]) (Frz.arr) (fS (FrzL.nil)))))))))))⟩

def Zhu (p0 : Y9a) (p1 : Int) (p2 : Int) : Option Int := (Zg7 p0.hub.stream (Y91.mk p1 p2)).bind fun r1 => some (IntKind.i64.wrap (r1 + 1))
instance Zhv (p0 : Y9a) (p1 : Int) (p2 : Int) : Sp Tryz.prog 111 [C.ip [cM Y9g 3 p0.hub.rooms, cM Y9d 2 p0.hub.stream, cM Y9s 1 p0.rooms], cI p1, cI p2] (Zhu p0 p1 p2) cI := sp Tryz.func111 rfl rfl fun r X h => by
 unfold Zhu at h
 refine zw ?_
 refine Ops.v rfl (Y38 (ds := [cI p1, cI p2]) Ydw Yb8 (Y42 rfl rfl) (.one rfl (One.val rfl) rfl rfl (.one rfl (One.val rfl) rfl rfl .nil)) rfl) ?_
 exact go

def Zhw (p0 : Y9a) (p1 : Int) : Option Y99 := (getI p0.rooms (IntKind.i64.wrap (p1 - 1))).bind fun e1 => some e1
instance Zhx (p0 : Y9a) (p1 : Int) : Sp Tryz.prog 138 [C.ip [cM Y9g 3 p0.hub.rooms, cM Y9d 2 p0.hub.stream, cM Y9s 1 p0.rooms], cI p1] (Zhw p0 p1) (fun r => C.ip [cI r.graph.room, cM Y9b 9 r.graph.events, cM Y9b 9 r.graph.parked, C.imap .i64 Y9p r.depth, C.imap .i64 Y9q r.before, C.imap .i64 Y9q r.after, C.imap .i64 Y9p r.refused]) := sp Tryz.func138 rfl rfl fun r X h => go

def Zhy (p0 : Y9a) (p1 : Int) (p2 : Int) : Option Bool := (Zhw p0 p2).bind fun r1 => (Zhl r1).bind fun r3 => (Zd4 r1.graph r3 p1).bind fun r5 => some (r5 == 1)
instance Zhz (p0 : Y9a) (p1 : Int) (p2 : Int) : Sp Tryz.prog 165 [C.ip [cM Y9g 3 p0.hub.rooms, cM Y9d 2 p0.hub.stream, cM Y9s 1 p0.rooms], cI p1, cI p2] (Zhy p0 p1 p2) C.bool := sp Tryz.func165 rfl rfl fun r X h => by
 unfold Zhy at h
 refine zw ?_
 refine oc h fun r1 g2 h => ?_
 refine zw ?_
 refine rD [] [3] [] [0,4,8,13,16,24,22,30,32,36] ?_
 exact go

def Zi0 (x23 : Bool) : Option Bool := some x23
def Zi1 (p0 : Y9a) (p1 : Int) (p2 : Int) (p3 : Int) (r4 : Y99) (x16 : Bool) : Option Bool := cond x16 (some true) ((Zg9 r4.graph (Option.getD (mget r4.after p3) ([] : List Y94))).bind fun r18 => cond (r18 == 2) ((Zhy p0 p1 p2).bind fun r21 => Zi0 r21) (Zi0 false))
def Zi2 (p0 : Y9a) (p1 : Int) (p2 : Int) (p3 : Int) : Option Bool := (Zhu p0 p2 p3).bind fun r1 => cond (r1 == 0) (some false) ((Zhw p0 p2).bind fun r4 => (Zc8 r4.graph p3).bind fun r6 => (Zd4 r4.graph (Option.getD (mget r4.after p3) ([] : List Y94)) p1).bind fun r9 => cond (r9 == 1) (Zi1 p0 p1 p2 p3 r4 true) ((Zg9 r4.graph (Option.getD (mget r4.after p3) ([] : List Y94))).bind fun r12 => cond (r12 == 1) (Zi1 p0 p1 p2 p3 r4 true) (cond (r6.1.kind == 2) (Zi1 p0 p1 p2 p3 r4 (r6.1.key == p1)) (Zi1 p0 p1 p2 p3 r4 false))))
instance Zi3 (p0 : Y9a) (p1 : Int) (p2 : Int) (p3 : Int) : Sp Tryz.prog 109 [C.ip [cM Y9g 3 p0.hub.rooms, cM Y9d 2 p0.hub.stream, cM Y9s 1 p0.rooms], cI p1, cI p2, cI p3] (Zi2 p0 p1 p2 p3) C.bool := sp Tryz.func109 rfl rfl fun r X h => by
 unfold Zi2 at h
 refine zw ?_
 refine oc h fun r1 g2 h => ?_
 refine zw ?_
 refine cnd h (fun hb3 h => go) fun hb3 h => ?_
 refine AW.cf hb3 rfl ?_
 refine zw ?_
 refine oc h fun r4 g5 h => ?_
 refine zw ?_
 refine oc h fun r6 g7 h => ?_
 refine zw ?_
 refine Ops.h (ns := []) rfl rfl (Y1p (cs := [cI 0, cI 0, cI 0, cI 0, cI 0, cI 0, C.str ByteArray.empty, cV s0, cI 0]) Yac (Y42 rfl rfl) rfl) ?_
 rintro _ _ ⟨b8, rfl, rfl⟩
 refine Ops.hd (ns := [0]) rfl rfl (Y1u (gs := [cI r6.1.id, cI r6.1.room, cI r6.1.author, cI r6.1.kind, cI r6.1.key, cI r6.1.n, C.str r6.1.text, cM kI64 1 r6.1.prev, cI r6.1.time]) Yat.h rfl rfl rfl rfl rfl) ?_
 refine zw ?_
 refine Ops.v rfl (Y8a (kc := Y9q) (z0 := ([] : List Y94)) Yd9 Yda (fun w F => Imp.nil Y9j 3 w F _ rfl) rfl rfl rfl) ?_
 refine Ops.v rfl (Yr rfl rfl) ?_
 refine Ops.nil ?_
 refine AW.seq ?_
 refine AW.block ?_
 refine AW.seq ?_
 refine AW.cut (τ := Bool) (fun x16 => ⟨[(0, C.ip [cM Y9g 3 p0.hub.rooms, cM Y9d 2 p0.hub.stream, cM Y9s 1 p0.rooms]), (1, cI p1), (2, cI p2), (9, C.ip [cI r4.graph.room, cM Y9b 9 r4.graph.events, cM Y9b 9 r4.graph.parked, C.imap .i64 Y9p r4.depth, C.imap .i64 Y9q r4.before, C.imap .i64 Y9q r4.after, C.imap .i64 Y9p r4.refused]), (12, cM Y9j 3 (Option.getD (mget r4.after p3) ([] : List Y94))), (36, C.bool x16)], []⟩) (fun x16 => Zi1 p0 p1 p2 p3 r4 x16 = some r) ?_ ?_
 ·
  refine zw ?_
  refine oc h fun r9 g10 h => ?_
  refine zw ?_
  refine cnd h (fun hb11 h => go) fun hb11 h => ?_
  refine zw ?_
  refine ob' h fun r12 g13 h => ?_
  refine Ops.ghd (ns := []) rfl rfl rfl rfl hb11 rfl (Y24 ((Zga _ _).h _ g13) rfl rfl) ?_
  exact go
 intro x16 h
 replace h : Zi1 p0 p1 p2 p3 r4 x16 = some r := h
 unfold Zi1 at h
 refine cnd h (fun hb17 h => go) fun hb17 h => ?_
 refine AW.cf hb17 rfl ?_
 refine zw ?_
 refine oc h fun r18 g19 h => ?_
 refine zw ?_
 refine cnd h (fun hb20 h => ?_) fun hb20 h => ?_
 ·
  refine zw ?_
  refine ob' h fun r21 g22 h => ?_
  refine Ops.ghd (ns := []) rfl rfl rfl rfl hb20 rfl (Y24 ((Zhz _ _ _).h _ g22) rfl rfl) ?_
  exact go
 exact go

def Zi4 (l42 : List Int) : Option (List Int) := some l42
def Zi5 (x22 : Int) (l40 : List Int) : Option ((List Int × Int) ⊕ ((List Int))) := some (.inl (l40, (IntKind.i64.wrap (x22 + 1))))
def Zi6 (l21 : List Int) (x22 : Int) (x33 : Bool) : Option ((List Int × Int) ⊕ ((List Int))) := cond x33 ((chk (decide ((l21.length + [(IntKind.i64.wrap (x22 + 1))].length) * 8 ≤ 140737488355328))).bind fun u37 => Zi5 x22 (l21 ++ [(IntKind.i64.wrap (x22 + 1))])) (Zi5 x22 l21)
def Zi7 (p0 : Y9a) (p1 : Int) (p2 : Int) (p3 : Int) (p4 : Int) (l21 : List Int) (x22 : Int) : Option ((List Int × Int) ⊕ ((List Int))) := cond (decide (x22 < (p0.hub.stream.length : Int))) ((getI p0.hub.stream x22).bind fun e24 => (Z83 (IntKind.i64.wrap (x22 + 1)) p3 p4).bind fun r27 => cond r27 (cond (e24.room == p2) ((Zi2 p0 p1 p2 e24.id).bind fun r31 => Zi6 l21 x22 r31) (Zi6 l21 x22 false)) (Zi6 l21 x22 false)) (some (.inr l21))
def Zi8 (p0 : Y9a) (p1 : Int) (p2 : Int) (p3 : Int) (p4 : Int) : Option (List Int) := (iter (fun z44 => Zi7 p0 p1 p2 p3 p4 z44.1 z44.2) big (([] : List Int), 0)).bind fun y45 => Zi4 y45
theorem Zi9 (p0 : Y9a) (p1 : Int) (p2 : Int) (p3 : Int) (p4 : Int) (r : List Int) (h : Zi8 p0 p1 p2 p3 p4 = some r) : Ok Tryz.prog 100 [C.ip [cM Y9g 3 p0.hub.rooms, cM Y9d 2 p0.hub.stream, cM Y9s 1 p0.rooms], cI p1, cI p2, cI p3, cI p4] [] (fun c qs => ∃ (v43 : Value), c = cV v43 ∧ qs = [oA v43 2 kI64 1 r]) := by
 refine Ok.of_body (rs := [.tmp 10]) Tryz.func100 rfl rfl rfl rfl rfl fun X => ?_
 unfold Zi8 at h
 refine zw ?_
 refine Ops.h (ns := []) rfl rfl (Y39 (k := kI64) (ys := ([] : List Int)) Yab .nil rfl rfl rfl) ?_
 rintro _ _ ⟨b1, rfl, rfl⟩
 refine Ops.v rfl (Yr rfl rfl) ?_
 refine Ops.nil ?_
 refine AW.seq ?_
 refine AW.cut (τ := List Int × Value) (fun (l42, v41) => ⟨[(11, cV v41)], [oA v41 2 kI64 1 l42]⟩) (fun (l42, v41) => Zi4 l42 = some r) ?_ ?_
 ·
  refine zw ?_
  refine AW.lp h (fun (l21, x22) (v20 : Value) => ⟨[(0, C.ip [cM Y9g 3 p0.hub.rooms, cM Y9d 2 p0.hub.stream, cM Y9s 1 p0.rooms]), (1, cI p1), (2, cI p2), (3, cI p3), (4, cI p4), (11, cV v20), (20, cM Y9d 2 p0.hub.stream), (21, cI (p0.hub.stream.length : Int)), (22, cI x22)], [oA v20 2 kI64 1 l21]⟩) (gb [0]) ?_
  rintro ⟨l21, x22⟩ v20 y51 h
  refine zw ?_
  refine cnd h (fun hb23 h => ?_) fun hb23 h => ?_
  ·
   refine AW.ct hb23 rfl ?_
   refine zw ?_
   refine oi h fun e24 g25 h => ?_
   refine zw ?_
   refine Ops.h (ns := []) rfl rfl (Y1p (cs := [cI 0, cI 0]) Yb8 (Y42 rfl rfl) rfl) ?_
   rintro _ _ ⟨b26, rfl, rfl⟩
   refine zw ?_
   refine Ops.hd (ns := [0]) rfl rfl (Y1u (gs := [cI e24.room, cI e24.id]) Ybd.h rfl rfl rfl rfl rfl) ?_
   refine Ops.nil ?_
   refine AW.seq ?_
   refine AW.region ?_
   refine Ops.v rfl (Yq rfl rfl) ?_
   refine Ops.v rfl (Yv rfl rfl rfl rfl) ?_
   refine Ops.v rfl (Yr rfl rfl) ?_
   refine Ops.nil ?_
   refine AW.seq ?_
   refine AW.cut (τ := Bool) (fun x33 => ⟨[(0, C.ip [cM Y9g 3 p0.hub.rooms, cM Y9d 2 p0.hub.stream, cM Y9s 1 p0.rooms]), (1, cI p1), (2, cI p2), (3, cI p3), (4, cI p4), (11, cV v20), (14, cI (IntKind.i64.wrap (x22 + 1))), (20, cM Y9d 2 p0.hub.stream), (21, cI (p0.hub.stream.length : Int)), (22, cI x22), (46, C.bool x33)], [oA v20 2 kI64 1 l21]⟩) (fun x33 => Zi6 l21 x22 x33 = some y51) ?_ ?_
   ·
    refine zw ?_
    refine oc h fun r27 g28 h => ?_
    refine zw ?_
    refine cnd h (fun hb29 h => ?_) fun hb29 h => ?_
    ·
     refine zw ?_
     refine cnd h (fun hb30 h => ?_) fun hb30 h => ?_
     ·
      refine zw ?_
      refine ob' h fun r31 g32 h => ?_
      refine Ops.ghd (ns := []) rfl rfl rfl rfl hb30 rfl (Y24 ((Zi3 _ _ _ _).h _ g32) rfl rfl) ?_
      exact go
     exact go
    exact go
   intro x33 h
   replace h : Zi6 l21 x22 x33 = some y51 := h
   unfold Zi6 at h
   refine cnd h (fun hb34 h => ?_) fun hb34 h => ?_
   ·
    refine AW.ct hb34 rfl ?_
    refine zw ?_
    refine Ops.h (ns := []) rfl rfl (Y39 (k := kI64) (ys := [(IntKind.i64.wrap (x22 + 1))]) Yab (.one rfl (One.val rfl) rfl rfl .nil) rfl rfl rfl) ?_
    rintro _ _ ⟨b35, rfl, rfl⟩
    refine ob' h fun u37 c36 h => ?_
    refine Ops.h (ns := [1, 0]) rfl rfl (Y2s Yab rfl rfl (Wo (Y3t c36)) (Y3w (by decide) c36) rfl) ?_
    rintro _ _ ⟨v38, rfl, rfl⟩
    exact go
   exact go
  exact go
 rintro ⟨l42, v41⟩ h
 replace h : Zi4 l42 = some r := h
 unfold Zi4 at h
 refine zw ?_
 refine AW.ret ?_
 rw [← Wj h]
 exact ⟨[cV v41], _, Y21.refl _, (.cons (.tmp rfl) .nil), [0], _, _, rfl, ⟨v41, rfl, rfl⟩⟩
instance Zi9' (p0 : Y9a) (p1 : Int) (p2 : Int) (p3 : Int) (p4 : Int) : Sp Tryz.prog 100 [C.ip [cM Y9g 3 p0.hub.rooms, cM Y9d 2 p0.hub.stream, cM Y9s 1 p0.rooms], cI p1, cI p2, cI p3, cI p4] (Zi8 p0 p1 p2 p3 p4) (fun r => cM kI64 1 r) := ⟨fun r h => Ok.freeze (Zi9 p0 p1 p2 p3 p4 r h) (by rintro c qs ⟨v43, rfl, rfl⟩; exact Frz.arr)⟩

def Zia : Option Int := some 0
def Zib (x26 : Int) : Option (Int ⊕ (Int ⊕ Unit)) := some (.inl (IntKind.i64.wrap (x26 + 1)))
def Zic (x26 : Int) (e28 : Y91) (x50 : Bool) : Option (Int ⊕ (Int ⊕ Unit)) := cond x50 (some (.inr (.inl e28.id))) (Zib x26)
def Zid (p2 : Int) (x26 : Int) (e28 : Y91) (x40 : Int) (x41 : Int) (x42 : Int) (x43 : Int) (x44 : Int) (x45 : Int) (x46 : ByteArray) (l47 : List Int) (x48 : Int) : Option (Int ⊕ (Int ⊕ Unit)) := cond (x43 == 8) (Zic x26 e28 (x44 == p2)) (Zic x26 e28 false)
def Zie (p0 : Y9a) (p1 : Int) (p2 : Int) (x26 : Int) : Option (Int ⊕ (Int ⊕ Unit)) := cond (decide (x26 < (p0.hub.stream.length : Int))) ((getI p0.hub.stream x26).bind fun e28 => cond (e28.room != p1) (Zib x26) ((Zhw p0 p1).bind fun r32 => (Zc8 r32.graph e28.id).bind fun r35 => Zid p2 x26 e28 r35.1.id r35.1.room r35.1.author r35.1.kind r35.1.key r35.1.n r35.1.text r35.1.prev r35.1.time)) (some (.inr (.inr ())))
def Zif (p0 : Y9a) (p1 : Int) (p2 : Int) : Option Int := (iter (Zie p0 p1 p2) big 0).bind (fun z53 => match z53 with | .inl y52 => some y52 | .inr () => Zia)
instance Zig (p0 : Y9a) (p1 : Int) (p2 : Int) : Sp Tryz.prog 170 [C.ip [cM Y9g 3 p0.hub.rooms, cM Y9d 2 p0.hub.stream, cM Y9s 1 p0.rooms], cI p1, cI p2] (Zif p0 p1 p2) cI := sp Tryz.func170 rfl rfl fun r X h => by
 unfold Zif at h
 refine zw ?_
 refine AW.lp (v := ()) h (fun x26 (_ : Unit) => ⟨[(0, C.ip [cM Y9g 3 p0.hub.rooms, cM Y9d 2 p0.hub.stream, cM Y9s 1 p0.rooms]), (1, cI p1), (2, cI p2), (15, cM Y9d 2 p0.hub.stream), (16, cI (p0.hub.stream.length : Int)), (17, cI x26)], []⟩) (gb []) ?_
 rintro x26 _ y59 h
 refine zw ?_
 refine cnd h (fun hb27 h => ?_) fun hb27 h => ?_
 ·
  refine AW.ct hb27 rfl ?_
  refine zw ?_
  refine oi h fun e28 g29 h => ?_
  refine zw ?_
  refine Ops.h (ns := []) rfl rfl (Y1p (cs := [cI 0, cI 0]) Yb8 (Y42 rfl rfl) rfl) ?_
  rintro _ _ ⟨b30, rfl, rfl⟩
  refine Ops.hd (ns := [0]) rfl rfl (Y1u (gs := [cI e28.room, cI e28.id]) Ybd.h rfl rfl rfl rfl rfl) ?_
  refine zw ?_
  refine cnd h (fun hb31 h => go) fun hb31 h => ?_
  refine AW.cf hb31 rfl ?_
  refine AW.skip ?_
  refine AW.seq ?_
  refine AW.cut (τ := Int × Int × Int × Int × Int × Int × ByteArray × List Int × Int × Nat) (fun (x40, x41, x42, x43, x44, x45, x46, l47, x48, b39) => ⟨[(0, C.ip [cM Y9g 3 p0.hub.rooms, cM Y9d 2 p0.hub.stream, cM Y9s 1 p0.rooms]), (1, cI p1), (2, cI p2), (8, pt b30), (9, pt b39), (15, cM Y9d 2 p0.hub.stream), (16, cI (p0.hub.stream.length : Int)), (17, cI x26)], [oB b30 142 [cI e28.room, cI e28.id], oB b39 136 [cI x40, cI x41, cI x42, cI x43, cI x44, cI x45, C.str x46, cM kI64 1 l47, cI x48]]⟩) (fun (x40, x41, x42, x43, x44, x45, x46, l47, x48, b39) => Zid p2 x26 e28 x40 x41 x42 x43 x44 x45 x46 l47 x48 = some y59) ?_ ?_
  ·
   refine AW.regionD (L := [5, 7]) (Lt := [13]) (k := .light 0 false (.light 1 false (.light 6 false (.light 7 true (.two 2 12 (.light 3 false (.light 4 false (.light 5 true (.two 8 12 (.light 9 false (.light 10 false (.light 11 false (.one 12 (.late 13 (.light 14 false .done)))))) (.one 8 (.light 9 false (.light 10 false (.light 11 false (.late 13 (.light 14 false .done)))))))))) (.one 2 (.light 3 false (.light 4 false (.light 5 true (.one 8 (.light 9 false (.light 10 false (.light 11 false (.late 13 (.light 14 false .done))))))))))))))) (ns := [0]) (by kernel_rfl) (by kernel_rfl) (by kernel_rfl) (by kernel_rfl) rfl ?_
   refine zw ?_
   refine ob' h fun r32 g33 h => ?_
   refine OpsD.two ?_ ?_
   ·
    refine Y3n.h (ns := []) rfl rfl rfl (Y24 ((Zhx _ _).h _ g33) rfl rfl) ?_
    rintro _ _ ⟨rfl, rfl⟩
    refine zw ?_
    refine ob' h fun r35 g36 h => ?_
    refine OpsD.two ?_ ?_
    ·
     refine Y3n.h (ns := []) rfl rfl rfl (Y24 ((Zc9 _ _).h _ g36) rfl rfl) ?_
     rintro _ _ ⟨rfl, rfl⟩
     refine OpsD.v rfl rfl (Yq rfl rfl) ?_
     refine OpsD.v rfl rfl (Y13 rfl rfl rfl) ?_
     refine OpsD.v rfl rfl (Y13 rfl rfl rfl) ?_
     refine OpsD.one ?_
     refine Y3n.h (ns := []) rfl rfl rfl (Y1p (cs := [cI 0, cI 0, cI 0, cI 0, cI 0, cI 0, C.str ByteArray.empty, cV s0, cI 0]) Yac (Y42 rfl rfl) rfl) ?_
     rintro _ _ ⟨b34, rfl, rfl⟩
     refine OpsD.late (ns := [1]) rfl rfl rfl (Y1u (gs := [cI r35.1.id, cI r35.1.room, cI r35.1.author, cI r35.1.kind, cI r35.1.key, cI r35.1.n, C.str r35.1.text, cM kI64 1 r35.1.prev, cI r35.1.time]) Yat.h rfl rfl rfl rfl rfl) ?_
     rintro _ _ ⟨rfl, rfl⟩
     refine zw ?_
     exact ⟨(r35.1.id, r35.1.room, r35.1.author, r35.1.kind, r35.1.key, r35.1.n, r35.1.text, r35.1.prev, r35.1.time, b34), h, Y21.both (ns := [1, 0]) rfl rfl⟩
    refine Y3n.h (ns := []) rfl rfl rfl (Y1p (cs := [cI 0, cI 0, cI 0, cI 0, cI 0, cI 0, C.str ByteArray.empty, cV s0, cI 0]) Yac (Y42 rfl rfl) rfl) ?_
    rintro _ _ ⟨b34, rfl, rfl⟩
    refine OpsD.one ?_
    refine Y3n.h (ns := []) rfl rfl rfl (Y24 ((Zc9 _ _).h _ g36) rfl rfl) ?_
    rintro _ _ ⟨rfl, rfl⟩
    refine zw ?_
    refine OpsD.late (ns := [1]) rfl rfl rfl (Y1u (gs := [cI r35.1.id, cI r35.1.room, cI r35.1.author, cI r35.1.kind, cI r35.1.key, cI r35.1.n, C.str r35.1.text, cM kI64 1 r35.1.prev, cI r35.1.time]) Yat.h rfl rfl rfl rfl rfl) ?_
    rintro _ _ ⟨rfl, rfl⟩
    refine zw ?_
    exact ⟨(r35.1.id, r35.1.room, r35.1.author, r35.1.kind, r35.1.key, r35.1.n, r35.1.text, r35.1.prev, r35.1.time, b34), h, Y21.both (ns := [1, 0]) rfl rfl⟩
   refine Y3n.h (ns := []) rfl rfl rfl (Y1p (cs := [cI 0, cI 0, cI 0, cI 0, cI 0, cI 0, C.str ByteArray.empty, cV s0, cI 0]) Yac (Y42 rfl rfl) rfl) ?_
   rintro _ _ ⟨b34, rfl, rfl⟩
   refine OpsD.one ?_
   refine Y3n.h (ns := []) rfl rfl rfl (Y24 ((Zhx _ _).h _ g33) rfl rfl) ?_
   rintro _ _ ⟨rfl, rfl⟩
   refine zw ?_
   refine dc h fun r37 g38 h => ?_
   refine zw ?_
   refine OpsD.late (ns := [1]) rfl rfl rfl (Y1u (gs := [cI r37.1.id, cI r37.1.room, cI r37.1.author, cI r37.1.kind, cI r37.1.key, cI r37.1.n, C.str r37.1.text, cM kI64 1 r37.1.prev, cI r37.1.time]) Yat.h rfl rfl rfl rfl rfl) ?_
   rintro _ _ ⟨rfl, rfl⟩
   refine zw ?_
   exact ⟨(r37.1.id, r37.1.room, r37.1.author, r37.1.kind, r37.1.key, r37.1.n, r37.1.text, r37.1.prev, r37.1.time, b34), h, Y21.both (ns := [1, 0]) rfl rfl⟩
  rintro ⟨x40, x41, x42, x43, x44, x45, x46, l47, x48, b39⟩ h
  exact go
 exact go

def Zih (r10 : Y8z) (x22 : ByteArray) (x23 : Bool) : Option Y97 := some (Y97.mk (Y8z.mk r10.id r10.room r10.author r10.kind r10.key r10.n x22 r10.prev r10.time) x23)
def Zii (r10 : Y8z) (x20 : Bool) : Option Y97 := cond x20 (Zih r10 ByteArray.empty true) (Zih r10 r10.text false)
def Zij (p0 : Y9a) (p1 : Int) (p2 : Int) : Option Y97 := (Zhu p0 p1 p2).bind fun r2 => cond (r2 == 0) (some (Y97.mk (Y8z.mk 0 0 0 0 0 0 ByteArray.empty [] 0) false)) ((Zhw p0 p1).bind fun r5 => (Zc8 r5.graph p2).bind fun r7 => (Zhs r7.1).bind fun r10 => cond (r7.1.kind == 7) ((Zif p0 p1 p2).bind fun r15 => Zii r10 (r15 != 0)) (cond (r7.1.kind == 4) ((Zif p0 p1 p2).bind fun r18 => Zii r10 (r18 != 0)) (Zii r10 false)))
theorem Zik (p0 : Y9a) (p1 : Int) (p2 : Int) (r : Y97) (h : Zij p0 p1 p2 = some r) : Ok Tryz.prog 116 [C.ip [cM Y9g 3 p0.hub.rooms, cM Y9d 2 p0.hub.stream, cM Y9s 1 p0.rooms], cI p1, cI p2] [] (fun c qs => ∃ (v24 : Value), c = C.agg [cI r.event.id, cI r.event.room, cI r.event.author, cI r.event.kind, cI r.event.key, cI r.event.n, C.str r.event.text, cV v24, cI r.event.time, C.bool r.hidden] ∧ qs = [oA v24 2 kI64 1 r.event.prev]) := by
 refine Ok.of_body (rs := [.cell 6 160]) Tryz.func116 rfl rfl rfl rfl rfl fun X => ?_
 unfold Zij at h
 refine zw ?_
 refine Ops.h (ns := []) rfl rfl (Y1p (cs := [cI 0, cI 0, cI 0, cI 0, cI 0, cI 0, C.str ByteArray.empty, cV s0, cI 0, C.bool false]) Ycv (Y42 rfl rfl) rfl) ?_
 rintro _ _ ⟨b1, rfl, rfl⟩
 refine zw ?_
 refine oc h fun r2 g3 h => ?_
 refine zw ?_
 refine cnd h (fun hb4 h => ?_) fun hb4 h => ?_
 ·
  refine AW.ct hb4 rfl ?_
  refine zw ?_
  refine Ops.v rfl (Y38 (ds := [cI 0, cI 0, cI 0, cI 0, cI 0, cI 0, C.str ByteArray.empty, cV s0, cI 0, C.bool false]) Ycw Ycv (Y42 rfl rfl) .nil rfl) ?_
  refine Ops.hd (ns := [0]) rfl rfl (Y1u (gs := [cI 0, cI 0, cI 0, cI 0, cI 0, cI 0, C.str ByteArray.empty, cV s0, cI 0, C.bool false]) Ycx.h rfl rfl rfl rfl rfl) ?_
  refine zw ?_
  refine AW.ret ?_
  rw [← Wj h]
  exact ⟨[C.agg [cI 0, cI 0, cI 0, cI 0, cI 0, cI 0, C.str ByteArray.empty, cV s0, cI 0, C.bool false]], _, Y21.nil 2 kI64 1, (.cons (.cell (p := 1) rfl rfl Ycx.h rfl) .nil), [0], _, _, rfl, ⟨s0, rfl, rfl⟩⟩
 refine AW.cf hb4 rfl ?_
 refine zw ?_
 refine oc h fun r5 g6 h => ?_
 refine zw ?_
 refine oc h fun r7 g8 h => ?_
 refine zw ?_
 refine Ops.h (ns := []) rfl rfl (Y1p (cs := [cI 0, cI 0, cI 0, cI 0, cI 0, cI 0, C.str ByteArray.empty, cV s0, cI 0]) Yac (Y42 rfl rfl) rfl) ?_
 rintro _ _ ⟨b9, rfl, rfl⟩
 refine Ops.hd (ns := [0]) rfl rfl (Y1u (gs := [cI r7.1.id, cI r7.1.room, cI r7.1.author, cI r7.1.kind, cI r7.1.key, cI r7.1.n, C.str r7.1.text, cM kI64 1 r7.1.prev, cI r7.1.time]) Yat.h rfl rfl rfl rfl rfl) ?_
 refine zw ?_
 refine ob' h fun r10 g11 h => ?_
 refine Ops.h (ns := []) rfl rfl (Y23 (Zht _ _ g11) rfl rfl) ?_
 rintro _ _ ⟨_, ⟨v12, rfl, rfl⟩, rfl⟩
 refine Ops.v rfl (Y38 (ds := [cI r10.id, cI r10.room, cI r10.author, cI r10.kind, cI r10.key, cI r10.n, C.str r10.text, cV v12, cI r10.time, C.bool false]) Ycw Ycv (Y42 rfl rfl) (.agg rfl rfl rfl .nil) rfl) ?_
 refine Ops.h (ns := []) rfl rfl (Y1p (cs := [cI 0, cI 0, cI 0, cI 0, cI 0, cI 0, C.str ByteArray.empty, cV s0, cI 0, C.bool false]) Ycv (Y42 rfl rfl) rfl) ?_
 rintro _ _ ⟨b13, rfl, rfl⟩
 refine Ops.hd (ns := [0]) rfl rfl (Y1u (gs := [cI r10.id, cI r10.room, cI r10.author, cI r10.kind, cI r10.key, cI r10.n, C.str r10.text, cV v12, cI r10.time, C.bool false]) Ycx.h rfl rfl rfl rfl rfl) ?_
 refine Ops.nil ?_
 refine AW.seq ?_
 refine AW.cut (τ := ByteArray × Bool) (fun (x22, x23) => ⟨[(6, pt b1), (9, pt b13)], [oB b1 160 [cI 0, cI 0, cI 0, cI 0, cI 0, cI 0, C.str ByteArray.empty, cV s0, cI 0, C.bool false], oB b13 160 [cI r10.id, cI r10.room, cI r10.author, cI r10.kind, cI r10.key, cI r10.n, C.str x22, cV v12, cI r10.time, C.bool x23], oA v12 2 kI64 1 r10.prev]⟩) (fun (x22, x23) => Zih r10 x22 x23 = some r) ?_ ?_
 ·
  refine AW.seq ?_
  refine AW.cut (τ := Bool) (fun x20 => ⟨[(6, pt b1), (9, pt b13), (44, C.bool x20)], [oB b1 160 [cI 0, cI 0, cI 0, cI 0, cI 0, cI 0, C.str ByteArray.empty, cV s0, cI 0, C.bool false], oB b13 160 [cI r10.id, cI r10.room, cI r10.author, cI r10.kind, cI r10.key, cI r10.n, C.str r10.text, cV v12, cI r10.time, C.bool false], oA v12 2 kI64 1 r10.prev]⟩) (fun x20 => Zii r10 x20 = some r) ?_ ?_
  ·
   refine zw ?_
   refine cnd h (fun hb14 h => ?_) fun hb14 h => ?_
   ·
    refine zw ?_
    refine ob' h fun r15 g16 h => ?_
    refine Ops.ghd (ns := []) rfl rfl rfl rfl rfl rfl (Y24 ((Zig _ _ _).h _ g16) rfl rfl) ?_
    exact go
   refine zw ?_
   refine cnd h (fun hb17 h => ?_) fun hb17 h => ?_
   ·
    refine zw ?_
    refine ob' h fun r18 g19 h => ?_
    refine Ops.ghd (ns := []) rfl rfl rfl rfl hb17 rfl (Y24 ((Zig _ _ _).h _ g19) rfl rfl) ?_
    exact go
   exact go
  intro x20 h
  replace h : Zii r10 x20 = some r := h
  unfold Zii at h
  refine cnd h (fun hb21 h => ?_) fun hb21 h => ?_
  ·
   refine AW.ct hb21 rfl ?_
   refine zw ?_
   refine Ops.hd (ns := [1]) rfl rfl (Y1t (gs := [cI r10.id, cI r10.room, cI r10.author, cI r10.kind, cI r10.key, cI r10.n, C.str ByteArray.empty, cV v12, cI r10.time, C.bool false]) ld_9.h rfl rfl (One.val rfl) rfl rfl) ?_
   refine zw ?_
   refine Ops.hd (ns := [0]) rfl rfl (Y1t (gs := [cI r10.id, cI r10.room, cI r10.author, cI r10.kind, cI r10.key, cI r10.n, C.str ByteArray.empty, cV v12, cI r10.time, C.bool true]) ld_4.h rfl rfl (One.val rfl) rfl rfl) ?_
   exact go
  exact go
 rintro ⟨x22, x23⟩ h
 replace h : Zih r10 x22 x23 = some r := h
 unfold Zih at h
 refine zw ?_
 refine Ops.hd (ns := [0]) rfl rfl (Y1u (gs := [cI r10.id, cI r10.room, cI r10.author, cI r10.kind, cI r10.key, cI r10.n, C.str x22, cV v12, cI r10.time, C.bool x23]) Ycx.h rfl rfl rfl rfl rfl) ?_
 refine zw ?_
 refine AW.ret ?_
 rw [← Wj h]
 exact ⟨[C.agg [cI r10.id, cI r10.room, cI r10.author, cI r10.kind, cI r10.key, cI r10.n, C.str x22, cV v12, cI r10.time, C.bool x23]], _, Y21.refl _, (.cons (.cell (p := 0) rfl rfl Ycx.h rfl) .nil), [2], _, _, rfl, ⟨v12, rfl, rfl⟩⟩
instance Zik' (p0 : Y9a) (p1 : Int) (p2 : Int) : Sp Tryz.prog 116 [C.ip [cM Y9g 3 p0.hub.rooms, cM Y9d 2 p0.hub.stream, cM Y9s 1 p0.rooms], cI p1, cI p2] (Zij p0 p1 p2) (fun r => C.agg [cI r.event.id, cI r.event.room, cI r.event.author, cI r.event.kind, cI r.event.key, cI r.event.n, C.str r.event.text, cM kI64 1 r.event.prev, cI r.event.time, C.bool r.hidden]) := ⟨fun r h => Ok.freeze (Zik p0 p1 p2 r h) (by rintro c qs ⟨v24, rfl, rfl⟩; exact Frz.agg (fS (fS (fS (fS (fS (fS (fS (FrzL.cons (os := [_]) (Frz.arr) (fS (fS (FrzL.nil))))))))))))⟩

def Zil (l32 : List Y97) : Option (List Y97) := some l32
def Zim (p0 : Y9a) (p1 : List Int) (l16 : List Y97) (x17 : Int) : Option ((List Y97 × Int) ⊕ ((List Y97))) := cond (decide (x17 < (p1.length : Int))) ((getI p1 x17).bind fun e19 => (getI p0.hub.stream (IntKind.i64.wrap (e19 - 1))).bind fun e21 => (Zij p0 e21.room e21.id).bind fun r24 => (chk (decide ((l16.length + [r24].length) * 104 ≤ 140737488355328))).bind fun u29 => some (.inl ((l16 ++ [r24]), (IntKind.i64.wrap (x17 + 1))))) (some (.inr l16))
def Zin (p0 : Y9a) (p1 : List Int) : Option (List Y97) := (iter (fun z34 => Zim p0 p1 z34.1 z34.2) big (([] : List Y97), 0)).bind fun y35 => Zil y35
theorem Zio (p0 : Y9a) (p1 : List Int) (r : List Y97) (h : Zin p0 p1 = some r) : Ok Tryz.prog 123 [C.ip [cM Y9g 3 p0.hub.rooms, cM Y9d 2 p0.hub.stream, cM Y9s 1 p0.rooms], cM kI64 1 p1] [] (fun c qs => ∃ (v33 : Value), c = cV v33 ∧ qs = [Obj.deep v33 160 Y9t Y9u 10 r]) := by
 refine Ok.of_body (rs := [.tmp 4]) Tryz.func123 rfl rfl rfl rfl rfl fun X => ?_
 unfold Zin at h
 refine zw ?_
 refine Ops.h (ns := []) rfl rfl (Y8p (k := Y9t) (ob := Y9u) Yd3 rfl rfl rfl) ?_
 rintro _ _ ⟨b1, rfl, rfl⟩
 refine Ops.v rfl (Yr rfl rfl) ?_
 refine Ops.nil ?_
 refine AW.seq ?_
 refine AW.cut (τ := List Y97 × Value) (fun (l32, v31) => ⟨[(5, cV v31)], [Obj.deep v31 160 Y9t Y9u 10 l32]⟩) (fun (l32, v31) => Zil l32 = some r) ?_ ?_
 ·
  refine zw ?_
  refine AW.lp h (fun (l16, x17) (v15 : Value) => ⟨[(0, C.ip [cM Y9g 3 p0.hub.rooms, cM Y9d 2 p0.hub.stream, cM Y9s 1 p0.rooms]), (5, cV v15), (10, cM kI64 1 p1), (11, cI (p1.length : Int)), (12, cI x17)], [Obj.deep v15 160 Y9t Y9u 10 l16]⟩) (gb [0]) ?_
  rintro ⟨l16, x17⟩ v15 y41 h
  refine zw ?_
  refine cnd h (fun hb18 h => ?_) fun hb18 h => ?_
  ·
   refine AW.ct hb18 rfl ?_
   refine zw ?_
   refine oi h fun e19 g20 h => ?_
   refine zw ?_
   refine oi h fun e21 g22 h => ?_
   refine zw ?_
   refine Ops.h (ns := []) rfl rfl (Y1p (cs := [cI 0, cI 0]) Yb8 (Y42 rfl rfl) rfl) ?_
   rintro _ _ ⟨b23, rfl, rfl⟩
   refine Ops.hd (ns := [0]) rfl rfl (Y1u (gs := [cI e21.room, cI e21.id]) Ybd.h rfl rfl rfl rfl rfl) ?_
   refine zw ?_
   refine ob' h fun r24 g25 h => ?_
   refine Ops.h (ns := []) rfl rfl (Y23 (Zik _ _ _ _ g25) rfl rfl) ?_
   rintro _ _ ⟨_, ⟨v26, rfl, rfl⟩, rfl⟩
   refine Ops.h (ns := [0]) rfl rfl (Y8o (k := Y9t) (ob := Y9u) (e := r24) (u := v26) Yd3 (.agg rfl rfl .nil) rfl rfl rfl) ?_
   rintro _ _ ⟨b27, rfl, rfl⟩
   refine ob' h fun u29 c28 h => ?_
   refine Ops.h (ns := [2, 0]) rfl rfl (Y8q Yd3 rfl rfl (Wo (Y3t c28)) (Y3w (by decide) c28) rfl) ?_
   rintro _ _ ⟨v30, rfl, rfl⟩
   exact go
  exact go
 rintro ⟨l32, v31⟩ h
 replace h : Zil l32 = some r := h
 unfold Zil at h
 refine zw ?_
 refine AW.ret ?_
 rw [← Wj h]
 exact ⟨[cV v31], _, Y21.refl _, (.cons (.tmp rfl) .nil), [0], _, _, rfl, ⟨v31, rfl, rfl⟩⟩
instance Zio' (p0 : Y9a) (p1 : List Int) : Sp Tryz.prog 123 [C.ip [cM Y9g 3 p0.hub.rooms, cM Y9d 2 p0.hub.stream, cM Y9s 1 p0.rooms], cM kI64 1 p1] (Zin p0 p1) (fun r => cM Y9o 10 r) := ⟨fun r h => Ok.freeze (Zio p0 p1 r h) (by rintro c qs ⟨v33, rfl, rfl⟩; exact (Frz.deep Ye0))⟩

def Zip (p0 : Y9a) (r2 : List Int) (r5 : List Int) (x13 : Int) : Option Y98 := (Zhq r5).bind fun r14 => (Zin p0 r14).bind fun r16 => some (Y98.mk r16 x13 ((r2.length : Int) == (r5.length : Int)) 0)
def Ziq (p0 : Y9a) (p1 : Int) (p2 : Int) (p3 : Int) (p4 : Int) : Option Y98 := (Zi8 p0 p1 p2 1 p3).bind fun r2 => (Zhn r2 p4).bind fun r5 => cond (decide ((r5.length : Int) > 0)) ((getI r5 0).bind fun e11 => Zip p0 r2 r5 (IntKind.i64.wrap (e11 - 1))) (Zip p0 r2 r5 0)
theorem Zir (p0 : Y9a) (p1 : Int) (p2 : Int) (p3 : Int) (p4 : Int) (r : Y98) (h : Ziq p0 p1 p2 p3 p4 = some r) : Ok Tryz.prog 127 [C.ip [cM Y9g 3 p0.hub.rooms, cM Y9d 2 p0.hub.stream, cM Y9s 1 p0.rooms], cI p1, cI p2, cI p3, cI p4] [] (fun c qs => ∃ (v21 : Value), c = C.agg [cV v21, cI r.at_, C.bool r.end_, cI r.code] ∧ qs = [Obj.deep v21 160 Y9t Y9u 10 r.events]) := by
 refine Ok.of_body (rs := [.cell 10 86]) Tryz.func127 rfl rfl rfl rfl rfl fun X => ?_
 unfold Ziq at h
 refine zw ?_
 refine Ops.h (ns := []) rfl rfl (Y1p (cs := [cV s0, cI 0, C.bool false, cI 0]) Ycr (Y42 rfl rfl) rfl) ?_
 rintro _ _ ⟨b1, rfl, rfl⟩
 refine zw ?_
 refine ob' h fun r2 g3 h => ?_
 refine Ops.h (ns := []) rfl rfl (Y23 (Zi9 _ _ _ _ _ _ g3) rfl rfl) ?_
 rintro _ _ ⟨_, ⟨v4, rfl, rfl⟩, rfl⟩
 refine zw ?_
 refine ob' h fun r5 g6 h => ?_
 refine Ops.h (ns := [0]) rfl rfl (Y23 (Ok.lend (Zho r2 p4 _ g6) (FrzT.cons (os := [_]) Frz.arr (fT (FrzT.nil))) (by rintro _ _ ⟨_, rfl, rfl⟩; exact ⟨(Y44.val _), Y48 (Y46.arr Yav) (Y47)⟩)) rfl rfl) ?_
 rintro _ _ ⟨_, ⟨_, ⟨v7, rfl, rfl⟩, rfl⟩, rfl⟩
 refine zw ?_
 refine Ops.v rfl (Y38 (ds := [cV s0, cI 0, C.bool ((r2.length : Int) == (r5.length : Int)), cI 0]) Ycs Ycr (Y42 rfl rfl) (.one rfl (One.val rfl) rfl rfl .nil) rfl) ?_
 refine Ops.h (ns := []) rfl rfl (Y1p (cs := [cV s0, cI 0, C.bool false, cI 0]) Ycr (Y42 rfl rfl) rfl) ?_
 rintro _ _ ⟨b9, rfl, rfl⟩
 refine Ops.hd (ns := [0]) rfl rfl (Y1u (gs := [cV s0, cI 0, C.bool ((r2.length : Int) == (r5.length : Int)), cI 0]) Yct.h rfl rfl rfl rfl rfl) ?_
 refine Ops.nil ?_
 refine AW.seq ?_
 refine AW.cut (τ := Int) (fun x13 => ⟨[(0, C.ip [cM Y9g 3 p0.hub.rooms, cM Y9d 2 p0.hub.stream, cM Y9s 1 p0.rooms]), (10, pt b1), (12, cV v7), (13, pt b9)], [oB b1 86 [cV s0, cI 0, C.bool false, cI 0], oA v7 2 kI64 1 r5, oB b9 86 [cV s0, cI x13, C.bool ((r2.length : Int) == (r5.length : Int)), cI 0]]⟩) (fun x13 => Zip p0 r2 r5 x13 = some r) ?_ ?_
 ·
  refine zw ?_
  refine cnd h (fun hb10 h => ?_) fun hb10 h => ?_
  ·
   refine AW.ct hb10 rfl ?_
   refine zw ?_
   refine ob' h fun e11 g12 h => ?_
   refine Ops.v rfl (Y2x (p := 1) Y9v.h rfl rfl rfl g12 rfl) ?_
   refine Ops.v rfl (Y30 (p := 1) ld_2.h rfl rfl (Y29 g12).2.2 rfl rfl) ?_
   refine zw ?_
   refine Ops.hd (ns := [0]) rfl rfl (Y1t (gs := [cV s0, cI (IntKind.i64.wrap (e11 - 1)), C.bool ((r2.length : Int) == (r5.length : Int)), cI 0]) ld_2.h rfl rfl (One.val rfl) rfl rfl) ?_
   exact go
  exact go
 intro x13 h
 replace h : Zip p0 r2 r5 x13 = some r := h
 unfold Zip at h
 refine zw ?_
 refine ob' h fun r14 g15 h => ?_
 refine Ops.hd (ns := [1]) rfl rfl (Y24 (Zhr r5 _ g15) rfl rfl) ?_
 refine zw ?_
 refine ob' h fun r16 g17 h => ?_
 refine Ops.h (ns := [0]) rfl rfl (Y23 (Ok.lend (Zio p0 r14 _ g17) (fT (FrzT.cons (os := [_]) Frz.arr (FrzT.nil))) (by rintro _ _ ⟨_, rfl, rfl⟩; exact ⟨(Y44.val _), Y48 (Y46.deep Ye1 Ye2) (Y47)⟩)) rfl rfl) ?_
 rintro _ _ ⟨_, ⟨_, ⟨v18, rfl, rfl⟩, rfl⟩, rfl⟩
 refine Ops.v rfl (Y1b Ycz.h rfl rfl) ?_
 refine Ops.learn (Sim.deep_one (p := 0) rfl) fun n20 => ?_
 refine Ops.hd (ns := [3]) rfl rfl (Y1t (gs := [cV v18, cI x13, C.bool ((r2.length : Int) == (r5.length : Int)), cI 0]) Yd0.h rfl rfl (One.val n20) rfl rfl) ?_
 refine zw ?_
 refine Ops.hd (ns := [3]) rfl rfl (Y1u (gs := [cV v18, cI x13, C.bool ((r2.length : Int) == (r5.length : Int)), cI 0]) Yct.h rfl rfl rfl rfl rfl) ?_
 refine zw ?_
 refine AW.ret ?_
 rw [← Wj h]
 exact ⟨[C.agg [cV v18, cI x13, C.bool ((r2.length : Int) == (r5.length : Int)), cI 0]], _, Y21.refl _, (.cons (.cell (p := 0) rfl rfl Yct.h rfl) .nil), [2], _, _, rfl, ⟨v18, rfl, rfl⟩⟩
instance Zir' (p0 : Y9a) (p1 : Int) (p2 : Int) (p3 : Int) (p4 : Int) : Sp Tryz.prog 127 [C.ip [cM Y9g 3 p0.hub.rooms, cM Y9d 2 p0.hub.stream, cM Y9s 1 p0.rooms], cI p1, cI p2, cI p3, cI p4] (Ziq p0 p1 p2 p3 p4) (fun r => C.agg [cM Y9o 10 r.events, cI r.at_, C.bool r.end_, cI r.code]) := ⟨fun r h => Ok.freeze (Zir p0 p1 p2 p3 p4 r h) (by rintro c qs ⟨v21, rfl, rfl⟩; exact Frz.agg (FrzL.cons (os := [_]) ((Frz.deep Ye0)) (fS (fS (fS (FrzL.nil))))))⟩

def Zis (p0 : Y93) (p1 : Int) (p2 : Int) (p3 : Int) (p4 : Int) : Option Y98 := (Zg3 p0 p1 p2 p3 p4).bind fun r3 => cond r3.2 ((Ziq r3.1 p1 p2 p3 p4).bind fun r6 => some r6) (some (Y98.mk [] 0 false 1))
theorem Zit (p0 : Y93) (p1 : Int) (p2 : Int) (p3 : Int) (p4 : Int) (r : Y98) (h : Zis p0 p1 p2 p3 p4 = some r) : Ok Tryz.prog 65 [C.agg [cM Y9g 3 p0.rooms, cM Y9d 2 p0.stream], cI p1, cI p2, cI p3, cI p4] [] (fun c qs => ∃ (v9 : Value), c = C.agg [cV v9, cI r.at_, C.bool r.end_, cI r.code] ∧ qs = [Obj.deep v9 160 Y9t Y9u 10 r.events]) := by
 refine Ok.of_body (rs := [.cell 10 86]) Tryz.func65 rfl rfl rfl rfl rfl fun X => ?_
 unfold Zis at h
 refine zw ?_
 refine ox fun b1 => ?_
 refine Ops.h (ns := []) rfl rfl (Y1p (cs := [cV s0, cI 0, C.bool false, cI 0]) Ycr (Y42 rfl rfl) rfl) ?_
 rintro _ _ ⟨b2, rfl, rfl⟩
 refine zw ?_
 refine ob' h fun r3 g4 h => ?_
 refine Ops.h (ns := []) rfl rfl (Y23 (Zg4 _ _ _ _ _ _ g4) rfl rfl) ?_
 rintro _ _ ⟨_, ⟨hb5, rfl, rfl⟩ | ⟨hb5, rfl, rfl⟩, rfl⟩
 ·
  replace h := Y3r hb5 h
  refine zw ?_
  refine AW.cond rfl (fun hn => absurd ((Y3u hb5).symm.trans hn) (by decide)) (fun _ => ?_)
  refine zw ?_
  refine ob' h fun r6 g7 h => ?_
  refine Ops.h (ns := []) rfl rfl (Y23 (Zir _ _ _ _ _ _ g7) rfl rfl) ?_
  rintro _ _ ⟨_, ⟨v8, rfl, rfl⟩, rfl⟩
  refine Ops.hd (ns := [1]) rfl rfl (Y1u (gs := [cV v8, cI r6.at_, C.bool r6.end_, cI r6.code]) Yct.h rfl rfl rfl rfl rfl) ?_
  refine zw ?_
  refine AW.ret ?_
  rw [← Wj h]
  exact ⟨[C.agg [cV v8, cI r6.at_, C.bool r6.end_, cI r6.code]], _, Y21.refl _, (.cons (.cell (p := 0) rfl rfl Yct.h rfl) .nil), [1], _, _, rfl, ⟨v8, rfl, rfl⟩⟩
 replace h := Y3s hb5 h
 refine zw ?_
 refine AW.cond rfl (fun _ => ?_) (fun hn => absurd ((Y3v hb5).symm.trans hn) (by decide))
 refine zw ?_
 refine Ops.v rfl (Y38 (ds := [cV s0, cI 0, C.bool false, cI 1]) Ycs Ycr (Y42 rfl rfl) (.one rfl (One.val rfl) rfl rfl .nil) rfl) ?_
 refine Ops.hd (ns := [0]) rfl rfl (Y1u (gs := [cV s0, cI 0, C.bool false, cI 1]) Yct.h rfl rfl rfl rfl rfl) ?_
 refine zw ?_
 refine AW.ret ?_
 rw [← Wj h]
 exact ⟨[C.agg [cV s0, cI 0, C.bool false, cI 1]], _, Y21.nilD 160 Y9t Y9u 10, (.cons (.cell (p := 1) rfl rfl Yct.h rfl) .nil), [0], _, _, rfl, ⟨s0, rfl, rfl⟩⟩
instance Zit' (p0 : Y93) (p1 : Int) (p2 : Int) (p3 : Int) (p4 : Int) : Sp Tryz.prog 65 [C.agg [cM Y9g 3 p0.rooms, cM Y9d 2 p0.stream], cI p1, cI p2, cI p3, cI p4] (Zis p0 p1 p2 p3 p4) (fun r => C.agg [cM Y9o 10 r.events, cI r.at_, C.bool r.end_, cI r.code]) := ⟨fun r h => Ok.freeze (Zit p0 p1 p2 p3 p4 r h) (by rintro c qs ⟨v9, rfl, rfl⟩; exact Frz.agg (FrzL.cons (os := [_]) ((Frz.deep Ye0)) (fS (fS (fS (FrzL.nil))))))⟩

def Ziu : Option Bool := some true
def Ziv (p0 : List Int) (p1 : List Int) (x8 : Int) : Option (Int ⊕ (Bool ⊕ Unit)) := cond (decide (x8 < (p0.length : Int))) ((getI p0 x8).bind fun e10 => (getI p1 x8).bind fun e12 => cond (e10 != e12) (some (.inr (.inl false))) (some (.inl (IntKind.i64.wrap (x8 + 1))))) (some (.inr (.inr ())))
def Ziw (p0 : List Int) (p1 : List Int) : Option Bool := cond ((p0.length : Int) != (p1.length : Int)) (some false) ((iter (Ziv p0 p1) big 0).bind (fun z16 => match z16 with | .inl y15 => some y15 | .inr () => Ziu))
instance Zix (p0 : List Int) (p1 : List Int) : Sp Tryz.prog 35 [cM kI64 1 p0, cM kI64 1 p1] (Ziw p0 p1) C.bool := sp Tryz.func35 rfl rfl fun r X h => by
 unfold Ziw at h
 refine zw ?_
 refine cnd h (fun hb1 h => go) fun hb1 h => ?_
 refine AW.cf hb1 rfl ?_
 refine zw ?_
 refine AW.lp (v := ()) h (fun x8 (_ : Unit) => ⟨[(0, cM kI64 1 p0), (1, cM kI64 1 p1), (5, cI x8)], []⟩) (gb []) ?_
 rintro x8 _ y22 h
 refine zw ?_
 refine cnd h (fun hb9 h => ?_) fun hb9 h => ?_
 ·
  refine AW.ct hb9 rfl ?_
  refine zw ?_
  refine rD [] [3,7] [] [0,4,8,13,16,20,24,29,32] ?_
  exact go
 exact go

def Ziy (p0 : Y8z) (p1 : Y8z) : Option Bool := cond (p0.id != p1.id) (some false) (cond (p0.room != p1.room) (some false) (cond (p0.author != p1.author) (some false) (cond (p0.kind != p1.kind) (some false) (cond (p0.key != p1.key) (some false) (cond (p0.n != p1.n) (some false) (cond (p0.text.toList == p1.text.toList) ((Ziw p0.prev p1.prev).bind fun r10 => cond r10 (cond (p0.time != p1.time) (some false) (some true)) (some false)) (some false)))))))
instance Ziz (p0 : Y8z) (p1 : Y8z) : Sp Tryz.prog 173 [C.agg [cI p0.id, cI p0.room, cI p0.author, cI p0.kind, cI p0.key, cI p0.n, C.str p0.text, cM kI64 1 p0.prev, cI p0.time], C.agg [cI p1.id, cI p1.room, cI p1.author, cI p1.kind, cI p1.key, cI p1.n, C.str p1.text, cM kI64 1 p1.prev, cI p1.time]] (Ziy p0 p1) C.bool := sp Tryz.func173 rfl rfl fun r X h => go

def Zj0 (p0 : Y97) (p1 : Y97) : Option Bool := (Ziy p0.event p1.event).bind fun r3 => cond r3 (cond (p0.hidden == p1.hidden) (some true) (some false)) (some false)
instance Zj1 (p0 : Y97) (p1 : Y97) : Sp Tryz.prog 124 [C.agg [cI p0.event.id, cI p0.event.room, cI p0.event.author, cI p0.event.kind, cI p0.event.key, cI p0.event.n, C.str p0.event.text, cM kI64 1 p0.event.prev, cI p0.event.time, C.bool p0.hidden], C.agg [cI p1.event.id, cI p1.event.room, cI p1.event.author, cI p1.event.kind, cI p1.event.key, cI p1.event.n, C.str p1.event.text, cM kI64 1 p1.event.prev, cI p1.event.time, C.bool p1.hidden]] (Zj0 p0 p1) C.bool := sp Tryz.func124 rfl rfl fun r X h => by
 unfold Zj0 at h
 refine zw ?_
 refine ox fun b1 => ?_
 refine ox fun b2 => ?_
 refine zw ?_
 refine oc h fun r3 g4 h => ?_
 refine zw ?_
 refine cnd h (fun hb5 h => ?_) fun hb5 h => ?_
 ·
  refine AW.cond rfl (fun hn => absurd ((Y3u hb5).symm.trans hn) (by decide)) (fun _ => ?_)
  refine zw ?_
  refine Ops.v rfl (Y11 un_4 rfl rfl rfl) ?_
  exact go
 exact go

def Zj2 : Option Bool := some true
def Zj3 (p0 : List Y97) (p1 : List Y97) (x10 : Int) : Option (Int ⊕ (Bool ⊕ Unit)) := cond (decide (x10 < (p0.length : Int))) ((getI p0 x10).bind fun e12 => (getI p1 x10).bind fun e14 => (Zj0 e12 e14).bind fun r16 => cond r16 (some (.inl (IntKind.i64.wrap (x10 + 1)))) (some (.inr (.inl false)))) (some (.inr (.inr ())))
def Zj4 (p0 : List Y97) (p1 : List Y97) : Option Bool := cond ((p0.length : Int) != (p1.length : Int)) (some false) ((iter (Zj3 p0 p1) big 0).bind (fun z20 => match z20 with | .inl y19 => some y19 | .inr () => Zj2))
instance Zj5 (p0 : List Y97) (p1 : List Y97) : Sp Tryz.prog 56 [cM Y9o 10 p0, cM Y9o 10 p1] (Zj4 p0 p1) C.bool := sp Tryz.func56 rfl rfl fun r X h => by
 unfold Zj4 at h
 refine zw ?_
 refine cnd h (fun hb1 h => go) fun hb1 h => ?_
 refine AW.cf hb1 rfl ?_
 refine zw ?_
 refine AW.lp (v := ()) h (fun x10 (_ : Unit) => ⟨[(0, cM Y9o 10 p0), (1, cM Y9o 10 p1), (5, cI x10)], []⟩) (gb []) ?_
 rintro x10 _ y26 h
 refine zw ?_
 refine cnd h (fun hb11 h => ?_) fun hb11 h => ?_
 ·
  refine AW.ct hb11 rfl ?_
  refine zw ?_
  refine rD [] [3,7] [] [0,4,8,13,16,20,24,29,34,36] ?_
  exact go
 exact go

def Zj6 (p0 : Y98) (p1 : Y98) : Option Bool := (Zj4 p0.events p1.events).bind fun r3 => cond r3 (cond (p0.at_ != p1.at_) (some false) (cond (p0.end_ == p1.end_) (cond (p0.code != p1.code) (some false) (some true)) (some false))) (some false)
instance Zj7 (p0 : Y98) (p1 : Y98) : Sp Tryz.prog 61 [C.agg [cM Y9o 10 p0.events, cI p0.at_, C.bool p0.end_, cI p0.code], C.agg [cM Y9o 10 p1.events, cI p1.at_, C.bool p1.end_, cI p1.code]] (Zj6 p0 p1) C.bool := sp Tryz.func61 rfl rfl fun r X h => by
 unfold Zj6 at h
 refine zw ?_
 refine ox fun b1 => ?_
 refine ox fun b2 => ?_
 refine zw ?_
 refine oc h fun r3 g4 h => ?_
 refine zw ?_
 refine cnd h (fun hb5 h => ?_) fun hb5 h => ?_
 ·
  refine AW.cond rfl (fun hn => absurd ((Y3u hb5).symm.trans hn) (by decide)) (fun _ => ?_)
  refine zw ?_
  refine cnd h (fun hb6 h => go) fun hb6 h => ?_
  refine AW.cf hb6 rfl ?_
  refine zw ?_
  refine Ops.v rfl (Y11 un_4 rfl rfl rfl) ?_
  exact go
 exact go

def Zj8 : Option Bool := some true
def Zj9 (p0 : List Y8z) (p1 : List Y8z) (x10 : Int) : Option (Int ⊕ (Bool ⊕ Unit)) := cond (decide (x10 < (p0.length : Int))) ((getI p0 x10).bind fun e12 => (getI p1 x10).bind fun e14 => (Ziy e12 e14).bind fun r16 => cond r16 (some (.inl (IntKind.i64.wrap (x10 + 1)))) (some (.inr (.inl false)))) (some (.inr (.inr ())))
def Zja (p0 : List Y8z) (p1 : List Y8z) : Option Bool := cond ((p0.length : Int) != (p1.length : Int)) (some false) ((iter (Zj9 p0 p1) big 0).bind (fun z20 => match z20 with | .inl y19 => some y19 | .inr () => Zj8))
instance Zjb (p0 : List Y8z) (p1 : List Y8z) : Sp Tryz.prog 209 [cM Y9b 9 p0, cM Y9b 9 p1] (Zja p0 p1) C.bool := sp Tryz.func209 rfl rfl fun r X h => by
 unfold Zja at h
 refine zw ?_
 refine cnd h (fun hb1 h => go) fun hb1 h => ?_
 refine AW.cf hb1 rfl ?_
 refine zw ?_
 refine AW.lp (v := ()) h (fun x10 (_ : Unit) => ⟨[(0, cM Y9b 9 p0), (1, cM Y9b 9 p1), (5, cI x10)], []⟩) (gb []) ?_
 rintro x10 _ y26 h
 refine zw ?_
 refine cnd h (fun hb11 h => ?_) fun hb11 h => ?_
 ·
  refine AW.ct hb11 rfl ?_
  refine zw ?_
  refine rD [] [3,7] [] [0,4,8,13,16,20,24,29,34,36] ?_
  exact go
 exact go

def Zjc (p0 : Y92) (p1 : Y92) : Option Bool := cond (p0.room != p1.room) (some false) ((Zja p0.events p1.events).bind fun r4 => cond r4 ((Zja p0.parked p1.parked).bind fun r7 => cond r7 (some true) (some false)) (some false))
instance Zjd (p0 : Y92) (p1 : Y92) : Sp Tryz.prog 145 [C.agg [cI p0.room, cM Y9b 9 p0.events, cM Y9b 9 p0.parked], C.agg [cI p1.room, cM Y9b 9 p1.events, cM Y9b 9 p1.parked]] (Zjc p0 p1) C.bool := sp Tryz.func145 rfl rfl fun r X h => go

def Zje : Option Bool := some true
def Zjf (p0 : List Y92) (p1 : List Y92) (x10 : Int) : Option (Int ⊕ (Bool ⊕ Unit)) := cond (decide (x10 < (p0.length : Int))) ((getI p0 x10).bind fun e12 => (getI p1 x10).bind fun e14 => (Zjc e12 e14).bind fun r16 => cond r16 (some (.inl (IntKind.i64.wrap (x10 + 1)))) (some (.inr (.inl false)))) (some (.inr (.inr ())))
def Zjg (p0 : List Y92) (p1 : List Y92) : Option Bool := cond ((p0.length : Int) != (p1.length : Int)) (some false) ((iter (Zjf p0 p1) big 0).bind (fun z20 => match z20 with | .inl y19 => some y19 | .inr () => Zje))
instance Zjh (p0 : List Y92) (p1 : List Y92) : Sp Tryz.prog 77 [cM Y9g 3 p0, cM Y9g 3 p1] (Zjg p0 p1) C.bool := sp Tryz.func77 rfl rfl fun r X h => by
 unfold Zjg at h
 refine zw ?_
 refine cnd h (fun hb1 h => go) fun hb1 h => ?_
 refine AW.cf hb1 rfl ?_
 refine zw ?_
 refine AW.lp (v := ()) h (fun x10 (_ : Unit) => ⟨[(0, cM Y9g 3 p0), (1, cM Y9g 3 p1), (5, cI x10)], []⟩) (gb []) ?_
 rintro x10 _ y26 h
 refine zw ?_
 refine cnd h (fun hb11 h => ?_) fun hb11 h => ?_
 ·
  refine AW.ct hb11 rfl ?_
  refine zw ?_
  refine rD [] [3,7] [] [0,4,8,13,16,20,24,29,34,36] ?_
  exact go
 exact go

def Zji (p0 : Y91) (p1 : Y91) : Option Bool := cond (p0.room != p1.room) (some false) (cond (p0.id != p1.id) (some false) (some true))
instance Zjj (p0 : Y91) (p1 : Y91) : Sp Tryz.prog 118 [C.agg [cI p0.room, cI p0.id], C.agg [cI p1.room, cI p1.id]] (Zji p0 p1) C.bool := sp Tryz.func118 rfl rfl fun r X h => go

end Go.Proofs.YtbgichfjcnibpaaGreat
