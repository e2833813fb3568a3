/- Printed by gen.py: plain functions for Go functions, and that the walks keep to them. -/
import Derived.Test.YtbgichfjcnibpaaGreatUQ6
set_option autoImplicit false
set_option linter.unusedVariables false
set_option linter.unusedSimpArgs false
set_option maxHeartbeats 1000000
set_option maxRecDepth 100000
namespace Go.Proofs.YtbgichfjcnibpaaGreat
open Go Go.Abs
attribute [local irreducible] AW Ops OpsD Y3o
def Zgz (l20 : List (List Y95)) : Option (List (List Y95)) := some l20
def Zh0 (p0 : Y9a) (p1 : List Int) (l10 : List (List Y95)) (x11 : Int) : Option ((List (List Y95) × Int) ⊕ ((List (List Y95)))) := cond (decide (x11 < (p1.length : Int))) ((getI p1 x11).bind fun e13 => (chk (decide ((l10.length + [(Option.getD (mget p0.after e13) ([] : List Y95))].length) * 24 ≤ 140737488355328))).bind fun u17 => some (.inl ((l10 ++ [(Option.getD (mget p0.after e13) ([] : List Y95))]), (IntKind.i64.wrap (x11 + 1))))) (some (.inr l10))
def Zh1 (p0 : Y9a) (p1 : List Int) : Option (List (List Y95)) := (iter (fun z22 => Zh0 p0 p1 z22.1 z22.2) big (([] : List (List Y95)), 0)).bind fun y23 => Zgz y23
theorem Zh2 (p0 : Y9a) (p1 : List Int) (r : List (List Y95)) (h : Zh1 p0 p1 = some r) : Ok Tryz.prog 143 [C.ip [cI p0.graph.room, cM Y9c 9 p0.graph.events, cM Y9c 9 p0.graph.parked, C.imap .i64 Y9q p0.depth, C.imap .i64 Y9r p0.before, C.imap .i64 Y9r p0.after, C.imap .i64 Y9q p0.refused], cM kI64 1 p1] [] (fun c qs => ∃ (v21 : Value), c = cV v21 ∧ qs = [oA v21 27 Y9l 1 r]) := by
 refine Ok.of_body (rs := [.tmp 4]) Tryz.func143 rfl rfl rfl rfl rfl fun X => ?_
 unfold Zh1 at h
 refine zw ?_
 refine Ops.h (ns := []) rfl rfl (Y3a (k := Y9l) (ys := ([] : List (List Y95))) Yc5 .nil rfl rfl rfl) ?_
 rintro _ _ ⟨b1, rfl, rfl⟩
 refine Ops.v rfl (Yr rfl rfl) ?_
 refine Ops.nil ?_
 refine AW.seq ?_
 refine AW.cut (τ := List (List Y95) × Value) (fun (l20, v19) => ⟨[(5, cV v19)], [oA v19 27 Y9l 1 l20]⟩) (fun (l20, v19) => Zgz l20 = some r) ?_ ?_
 ·
  refine zw ?_
  refine AW.lp h (fun (l10, x11) (v9 : Value) => ⟨[(0, C.ip [cI p0.graph.room, cM Y9c 9 p0.graph.events, cM Y9c 9 p0.graph.parked, C.imap .i64 Y9q p0.depth, C.imap .i64 Y9r p0.before, C.imap .i64 Y9r p0.after, C.imap .i64 Y9q p0.refused]), (5, cV v9), (9, cM kI64 1 p1), (10, cI (p1.length : Int)), (11, cI x11)], [oA v9 27 Y9l 1 l10]⟩) (gb [0]) ?_
  rintro ⟨l10, x11⟩ v9 y29 h
  refine zw ?_
  refine cnd h (fun hb12 h => ?_) fun hb12 h => ?_
  ·
   refine AW.ct hb12 rfl ?_
   refine zw ?_
   refine oi h fun e13 g14 h => ?_
   refine zw ?_
   refine Ops.v rfl (Y8b (kc := Y9r) (z0 := ([] : List Y95)) Yda Ydb (fun w F => Imp.nil Y9k 3 w F _ rfl) rfl rfl rfl) ?_
   refine Ops.h (ns := []) rfl rfl (Y3a (k := Y9l) (ys := [(Option.getD (mget p0.after e13) ([] : List Y95))]) Yc5 (.one rfl One.im rfl rfl .nil) rfl rfl rfl) ?_
   rintro _ _ ⟨b15, rfl, rfl⟩
   refine ob' h fun u17 c16 h => ?_
   refine Ops.h (ns := [1, 0]) rfl rfl (Y2t Yc5 rfl rfl (Wo (Y3u c16)) (Y3x (by decide) c16) rfl) ?_
   rintro _ _ ⟨v18, rfl, rfl⟩
   exact go
  exact go
 rintro ⟨l20, v19⟩ h
 replace h : Zgz l20 = some r := h
 unfold Zgz at h
 refine zw ?_
 refine AW.ret ?_
 rw [← Wj h]
 exact ⟨[cV v19], _, Y21.refl _, (.cons (.tmp rfl) .nil), [0], _, _, rfl, ⟨v19, rfl, rfl⟩⟩
instance Zh2' (p0 : Y9a) (p1 : List Int) : Sp Tryz.prog 143 [C.ip [cI p0.graph.room, cM Y9c 9 p0.graph.events, cM Y9c 9 p0.graph.parked, C.imap .i64 Y9q p0.depth, C.imap .i64 Y9r p0.before, C.imap .i64 Y9r p0.after, C.imap .i64 Y9q p0.refused], cM kI64 1 p1] (Zh1 p0 p1) (fun r => cM Y9l 1 r) := ⟨fun r h => Ok.freeze (Zh2 p0 p1 r h) (by rintro c qs ⟨v21, rfl, rfl⟩; exact Frz.arr)⟩

def Zh3 (l205 : List Y95) : Option (List Y95) := some l205
def Zh4 (x194 : Int) (l204 : List Y95) : Option ((List Y95 × Int) ⊕ ((List Y95))) := some (.inl (l204, (IntKind.i64.wrap (x194 + 1))))
def Zh5 (p0 : Y9a) (r176 : List Y90) (l193 : List Y95) (x194 : Int) : Option ((List Y95 × Int) ⊕ ((List Y95))) := cond (decide (x194 < (r176.length : Int))) ((getI r176 x194).bind fun e196 => (Zdo p0.graph l193 e196).bind fun r199 => cond (r199 == 0) ((Zdx l193 (Y95.mk e196.kind e196.key e196.id)).bind fun r202 => Zh4 x194 r202) (Zh4 x194 l193)) (some (.inr l193))
def Zh6 (p0 : Y9a) (l37 : List Y95) (l175 : List Y90) : Option (List Y95) := (Y7x (fun z1 z2 => Ze7 z1 z2 p0) l175).bind fun r176 => (iter (fun z206 => Zh5 p0 r176 z206.1 z206.2) big (l37, 0)).bind fun y207 => Zh3 y207
def Zh7 (x113 : Int) (l172 : List Y90) (m173 : List (Int × Bool)) : Option ((List Y90 × (List (Int × Bool)) × Int) ⊕ ((List Y90))) := some (.inl (l172, m173, (IntKind.i64.wrap (x113 + 1))))
def Zh8 (x145 : Int) (l169 : List Y90) (m170 : List (Int × Bool)) : Option ((List Y90 × (List (Int × Bool)) × Int) ⊕ ((List Y90 × (List (Int × Bool))))) := some (.inl (l169, m170, (IntKind.i64.wrap (x145 + 1))))
def Zh9 (l143 : List Y90) (m144 : List (Int × Bool)) (x145 : Int) (e147 : Y95) (x155 : Int) (x156 : Int) (x157 : Int) (x158 : Int) (x159 : Int) (x160 : Int) (x161 : ByteArray) (l162 : List Int) (x163 : Int) : Option ((List Y90 × (List (Int × Bool)) × Int) ⊕ ((List Y90 × (List (Int × Bool))))) := (chk (decide ((l143.length + [(Y90.mk x155 x156 x157 x158 x159 x160 x161 l162 x163)].length) * 96 ≤ 140737488355328))).bind fun u166 => Zh8 x145 (l143 ++ [(Y90.mk x155 x156 x157 x158 x159 x160 x161 l162 x163)]) (mset m144 e147.id true)
def Zha (p0 : Y9a) (e115 : List Y95) (l143 : List Y90) (m144 : List (Int × Bool)) (x145 : Int) : Option ((List Y90 × (List (Int × Bool)) × Int) ⊕ ((List Y90 × (List (Int × Bool))))) := cond (decide (x145 < (e115.length : Int))) ((getI e115 x145).bind fun e147 => cond (Option.getD (mget m144 e147.id) false) (Zh8 x145 l143 m144) ((Zc6 p0.graph e147.id).bind fun r151 => Zh9 l143 m144 x145 e147 r151.1.id r151.1.room r151.1.author r151.1.kind r151.1.key r151.1.n r151.1.text r151.1.prev r151.1.time)) (some (.inr (l143, m144)))
def Zhb (p0 : Y9a) (p1 : List (List Y95)) (l111 : List Y90) (m112 : List (Int × Bool)) (x113 : Int) : Option ((List Y90 × (List (Int × Bool)) × Int) ⊕ ((List Y90))) := cond (decide (x113 < (p1.length : Int))) ((getI p1 x113).bind fun e115 => (iter (fun z208 => Zha p0 e115 z208.1 z208.2.1 z208.2.2) big (l111, m112, 0)).bind fun (y209, y210) => Zh7 x113 y209 y210) (some (.inr l111))
def Zhc (p0 : Y9a) (p1 : List (List Y95)) (l37 : List Y95) (m49 : List (Int × Bool)) : Option (List Y95) := (iter (fun z211 => Zhb p0 p1 z211.1 z211.2.1 z211.2.2) big (([] : List Y90), m49, 0)).bind fun y212 => Zh6 p0 l37 y212
def Zhd (l37 : List Y95) (m43 : List (Int × Bool)) (x44 : Int) : Option (((List (Int × Bool)) × Int) ⊕ ((List (Int × Bool)))) := cond (decide (x44 < (l37.length : Int))) ((getI l37 x44).bind fun e46 => some (.inl ((mset m43 e46.id true), (IntKind.i64.wrap (x44 + 1))))) (some (.inr m43))
def Zhe (p0 : Y9a) (p1 : List (List Y95)) (l37 : List Y95) : Option (List Y95) := (iter (fun z213 => Zhd l37 z213.1 z213.2) big (([] : List (Int × Bool)), 0)).bind fun y214 => Zhc p0 p1 l37 y214
def Zhf (x22 : Int) (l35 : List Y95) : Option ((List Y95 × Int) ⊕ ((List Y95))) := some (.inl (l35, (IntKind.i64.wrap (x22 + 1))))
def Zhg (p1 : List (List Y95)) (e5 : List Y95) (l21 : List Y95) (x22 : Int) : Option ((List Y95 × Int) ⊕ ((List Y95))) := cond (decide (x22 < (e5.length : Int))) ((getI e5 x22).bind fun e24 => (Ze5 p1 e24).bind fun r27 => cond r27 (Zhf x22 l21) ((chk (decide ((l21.length + [e24].length) * 24 ≤ 140737488355328))).bind fun u32 => Zhf x22 (l21 ++ [e24]))) (some (.inr l21))
def Zhh (p0 : Y9a) (p1 : List (List Y95)) : Option (List Y95) := cond (decide ((p1.length : Int) > 0)) ((getI p1 0).bind fun e5 => (iter (fun z215 => Zhg p1 e5 z215.1 z215.2) big (([] : List Y95), 0)).bind fun y216 => Zhe p0 p1 y216) (Zhe p0 p1 ([] : List Y95))
instance Zhi (p0 : Y9a) (p1 : List (List Y95)) : Sp Tryz.prog 142 [C.ip [cI p0.graph.room, cM Y9c 9 p0.graph.events, cM Y9c 9 p0.graph.parked, C.imap .i64 Y9q p0.depth, C.imap .i64 Y9r p0.before, C.imap .i64 Y9r p0.after, C.imap .i64 Y9q p0.refused], cM Y9l 1 p1] (Zhh p0 p1) (fun r => cM Y9k 3 r) := sp Tryz.func142 rfl rfl fun r X h => by
 unfold Zhh at h
 refine zw ?_
 refine Ops.h (ns := []) rfl rfl (Y1q rfl One.ip rfl) ?_
 rintro _ _ ⟨b1, rfl, rfl⟩
 refine zw ?_
 refine Ops.h (ns := []) rfl rfl (Y3a (k := Y9k) (ys := ([] : List Y95)) Ybu .nil rfl rfl rfl) ?_
 rintro _ _ ⟨b2, rfl, rfl⟩
 refine Ops.h (ns := []) rfl rfl (Y3a (k := Y9c) (ys := ([] : List Y90)) Yav .nil rfl rfl rfl) ?_
 rintro _ _ ⟨b3, rfl, rfl⟩
 refine Ops.v rfl (Yr rfl rfl) ?_
 refine Ops.v rfl (Yr rfl rfl) ?_
 refine Ops.nil ?_
 refine AW.seq ?_
 refine AW.cut (τ := List Y95 × Value) (fun (l37, v36) => ⟨[(1, cM Y9l 1 p1), (2, pt b1), (5, cV v36), (6, cV (sv b3 0 0))], [oB b1 186 [C.ip [cI p0.graph.room, cM Y9c 9 p0.graph.events, cM Y9c 9 p0.graph.parked, C.imap .i64 Y9q p0.depth, C.imap .i64 Y9r p0.before, C.imap .i64 Y9r p0.after, C.imap .i64 Y9q p0.refused]], oA v36 106 Y9k 3 l37, oA (sv b3 0 0) 136 Y9c 9 ([] : List Y90)]⟩) (fun (l37, v36) => Zhe p0 p1 l37 = some r) ?_ ?_
 ·
  refine zw ?_
  refine cnd h (fun hb4 h => ?_) fun hb4 h => ?_
  ·
   refine AW.ct hb4 rfl ?_
   refine zw ?_
   refine oi h fun e5 g6 h => ?_
   refine zw ?_
   refine AW.lp h (fun (l21, x22) (v20 : Value) => ⟨[(1, cM Y9l 1 p1), (2, pt b1), (5, cV v20), (6, cV (sv b3 0 0)), (27, cM Y9k 3 e5), (28, cI (e5.length : Int)), (29, cI x22)], [oB b1 186 [C.ip [cI p0.graph.room, cM Y9c 9 p0.graph.events, cM Y9c 9 p0.graph.parked, C.imap .i64 Y9q p0.depth, C.imap .i64 Y9r p0.before, C.imap .i64 Y9r p0.after, C.imap .i64 Y9q p0.refused]], oA v20 106 Y9k 3 l21, oA (sv b3 0 0) 136 Y9c 9 ([] : List Y90)]⟩) (gb [2, 1, 0]) ?_
   rintro ⟨l21, x22⟩ v20 y250 h
   refine zw ?_
   refine cnd h (fun hb23 h => ?_) fun hb23 h => ?_
   ·
    refine AW.ct hb23 rfl ?_
    refine zw ?_
    refine oi h fun e24 g25 h => ?_
    refine zw ?_
    refine Ops.h (ns := []) rfl rfl (Y1p (cs := [cI 0, cI 0, cI 0]) Yc1 (Y43 rfl rfl) rfl) ?_
    rintro _ _ ⟨b26, rfl, rfl⟩
    refine Ops.hd (ns := [0]) rfl rfl (Y1u (gs := [cI e24.kind, cI e24.key, cI e24.id]) Ybv.h rfl rfl rfl rfl rfl) ?_
    refine zw ?_
    refine Ops.v rfl (Y6r rfl rfl) ?_
    refine ob' h fun r27 g28 h => ?_
    refine Ops.hd (ns := [0]) rfl rfl (Y24 (Ze6 p1 e24 _ g28) rfl rfl) ?_
    refine zw ?_
    refine cnd h (fun hb29 h => go) fun hb29 h => ?_
    refine AW.cond rfl (fun _ => ?_) (fun hn => absurd ((Y3w hb29).symm.trans hn) (by decide))
    refine zw ?_
    refine Ops.h (ns := []) rfl rfl (Y3a (k := Y9k) (ys := [e24]) Ybu (.agg rfl rfl .nil) rfl rfl rfl) ?_
    rintro _ _ ⟨b30, rfl, rfl⟩
    refine ob' h fun u32 c31 h => ?_
    refine Ops.h (ns := [3, 0]) rfl rfl (Y2t Ybu rfl rfl (Wo (Y3u c31)) (Y3x (by decide) c31) rfl) ?_
    rintro _ _ ⟨v33, rfl, rfl⟩
    exact go
   exact go
  refine AW.cf hb4 rfl ?_
  refine zw ?_
  exact ⟨(([] : List Y95), (sv b2 0 0)), h, Y21.both (ns := [2, 1, 0]) rfl rfl⟩
 rintro ⟨l37, v36⟩ h
 replace h : Zhe p0 p1 l37 = some r := h
 unfold Zhe at h
 refine zw ?_
 refine Ops.h (ns := []) rfl rfl (Y6k (kd := .i64) (kc := Y9s) rfl) ?_
 rintro _ _ ⟨b38, rfl, rfl⟩
 refine Ops.v rfl (Yr rfl rfl) ?_
 refine Ops.nil ?_
 refine AW.seq ?_
 refine AW.cut (τ := (List (Int × Bool))) (fun m49 => ⟨[(1, cM Y9l 1 p1), (2, pt b1), (5, cV v36), (6, cV (sv b3 0 0)), (9, mt b38)], [oB b1 186 [C.ip [cI p0.graph.room, cM Y9c 9 p0.graph.events, cM Y9c 9 p0.graph.parked, C.imap .i64 Y9q p0.depth, C.imap .i64 Y9r p0.before, C.imap .i64 Y9r p0.after, C.imap .i64 Y9q p0.refused]], oA v36 106 Y9k 3 l37, oA (sv b3 0 0) 136 Y9c 9 ([] : List Y90), Abs.Obj.map b38 .i64 Y9s m49]⟩) (fun m49 => Zhc p0 p1 l37 m49 = some r) ?_ ?_
 ·
  refine AW.seq ?_
  refine AW.region ?_
  refine Ops.v rfl (Yq rfl rfl) ?_
  refine Ops.v rfl (Y2v (p := 2) Ybo.h rfl rfl rfl) ?_
  refine zw ?_
  refine AW.lp (v := ()) h (fun (m43, x44) (_ : Unit) => ⟨[(1, cM Y9l 1 p1), (2, pt b1), (5, cV v36), (6, cV (sv b3 0 0)), (9, mt b38), (43, cV v36), (44, cI (l37.length : Int)), (45, cI x44)], [oB b1 186 [C.ip [cI p0.graph.room, cM Y9c 9 p0.graph.events, cM Y9c 9 p0.graph.parked, C.imap .i64 Y9q p0.depth, C.imap .i64 Y9r p0.before, C.imap .i64 Y9r p0.after, C.imap .i64 Y9q p0.refused]], oA v36 106 Y9k 3 l37, oA (sv b3 0 0) 136 Y9c 9 ([] : List Y90), Abs.Obj.map b38 .i64 Y9s m43]⟩) (gb [1, 1, 1, 0]) ?_
  rintro ⟨m43, x44⟩ _ y243 h
  refine zw ?_
  refine cnd h (fun hb45 h => ?_) fun hb45 h => ?_
  ·
   refine AW.ct hb45 rfl ?_
   refine zw ?_
   refine ob' h fun e46 g47 h => ?_
   refine Ops.v rfl (Y2y (p := 1) Ybo.h rfl rfl rfl g47 rfl) ?_
   refine Ops.v rfl (Y32 (p := 1) Ybv.h rfl rfl (Y29 g47).2.2 rfl rfl rfl) ?_
   refine Ops.h (ns := []) rfl rfl (Y1p (cs := [cI 0, cI 0, cI 0]) Yc1 (Y43 rfl rfl) rfl) ?_
   rintro _ _ ⟨b48, rfl, rfl⟩
   refine Ops.hd (ns := [0]) rfl rfl (Y1u (gs := [cI e46.kind, cI e46.key, cI e46.id]) Ybv.h rfl rfl rfl rfl rfl) ?_
   refine zw ?_
   refine Ops.hd (ns := [4]) rfl rfl (Y6n (kc := Y9s) (v := true) Ydd rfl rfl rfl rfl) ?_
   refine zw ?_
   exact lu h (gb [2, 2, 2, 0])
  refine AW.cf hb45 rfl ?_
  refine AW.exit ?_
  refine lx h fun h => ?_
  exact ⟨m43, h, Y21.both (ns := [0, 0, 0, 0]) rfl rfl⟩
 intro m49 h
 replace h : Zhc p0 p1 l37 m49 = some r := h
 unfold Zhc at h
 refine AW.seq ?_
 refine AW.cut (τ := List Y90 × Value) (fun (l175, v174) => ⟨[(2, pt b1), (5, cV v36), (6, cV v174)], [oB b1 186 [C.ip [cI p0.graph.room, cM Y9c 9 p0.graph.events, cM Y9c 9 p0.graph.parked, C.imap .i64 Y9q p0.depth, C.imap .i64 Y9r p0.before, C.imap .i64 Y9r p0.after, C.imap .i64 Y9q p0.refused]], oA v36 106 Y9k 3 l37, oA v174 136 Y9c 9 l175]⟩) (fun (l175, v174) => Zh6 p0 l37 l175 = some r) ?_ ?_
 ·
  refine zw ?_
  refine AW.lp h (fun (l111, m112, x113) (v110 : Value) => ⟨[(2, pt b1), (5, cV v36), (6, cV v110), (9, mt b38), (53, cM Y9l 1 p1), (54, cI (p1.length : Int)), (55, cI x113)], [oB b1 186 [C.ip [cI p0.graph.room, cM Y9c 9 p0.graph.events, cM Y9c 9 p0.graph.parked, C.imap .i64 Y9q p0.depth, C.imap .i64 Y9r p0.before, C.imap .i64 Y9r p0.after, C.imap .i64 Y9q p0.refused]], oA v36 106 Y9k 3 l37, oA v110 136 Y9c 9 l111, Abs.Obj.map b38 .i64 Y9s m112]⟩) (gb [0, 0, 0, 0]) ?_
  rintro ⟨l111, m112, x113⟩ v110 y229 h
  refine zw ?_
  refine cnd h (fun hb114 h => ?_) fun hb114 h => ?_
  ·
   refine AW.ct hb114 rfl ?_
   refine AW.skip ?_
   refine AW.seq ?_
   refine AW.cut (τ := List Y90 × (List (Int × Bool)) × Value) (fun (l172, m173, v171) => ⟨[(2, pt b1), (5, cV v36), (6, cV v171), (9, mt b38), (53, cM Y9l 1 p1), (54, cI (p1.length : Int)), (55, cI x113)], [oB b1 186 [C.ip [cI p0.graph.room, cM Y9c 9 p0.graph.events, cM Y9c 9 p0.graph.parked, C.imap .i64 Y9q p0.depth, C.imap .i64 Y9r p0.before, C.imap .i64 Y9r p0.after, C.imap .i64 Y9q p0.refused]], oA v36 106 Y9k 3 l37, oA v171 136 Y9c 9 l172, Abs.Obj.map b38 .i64 Y9s m173]⟩) (fun (l172, m173, v171) => Zh7 x113 l172 m173 = some y229) ?_ ?_
   ·
    refine zw ?_
    refine oi h fun e115 g116 h => ?_
    refine zw ?_
    refine AW.lp h (fun (l143, m144, x145) (v142 : Value) => ⟨[(2, pt b1), (5, cV v36), (6, cV v142), (9, mt b38), (53, cM Y9l 1 p1), (54, cI (p1.length : Int)), (55, cI x113), (59, cM Y9k 3 e115), (60, cI (e115.length : Int)), (61, cI x145)], [oB b1 186 [C.ip [cI p0.graph.room, cM Y9c 9 p0.graph.events, cM Y9c 9 p0.graph.parked, C.imap .i64 Y9q p0.depth, C.imap .i64 Y9r p0.before, C.imap .i64 Y9r p0.after, C.imap .i64 Y9q p0.refused]], oA v36 106 Y9k 3 l37, oA v142 136 Y9c 9 l143, Abs.Obj.map b38 .i64 Y9s m144]⟩) (gb [0, 0, 0, 0]) ?_
    rintro ⟨l143, m144, x145⟩ v142 y236 h
    refine zw ?_
    refine cnd h (fun hb146 h => ?_) fun hb146 h => ?_
    ·
     refine AW.ct hb146 rfl ?_
     refine AW.skip ?_
     refine AW.seq ?_
     refine AW.cut (τ := List Y90 × (List (Int × Bool)) × Value) (fun (l169, m170, v168) => ⟨[(2, pt b1), (5, cV v36), (6, cV v168), (9, mt b38), (53, cM Y9l 1 p1), (54, cI (p1.length : Int)), (55, cI x113), (59, cM Y9k 3 e115), (60, cI (e115.length : Int)), (61, cI x145)], [oB b1 186 [C.ip [cI p0.graph.room, cM Y9c 9 p0.graph.events, cM Y9c 9 p0.graph.parked, C.imap .i64 Y9q p0.depth, C.imap .i64 Y9r p0.before, C.imap .i64 Y9r p0.after, C.imap .i64 Y9q p0.refused]], oA v36 106 Y9k 3 l37, oA v168 136 Y9c 9 l169, Abs.Obj.map b38 .i64 Y9s m170]⟩) (fun (l169, m170, v168) => Zh8 x145 l169 m170 = some y236) ?_ ?_
     ·
      refine zw ?_
      refine oi h fun e147 g148 h => ?_
      refine zw ?_
      refine Ops.h (ns := []) rfl rfl (Y1p (cs := [cI 0, cI 0, cI 0]) Yc1 (Y43 rfl rfl) rfl) ?_
      rintro _ _ ⟨b149, rfl, rfl⟩
      refine Ops.hd (ns := [0]) rfl rfl (Y1u (gs := [cI e147.kind, cI e147.key, cI e147.id]) Ybv.h rfl rfl rfl rfl rfl) ?_
      refine zw ?_
      refine Ops.v rfl (Y6m (p := 4) (kc := Y9s) (z0 := false) Ydd zv_4 (fun _ _ => rfl) rfl rfl rfl rfl) ?_
      refine zw ?_
      refine cnd h (fun hb150 h => ?_) fun hb150 h => ?_
      ·
       refine AW.cond rfl (fun hn => absurd ((Y3v hb150).symm.trans hn) (by decide)) (fun _ => ?_)
       refine zw ?_
       exact ⟨(l143, m144, v142), h, Y21.both (ns := [1, 1, 1, 1]) rfl rfl⟩
      refine AW.cond rfl (fun _ => ?_) (fun hn => absurd ((Y3w hb150).symm.trans hn) (by decide))
      refine zw ?_
      refine Ops.hd (ns := [4]) rfl rfl (Y6n (kc := Y9s) (v := true) Ydd rfl rfl rfl rfl) ?_
      refine Ops.nil ?_
      refine AW.seq ?_
      refine AW.cut (τ := Int × Int × Int × Int × Int × Int × ByteArray × List Int × Int × Nat) (fun (x155, x156, x157, x158, x159, x160, x161, l162, x163, b154) => ⟨[(2, pt b1), (5, cV v36), (6, cV v142), (9, mt b38), (16, pt b154), (53, cM Y9l 1 p1), (54, cI (p1.length : Int)), (55, cI x113), (59, cM Y9k 3 e115), (60, cI (e115.length : Int)), (61, cI x145)], [oB b1 186 [C.ip [cI p0.graph.room, cM Y9c 9 p0.graph.events, cM Y9c 9 p0.graph.parked, C.imap .i64 Y9q p0.depth, C.imap .i64 Y9r p0.before, C.imap .i64 Y9r p0.after, C.imap .i64 Y9q p0.refused]], oA v36 106 Y9k 3 l37, oA v142 136 Y9c 9 l143, Abs.Obj.map b38 .i64 Y9s (mset m144 e147.id true), oB b154 136 [cI x155, cI x156, cI x157, cI x158, cI x159, cI x160, C.str x161, cM kI64 1 l162, cI x163]]⟩) (fun (x155, x156, x157, x158, x159, x160, x161, l162, x163, b154) => Zh9 l143 m144 x145 e147 x155 x156 x157 x158 x159 x160 x161 l162 x163 = some y236) ?_ ?_
      ·
       refine AW.regionD (L := [0, 3, 5]) (Lt := [11]) (k := .light 0 true (.light 1 false (.light 2 false (.light 3 true (.light 4 false (.light 5 true (.two 6 10 (.light 7 false (.light 8 false (.light 9 false (.one 10 (.late 11 (.light 12 false .done)))))) (.one 6 (.light 7 false (.light 8 false (.light 9 false (.late 11 (.light 12 false .done))))))))))))) (ns := [0, 0, 0, 0, 0]) (by kernel_rfl) (by kernel_rfl) (by kernel_rfl) (by kernel_rfl) rfl ?_
       refine zw ?_
       refine ob' h fun r151 g152 h => ?_
       refine OpsD.two ?_ ?_
       ·
        refine Y3o.h (ns := []) rfl rfl rfl (Y24 ((Zc7 _ _).h _ g152) rfl rfl) ?_
        rintro _ _ ⟨rfl, rfl⟩
        refine OpsD.v rfl rfl (Yq rfl rfl) ?_
        refine OpsD.v rfl rfl (Y13 rfl rfl rfl) ?_
        refine OpsD.v rfl rfl (Y13 rfl rfl rfl) ?_
        refine OpsD.one ?_
        refine Y3o.h (ns := []) rfl rfl rfl (Y1p (cs := [cI 0, cI 0, cI 0, cI 0, cI 0, cI 0, C.str ByteArray.empty, cV s0, cI 0]) Yad (Y43 rfl rfl) rfl) ?_
        rintro _ _ ⟨b153, rfl, rfl⟩
        refine OpsD.late (ns := [5]) rfl rfl rfl (Y1u (gs := [cI r151.1.id, cI r151.1.room, cI r151.1.author, cI r151.1.kind, cI r151.1.key, cI r151.1.n, C.str r151.1.text, cM kI64 1 r151.1.prev, cI r151.1.time]) Yau.h rfl rfl rfl rfl rfl) ?_
        rintro _ _ ⟨rfl, rfl⟩
        refine zw ?_
        exact ⟨(r151.1.id, r151.1.room, r151.1.author, r151.1.kind, r151.1.key, r151.1.n, r151.1.text, r151.1.prev, r151.1.time, b153), h, Y21.both (ns := [3, 3, 3, 1, 0]) rfl rfl⟩
       refine Y3o.h (ns := []) rfl rfl rfl (Y1p (cs := [cI 0, cI 0, cI 0, cI 0, cI 0, cI 0, C.str ByteArray.empty, cV s0, cI 0]) Yad (Y43 rfl rfl) rfl) ?_
       rintro _ _ ⟨b153, rfl, rfl⟩
       refine OpsD.one ?_
       refine Y3o.h (ns := []) rfl rfl rfl (Y24 ((Zc7 _ _).h _ g152) rfl rfl) ?_
       rintro _ _ ⟨rfl, rfl⟩
       refine zw ?_
       refine OpsD.late (ns := [5]) rfl rfl rfl (Y1u (gs := [cI r151.1.id, cI r151.1.room, cI r151.1.author, cI r151.1.kind, cI r151.1.key, cI r151.1.n, C.str r151.1.text, cM kI64 1 r151.1.prev, cI r151.1.time]) Yau.h rfl rfl rfl rfl rfl) ?_
       rintro _ _ ⟨rfl, rfl⟩
       refine zw ?_
       exact ⟨(r151.1.id, r151.1.room, r151.1.author, r151.1.kind, r151.1.key, r151.1.n, r151.1.text, r151.1.prev, r151.1.time, b153), h, Y21.both (ns := [3, 3, 3, 1, 0]) rfl rfl⟩
      rintro ⟨x155, x156, x157, x158, x159, x160, x161, l162, x163, b154⟩ h
      replace h : Zh9 l143 m144 x145 e147 x155 x156 x157 x158 x159 x160 x161 l162 x163 = some y236 := h
      unfold Zh9 at h
      refine AW.region ?_
      refine Ops.v rfl (Yq rfl rfl) ?_
      refine Ops.v rfl (Y1l (p := 4) (ds := [cI x155, cI x156, cI x157, cI x158, cI x159, cI x160, C.str x161, cM kI64 1 l162, cI x163]) Yau.h rfl rfl rfl rfl rfl) ?_
      refine Ops.h (ns := []) rfl rfl (Y3a (k := Y9c) (ys := [(Y90.mk x155 x156 x157 x158 x159 x160 x161 l162 x163)]) Yav (.agg rfl rfl .nil) rfl rfl rfl) ?_
      rintro _ _ ⟨b164, rfl, rfl⟩
      refine ob' h fun u166 c165 h => ?_
      refine Ops.h (ns := [3, 0]) rfl rfl (Y2t Yav rfl rfl (Wo (Y3u c165)) (Y3x (by decide) c165) rfl) ?_
      rintro _ _ ⟨v167, rfl, rfl⟩
      refine zw ?_
      exact ⟨((l143 ++ [(Y90.mk x155 x156 x157 x158 x159 x160 x161 l162 x163)]), (mset m144 e147.id true), v167), h, Y21.both (ns := [1, 1, 0, 0]) rfl rfl⟩
     rintro ⟨l169, m170, v168⟩ h
     replace h : Zh8 x145 l169 m170 = some y236 := h
     unfold Zh8 at h
     refine zw ?_
     exact le h (gb [0, 0, 0, 0])
    refine AW.cf hb146 rfl ?_
    refine AW.exit ?_
    refine lx h fun h => ?_
    exact ⟨(l143, m144, v142), h, Y21.both (ns := [0, 0, 0, 0]) rfl rfl⟩
   rintro ⟨l172, m173, v171⟩ h
   replace h : Zh7 x113 l172 m173 = some y229 := h
   unfold Zh7 at h
   refine zw ?_
   exact le h (gb [0, 0, 0, 0])
  exact go
 rintro ⟨l175, v174⟩ h
 replace h : Zh6 p0 l37 l175 = some r := h
 unfold Zh6 at h
 refine zw ?_
 refine Ops.v rfl (Y6r rfl rfl) ?_
 refine ob' h fun r176 g177 h => ?_
 refine Ops.hd (ns := [2, 0]) rfl rfl (Y88 (k := Y9c) Y8y rfl rfl (Y87.clo rfl) (FrzT.cons (os := [_]) (Frz.box (fS FrzL.nil)) FrzT.nil) (fun z1 z2 r_ h_ => (Ze8 z1 z2 p0).h r_ h_) g177 rfl) ?_
 refine zw ?_
 refine AW.lp (v := ()) h (fun (l193, x194) (_ : Unit) => ⟨[(2, pt b1), (5, cM Y9k 3 l193), (92, cV v174), (93, cI (r176.length : Int)), (94, cI x194)], [oB b1 186 [C.ip [cI p0.graph.room, cM Y9c 9 p0.graph.events, cM Y9c 9 p0.graph.parked, C.imap .i64 Y9q p0.depth, C.imap .i64 Y9r p0.before, C.imap .i64 Y9r p0.after, C.imap .i64 Y9q p0.refused]], oA v174 136 Y9c 9 r176]⟩) ((Y21.freeze (p := 2) (t := 5) rfl rfl).trans (Y21.both (ns := [1, 0]) rfl rfl)) ?_
 rintro ⟨l193, x194⟩ _ y222 h
 refine zw ?_
 refine cnd h (fun hb195 h => ?_) fun hb195 h => ?_
 ·
  refine AW.ct hb195 rfl ?_
  refine zw ?_
  refine ob' h fun e196 g197 h => ?_
  refine Ops.v rfl (Y2y (p := 1) Yay.h rfl rfl rfl g197 rfl) ?_
  refine Ops.v rfl (Y32 (p := 1) Yau.h rfl rfl (Y29 g197).2.2 rfl rfl rfl) ?_
  refine Ops.h (ns := []) rfl rfl (Y1p (cs := [cI 0, cI 0, cI 0, cI 0, cI 0, cI 0, C.str ByteArray.empty, cV s0, cI 0]) Yad (Y43 rfl rfl) rfl) ?_
  rintro _ _ ⟨b198, rfl, rfl⟩
  refine Ops.hd (ns := [0]) rfl rfl (Y1u (gs := [cI e196.id, cI e196.room, cI e196.author, cI e196.kind, cI e196.key, cI e196.n, C.str e196.text, cM kI64 1 e196.prev, cI e196.time]) Yau.h rfl rfl rfl rfl rfl) ?_
  refine zw ?_
  refine rD [0,0,0] [0,3,5] [] [1,4,8,13,16,21,26,28] ?_
  refine zw ?_
  refine dc h fun r199 g200 h => ?_
  refine zw ?_
  refine cnd h (fun hb201 h => ?_) fun hb201 h => ?_
  ·
   refine AW.ct hb201 rfl ?_
   refine zw ?_
   refine Ops.v rfl (Y39 (ds := [cI e196.kind, cI e196.key, cI e196.id]) Yc0 Yc1 (Y43 rfl rfl) (.one rfl (One.val rfl) rfl rfl (.one rfl (One.val rfl) rfl rfl (.one rfl (One.val rfl) rfl rfl .nil))) rfl) ?_
   exact go
  exact go
 exact go

def Zhj (p0 : Y9a) : Option (List Y95) := (Zgx p0).bind fun r1 => (Zh1 p0 r1).bind fun r3 => (Zhh p0 r3).bind fun r5 => some r5
instance Zhk (p0 : Y9a) : Sp Tryz.prog 223 [C.ip [cI p0.graph.room, cM Y9c 9 p0.graph.events, cM Y9c 9 p0.graph.parked, C.imap .i64 Y9q p0.depth, C.imap .i64 Y9r p0.before, C.imap .i64 Y9r p0.after, C.imap .i64 Y9q p0.refused]] (Zhj p0) (fun r => cM Y9k 3 r) := sp Tryz.func223 rfl rfl fun r X h => go

def Zhl (p0 : Y90) : Option Y90 := (Zep p0.prev).bind fun r3 => some (Y90.mk p0.id p0.room p0.author p0.kind p0.key p0.n p0.text r3 p0.time)
theorem Zhm (p0 : Y90) (r : Y90) (h : Zhl p0 = some r) : Ok Tryz.prog 169 [C.agg [cI p0.id, cI p0.room, cI p0.author, cI p0.kind, cI p0.key, cI p0.n, C.str p0.text, cM kI64 1 p0.prev, cI p0.time]] [] (fun c qs => ∃ (v7 : Value), c = C.agg [cI r.id, cI r.room, cI r.author, cI r.kind, cI r.key, cI r.n, C.str r.text, cV v7, cI r.time] ∧ qs = [oA v7 2 kI64 1 r.prev]) := by
 refine Ok.of_body (rs := [.cell 2 136]) Tryz.func169 rfl rfl rfl rfl rfl fun X => ?_
 unfold Zhl at h
 refine zw ?_
 refine ox fun b1 => ?_
 refine Ops.h (ns := []) rfl rfl (Y1p (cs := [cI 0, cI 0, cI 0, cI 0, cI 0, cI 0, C.str ByteArray.empty, cV s0, cI 0]) Yad (Y43 rfl rfl) rfl) ?_
 rintro _ _ ⟨b2, rfl, rfl⟩
 refine zw ?_
 refine ob' h fun r3 g4 h => ?_
 refine Ops.h (ns := []) rfl rfl (Y23 (Zeq _ _ g4) rfl rfl) ?_
 rintro _ _ ⟨_, ⟨v5, rfl, rfl⟩, rfl⟩
 refine Ops.v rfl (Y1b Yar.h rfl rfl) ?_
 refine Ops.learn (Sim.arr_one (p := 0) rfl) fun n6 => ?_
 refine Ops.hd (ns := [2]) rfl rfl (Y1t (gs := [cI p0.id, cI p0.room, cI p0.author, cI p0.kind, cI p0.key, cI p0.n, C.str p0.text, cV v5, cI p0.time]) Y9z.h rfl rfl (One.val n6) rfl rfl) ?_
 refine zw ?_
 refine Ops.hd (ns := [2]) rfl rfl (Y1u (gs := [cI p0.id, cI p0.room, cI p0.author, cI p0.kind, cI p0.key, cI p0.n, C.str p0.text, cV v5, cI p0.time]) Yau.h rfl rfl rfl rfl rfl) ?_
 refine zw ?_
 refine AW.ret ?_
 rw [← Wj h]
 exact ⟨[C.agg [cI p0.id, cI p0.room, cI p0.author, cI p0.kind, cI p0.key, cI p0.n, C.str p0.text, cV v5, cI p0.time]], _, Y21.refl _, (.cons (.cell (p := 0) rfl rfl Yau.h rfl) .nil), [2], _, _, rfl, ⟨v5, rfl, rfl⟩⟩
instance Zhm' (p0 : Y90) : Sp Tryz.prog 169 [C.agg [cI p0.id, cI p0.room, cI p0.author, cI p0.kind, cI p0.key, cI p0.n, C.str p0.text, cM kI64 1 p0.prev, cI p0.time]] (Zhl p0) (fun r => C.agg [cI r.id, cI r.room, cI r.author, cI r.kind, cI r.key, cI r.n, C.str r.text, cM kI64 1 r.prev, cI r.time]) := ⟨fun r h => Ok.freeze (Zhm p0 r h) (by rintro c qs ⟨v7, rfl, rfl⟩; exact Frz.agg (fS (fS (fS (fS (fS (fS (fS (FrzL.cons (os := [_]) (Frz.arr) (fS (FrzL.nil)))))))))))⟩

def Zhn (p0 : Y9b) (p1 : Int) (p2 : Int) : Option Int := (Zg5 p0.hub.stream (Y92.mk p1 p2)).bind fun r1 => some (IntKind.i64.wrap (r1 + 1))
instance Zho (p0 : Y9b) (p1 : Int) (p2 : Int) : Sp Tryz.prog 111 [C.ip [cM Y9h 3 p0.hub.rooms, cM Y9e 2 p0.hub.stream, cM Y9t 1 p0.rooms], cI p1, cI p2] (Zhn p0 p1 p2) cI := sp Tryz.func111 rfl rfl fun r X h => by
 unfold Zhn at h
 refine zw ?_
 refine Ops.v rfl (Y39 (ds := [cI p1, cI p2]) Ydx Yb9 (Y43 rfl rfl) (.one rfl (One.val rfl) rfl rfl (.one rfl (One.val rfl) rfl rfl .nil)) rfl) ?_
 exact go

def Zhp (p0 : Y9b) (p1 : Int) : Option Y9a := (getI p0.rooms (IntKind.i64.wrap (p1 - 1))).bind fun e1 => some e1
instance Zhq (p0 : Y9b) (p1 : Int) : Sp Tryz.prog 138 [C.ip [cM Y9h 3 p0.hub.rooms, cM Y9e 2 p0.hub.stream, cM Y9t 1 p0.rooms], cI p1] (Zhp p0 p1) (fun r => C.ip [cI r.graph.room, cM Y9c 9 r.graph.events, cM Y9c 9 r.graph.parked, C.imap .i64 Y9q r.depth, C.imap .i64 Y9r r.before, C.imap .i64 Y9r r.after, C.imap .i64 Y9q r.refused]) := sp Tryz.func138 rfl rfl fun r X h => go

def Zhr (p0 : Y9b) (p1 : Int) (p2 : Int) : Option Bool := (Zhp p0 p2).bind fun r1 => (Zhj r1).bind fun r3 => (Zd2 r1.graph r3 p1).bind fun r5 => some (r5 == 1)
instance Zhs (p0 : Y9b) (p1 : Int) (p2 : Int) : Sp Tryz.prog 165 [C.ip [cM Y9h 3 p0.hub.rooms, cM Y9e 2 p0.hub.stream, cM Y9t 1 p0.rooms], cI p1, cI p2] (Zhr p0 p1 p2) C.bool := sp Tryz.func165 rfl rfl fun r X h => by
 unfold Zhr at h
 refine zw ?_
 refine oc h fun r1 g2 h => ?_
 refine zw ?_
 refine rD [] [3] [] [0,4,8,13,16,24,22,30,32,36] ?_
 exact go

def Zht (x23 : Bool) : Option Bool := some x23
def Zhu (p0 : Y9b) (p1 : Int) (p2 : Int) (p3 : Int) (r4 : Y9a) (x16 : Bool) : Option Bool := cond x16 (some true) ((Zg7 r4.graph (Option.getD (mget r4.after p3) ([] : List Y95))).bind fun r18 => cond (r18 == 2) ((Zhr p0 p1 p2).bind fun r21 => Zht r21) (Zht false))
def Zhv (p0 : Y9b) (p1 : Int) (p2 : Int) (p3 : Int) : Option Bool := (Zhn p0 p2 p3).bind fun r1 => cond (r1 == 0) (some false) ((Zhp p0 p2).bind fun r4 => (Zc6 r4.graph p3).bind fun r6 => (Zd2 r4.graph (Option.getD (mget r4.after p3) ([] : List Y95)) p1).bind fun r9 => cond (r9 == 1) (Zhu p0 p1 p2 p3 r4 true) ((Zg7 r4.graph (Option.getD (mget r4.after p3) ([] : List Y95))).bind fun r12 => cond (r12 == 1) (Zhu p0 p1 p2 p3 r4 true) (cond (r6.1.kind == 2) (Zhu p0 p1 p2 p3 r4 (r6.1.key == p1)) (Zhu p0 p1 p2 p3 r4 false))))
instance Zhw (p0 : Y9b) (p1 : Int) (p2 : Int) (p3 : Int) : Sp Tryz.prog 109 [C.ip [cM Y9h 3 p0.hub.rooms, cM Y9e 2 p0.hub.stream, cM Y9t 1 p0.rooms], cI p1, cI p2, cI p3] (Zhv p0 p1 p2 p3) C.bool := sp Tryz.func109 rfl rfl fun r X h => by
 unfold Zhv at h
 refine zw ?_
 refine oc h fun r1 g2 h => ?_
 refine zw ?_
 refine cnd h (fun hb3 h => go) fun hb3 h => ?_
 refine AW.cf hb3 rfl ?_
 refine zw ?_
 refine oc h fun r4 g5 h => ?_
 refine zw ?_
 refine oc h fun r6 g7 h => ?_
 refine zw ?_
 refine Ops.h (ns := []) rfl rfl (Y1p (cs := [cI 0, cI 0, cI 0, cI 0, cI 0, cI 0, C.str ByteArray.empty, cV s0, cI 0]) Yad (Y43 rfl rfl) rfl) ?_
 rintro _ _ ⟨b8, rfl, rfl⟩
 refine Ops.hd (ns := [0]) rfl rfl (Y1u (gs := [cI r6.1.id, cI r6.1.room, cI r6.1.author, cI r6.1.kind, cI r6.1.key, cI r6.1.n, C.str r6.1.text, cM kI64 1 r6.1.prev, cI r6.1.time]) Yau.h rfl rfl rfl rfl rfl) ?_
 refine zw ?_
 refine Ops.v rfl (Y8b (kc := Y9r) (z0 := ([] : List Y95)) Yda Ydb (fun w F => Imp.nil Y9k 3 w F _ rfl) rfl rfl rfl) ?_
 refine Ops.v rfl (Yr rfl rfl) ?_
 refine Ops.nil ?_
 refine AW.seq ?_
 refine AW.block ?_
 refine AW.seq ?_
 refine AW.cut (τ := Bool) (fun x16 => ⟨[(0, C.ip [cM Y9h 3 p0.hub.rooms, cM Y9e 2 p0.hub.stream, cM Y9t 1 p0.rooms]), (1, cI p1), (2, cI p2), (9, C.ip [cI r4.graph.room, cM Y9c 9 r4.graph.events, cM Y9c 9 r4.graph.parked, C.imap .i64 Y9q r4.depth, C.imap .i64 Y9r r4.before, C.imap .i64 Y9r r4.after, C.imap .i64 Y9q r4.refused]), (12, cM Y9k 3 (Option.getD (mget r4.after p3) ([] : List Y95))), (36, C.bool x16)], []⟩) (fun x16 => Zhu p0 p1 p2 p3 r4 x16 = some r) ?_ ?_
 ·
  refine zw ?_
  refine oc h fun r9 g10 h => ?_
  refine zw ?_
  refine cnd h (fun hb11 h => go) fun hb11 h => ?_
  refine zw ?_
  refine ob' h fun r12 g13 h => ?_
  refine Ops.ghd (ns := []) rfl rfl rfl rfl hb11 rfl (Y24 ((Zg8 _ _).h _ g13) rfl rfl) ?_
  exact go
 intro x16 h
 replace h : Zhu p0 p1 p2 p3 r4 x16 = some r := h
 unfold Zhu at h
 refine cnd h (fun hb17 h => go) fun hb17 h => ?_
 refine AW.cf hb17 rfl ?_
 refine zw ?_
 refine oc h fun r18 g19 h => ?_
 refine zw ?_
 refine cnd h (fun hb20 h => ?_) fun hb20 h => ?_
 ·
  refine zw ?_
  refine ob' h fun r21 g22 h => ?_
  refine Ops.ghd (ns := []) rfl rfl rfl rfl hb20 rfl (Y24 ((Zhs _ _ _).h _ g22) rfl rfl) ?_
  exact go
 exact go

def Zhx (l42 : List Int) : Option (List Int) := some l42
def Zhy (x22 : Int) (l40 : List Int) : Option ((List Int × Int) ⊕ ((List Int))) := some (.inl (l40, (IntKind.i64.wrap (x22 + 1))))
def Zhz (l21 : List Int) (x22 : Int) (x33 : Bool) : Option ((List Int × Int) ⊕ ((List Int))) := cond x33 ((chk (decide ((l21.length + [(IntKind.i64.wrap (x22 + 1))].length) * 8 ≤ 140737488355328))).bind fun u37 => Zhy x22 (l21 ++ [(IntKind.i64.wrap (x22 + 1))])) (Zhy x22 l21)
def Zi0 (p0 : Y9b) (p1 : Int) (p2 : Int) (p3 : Int) (p4 : Int) (l21 : List Int) (x22 : Int) : Option ((List Int × Int) ⊕ ((List Int))) := cond (decide (x22 < (p0.hub.stream.length : Int))) ((getI p0.hub.stream x22).bind fun e24 => (Z81 (IntKind.i64.wrap (x22 + 1)) p3 p4).bind fun r27 => cond r27 (cond (e24.room == p2) ((Zhv p0 p1 p2 e24.id).bind fun r31 => Zhz l21 x22 r31) (Zhz l21 x22 false)) (Zhz l21 x22 false)) (some (.inr l21))
def Zi1 (p0 : Y9b) (p1 : Int) (p2 : Int) (p3 : Int) (p4 : Int) : Option (List Int) := (iter (fun z44 => Zi0 p0 p1 p2 p3 p4 z44.1 z44.2) big (([] : List Int), 0)).bind fun y45 => Zhx y45
theorem Zi2 (p0 : Y9b) (p1 : Int) (p2 : Int) (p3 : Int) (p4 : Int) (r : List Int) (h : Zi1 p0 p1 p2 p3 p4 = some r) : Ok Tryz.prog 100 [C.ip [cM Y9h 3 p0.hub.rooms, cM Y9e 2 p0.hub.stream, cM Y9t 1 p0.rooms], cI p1, cI p2, cI p3, cI p4] [] (fun c qs => ∃ (v43 : Value), c = cV v43 ∧ qs = [oA v43 2 kI64 1 r]) := by
 refine Ok.of_body (rs := [.tmp 10]) Tryz.func100 rfl rfl rfl rfl rfl fun X => ?_
 unfold Zi1 at h
 refine zw ?_
 refine Ops.h (ns := []) rfl rfl (Y3a (k := kI64) (ys := ([] : List Int)) Yac .nil rfl rfl rfl) ?_
 rintro _ _ ⟨b1, rfl, rfl⟩
 refine Ops.v rfl (Yr rfl rfl) ?_
 refine Ops.nil ?_
 refine AW.seq ?_
 refine AW.cut (τ := List Int × Value) (fun (l42, v41) => ⟨[(11, cV v41)], [oA v41 2 kI64 1 l42]⟩) (fun (l42, v41) => Zhx l42 = some r) ?_ ?_
 ·
  refine zw ?_
  refine AW.lp h (fun (l21, x22) (v20 : Value) => ⟨[(0, C.ip [cM Y9h 3 p0.hub.rooms, cM Y9e 2 p0.hub.stream, cM Y9t 1 p0.rooms]), (1, cI p1), (2, cI p2), (3, cI p3), (4, cI p4), (11, cV v20), (20, cM Y9e 2 p0.hub.stream), (21, cI (p0.hub.stream.length : Int)), (22, cI x22)], [oA v20 2 kI64 1 l21]⟩) (gb [0]) ?_
  rintro ⟨l21, x22⟩ v20 y51 h
  refine zw ?_
  refine cnd h (fun hb23 h => ?_) fun hb23 h => ?_
  ·
   refine AW.ct hb23 rfl ?_
   refine zw ?_
   refine oi h fun e24 g25 h => ?_
   refine zw ?_
   refine Ops.h (ns := []) rfl rfl (Y1p (cs := [cI 0, cI 0]) Yb9 (Y43 rfl rfl) rfl) ?_
   rintro _ _ ⟨b26, rfl, rfl⟩
   refine zw ?_
   refine Ops.hd (ns := [0]) rfl rfl (Y1u (gs := [cI e24.room, cI e24.id]) Ybe.h rfl rfl rfl rfl rfl) ?_
   refine Ops.nil ?_
   refine AW.seq ?_
   refine AW.region ?_
   refine Ops.v rfl (Yq rfl rfl) ?_
   refine Ops.v rfl (Yv rfl rfl rfl rfl) ?_
   refine Ops.v rfl (Yr rfl rfl) ?_
   refine Ops.nil ?_
   refine AW.seq ?_
   refine AW.cut (τ := Bool) (fun x33 => ⟨[(0, C.ip [cM Y9h 3 p0.hub.rooms, cM Y9e 2 p0.hub.stream, cM Y9t 1 p0.rooms]), (1, cI p1), (2, cI p2), (3, cI p3), (4, cI p4), (11, cV v20), (14, cI (IntKind.i64.wrap (x22 + 1))), (20, cM Y9e 2 p0.hub.stream), (21, cI (p0.hub.stream.length : Int)), (22, cI x22), (46, C.bool x33)], [oA v20 2 kI64 1 l21]⟩) (fun x33 => Zhz l21 x22 x33 = some y51) ?_ ?_
   ·
    refine zw ?_
    refine oc h fun r27 g28 h => ?_
    refine zw ?_
    refine cnd h (fun hb29 h => ?_) fun hb29 h => ?_
    ·
     refine zw ?_
     refine cnd h (fun hb30 h => ?_) fun hb30 h => ?_
     ·
      refine zw ?_
      refine ob' h fun r31 g32 h => ?_
      refine Ops.ghd (ns := []) rfl rfl rfl rfl hb30 rfl (Y24 ((Zhw _ _ _ _).h _ g32) rfl rfl) ?_
      exact go
     exact go
    exact go
   intro x33 h
   replace h : Zhz l21 x22 x33 = some y51 := h
   unfold Zhz at h
   refine cnd h (fun hb34 h => ?_) fun hb34 h => ?_
   ·
    refine AW.ct hb34 rfl ?_
    refine zw ?_
    refine Ops.h (ns := []) rfl rfl (Y3a (k := kI64) (ys := [(IntKind.i64.wrap (x22 + 1))]) Yac (.one rfl (One.val rfl) rfl rfl .nil) rfl rfl rfl) ?_
    rintro _ _ ⟨b35, rfl, rfl⟩
    refine ob' h fun u37 c36 h => ?_
    refine Ops.h (ns := [1, 0]) rfl rfl (Y2t Yac rfl rfl (Wo (Y3u c36)) (Y3x (by decide) c36) rfl) ?_
    rintro _ _ ⟨v38, rfl, rfl⟩
    exact go
   exact go
  exact go
 rintro ⟨l42, v41⟩ h
 replace h : Zhx l42 = some r := h
 unfold Zhx at h
 refine zw ?_
 refine AW.ret ?_
 rw [← Wj h]
 exact ⟨[cV v41], _, Y21.refl _, (.cons (.tmp rfl) .nil), [0], _, _, rfl, ⟨v41, rfl, rfl⟩⟩
instance Zi2' (p0 : Y9b) (p1 : Int) (p2 : Int) (p3 : Int) (p4 : Int) : Sp Tryz.prog 100 [C.ip [cM Y9h 3 p0.hub.rooms, cM Y9e 2 p0.hub.stream, cM Y9t 1 p0.rooms], cI p1, cI p2, cI p3, cI p4] (Zi1 p0 p1 p2 p3 p4) (fun r => cM kI64 1 r) := ⟨fun r h => Ok.freeze (Zi2 p0 p1 p2 p3 p4 r h) (by rintro c qs ⟨v43, rfl, rfl⟩; exact Frz.arr)⟩

def Zi3 : Option Int := some 0
def Zi4 (x26 : Int) : Option (Int ⊕ (Int ⊕ Unit)) := some (.inl (IntKind.i64.wrap (x26 + 1)))
def Zi5 (x26 : Int) (e28 : Y92) (x50 : Bool) : Option (Int ⊕ (Int ⊕ Unit)) := cond x50 (some (.inr (.inl e28.id))) (Zi4 x26)
def Zi6 (p2 : Int) (x26 : Int) (e28 : Y92) (x40 : Int) (x41 : Int) (x42 : Int) (x43 : Int) (x44 : Int) (x45 : Int) (x46 : ByteArray) (l47 : List Int) (x48 : Int) : Option (Int ⊕ (Int ⊕ Unit)) := cond (x43 == 8) (Zi5 x26 e28 (x44 == p2)) (Zi5 x26 e28 false)
def Zi7 (p0 : Y9b) (p1 : Int) (p2 : Int) (x26 : Int) : Option (Int ⊕ (Int ⊕ Unit)) := cond (decide (x26 < (p0.hub.stream.length : Int))) ((getI p0.hub.stream x26).bind fun e28 => cond (e28.room != p1) (Zi4 x26) ((Zhp p0 p1).bind fun r32 => (Zc6 r32.graph e28.id).bind fun r35 => Zi6 p2 x26 e28 r35.1.id r35.1.room r35.1.author r35.1.kind r35.1.key r35.1.n r35.1.text r35.1.prev r35.1.time)) (some (.inr (.inr ())))
def Zi8 (p0 : Y9b) (p1 : Int) (p2 : Int) : Option Int := (iter (Zi7 p0 p1 p2) big 0).bind (fun z53 => match z53 with | .inl y52 => some y52 | .inr () => Zi3)
instance Zi9 (p0 : Y9b) (p1 : Int) (p2 : Int) : Sp Tryz.prog 170 [C.ip [cM Y9h 3 p0.hub.rooms, cM Y9e 2 p0.hub.stream, cM Y9t 1 p0.rooms], cI p1, cI p2] (Zi8 p0 p1 p2) cI := sp Tryz.func170 rfl rfl fun r X h => by
 unfold Zi8 at h
 refine zw ?_
 refine AW.lp (v := ()) h (fun x26 (_ : Unit) => ⟨[(0, C.ip [cM Y9h 3 p0.hub.rooms, cM Y9e 2 p0.hub.stream, cM Y9t 1 p0.rooms]), (1, cI p1), (2, cI p2), (15, cM Y9e 2 p0.hub.stream), (16, cI (p0.hub.stream.length : Int)), (17, cI x26)], []⟩) (gb []) ?_
 rintro x26 _ y59 h
 refine zw ?_
 refine cnd h (fun hb27 h => ?_) fun hb27 h => ?_
 ·
  refine AW.ct hb27 rfl ?_
  refine zw ?_
  refine oi h fun e28 g29 h => ?_
  refine zw ?_
  refine Ops.h (ns := []) rfl rfl (Y1p (cs := [cI 0, cI 0]) Yb9 (Y43 rfl rfl) rfl) ?_
  rintro _ _ ⟨b30, rfl, rfl⟩
  refine Ops.hd (ns := [0]) rfl rfl (Y1u (gs := [cI e28.room, cI e28.id]) Ybe.h rfl rfl rfl rfl rfl) ?_
  refine zw ?_
  refine cnd h (fun hb31 h => go) fun hb31 h => ?_
  refine AW.cf hb31 rfl ?_
  refine AW.skip ?_
  refine AW.seq ?_
  refine AW.cut (τ := Int × Int × Int × Int × Int × Int × ByteArray × List Int × Int × Nat) (fun (x40, x41, x42, x43, x44, x45, x46, l47, x48, b39) => ⟨[(0, C.ip [cM Y9h 3 p0.hub.rooms, cM Y9e 2 p0.hub.stream, cM Y9t 1 p0.rooms]), (1, cI p1), (2, cI p2), (8, pt b30), (9, pt b39), (15, cM Y9e 2 p0.hub.stream), (16, cI (p0.hub.stream.length : Int)), (17, cI x26)], [oB b30 142 [cI e28.room, cI e28.id], oB b39 136 [cI x40, cI x41, cI x42, cI x43, cI x44, cI x45, C.str x46, cM kI64 1 l47, cI x48]]⟩) (fun (x40, x41, x42, x43, x44, x45, x46, l47, x48, b39) => Zi6 p2 x26 e28 x40 x41 x42 x43 x44 x45 x46 l47 x48 = some y59) ?_ ?_
  ·
   refine AW.regionD (L := [5, 7]) (Lt := [13]) (k := .light 0 false (.light 1 false (.light 6 false (.light 7 true (.two 2 12 (.light 3 false (.light 4 false (.light 5 true (.two 8 12 (.light 9 false (.light 10 false (.light 11 false (.one 12 (.late 13 (.light 14 false .done)))))) (.one 8 (.light 9 false (.light 10 false (.light 11 false (.late 13 (.light 14 false .done)))))))))) (.one 2 (.light 3 false (.light 4 false (.light 5 true (.one 8 (.light 9 false (.light 10 false (.light 11 false (.late 13 (.light 14 false .done))))))))))))))) (ns := [0]) (by kernel_rfl) (by kernel_rfl) (by kernel_rfl) (by kernel_rfl) rfl ?_
   refine zw ?_
   refine ob' h fun r32 g33 h => ?_
   refine OpsD.two ?_ ?_
   ·
    refine Y3o.h (ns := []) rfl rfl rfl (Y24 ((Zhq _ _).h _ g33) rfl rfl) ?_
    rintro _ _ ⟨rfl, rfl⟩
    refine zw ?_
    refine ob' h fun r35 g36 h => ?_
    refine OpsD.two ?_ ?_
    ·
     refine Y3o.h (ns := []) rfl rfl rfl (Y24 ((Zc7 _ _).h _ g36) rfl rfl) ?_
     rintro _ _ ⟨rfl, rfl⟩
     refine OpsD.v rfl rfl (Yq rfl rfl) ?_
     refine OpsD.v rfl rfl (Y13 rfl rfl rfl) ?_
     refine OpsD.v rfl rfl (Y13 rfl rfl rfl) ?_
     refine OpsD.one ?_
     refine Y3o.h (ns := []) rfl rfl rfl (Y1p (cs := [cI 0, cI 0, cI 0, cI 0, cI 0, cI 0, C.str ByteArray.empty, cV s0, cI 0]) Yad (Y43 rfl rfl) rfl) ?_
     rintro _ _ ⟨b34, rfl, rfl⟩
     refine OpsD.late (ns := [1]) rfl rfl rfl (Y1u (gs := [cI r35.1.id, cI r35.1.room, cI r35.1.author, cI r35.1.kind, cI r35.1.key, cI r35.1.n, C.str r35.1.text, cM kI64 1 r35.1.prev, cI r35.1.time]) Yau.h rfl rfl rfl rfl rfl) ?_
     rintro _ _ ⟨rfl, rfl⟩
     refine zw ?_
     exact ⟨(r35.1.id, r35.1.room, r35.1.author, r35.1.kind, r35.1.key, r35.1.n, r35.1.text, r35.1.prev, r35.1.time, b34), h, Y21.both (ns := [1, 0]) rfl rfl⟩
    refine Y3o.h (ns := []) rfl rfl rfl (Y1p (cs := [cI 0, cI 0, cI 0, cI 0, cI 0, cI 0, C.str ByteArray.empty, cV s0, cI 0]) Yad (Y43 rfl rfl) rfl) ?_
    rintro _ _ ⟨b34, rfl, rfl⟩
    refine OpsD.one ?_
    refine Y3o.h (ns := []) rfl rfl rfl (Y24 ((Zc7 _ _).h _ g36) rfl rfl) ?_
    rintro _ _ ⟨rfl, rfl⟩
    refine zw ?_
    refine OpsD.late (ns := [1]) rfl rfl rfl (Y1u (gs := [cI r35.1.id, cI r35.1.room, cI r35.1.author, cI r35.1.kind, cI r35.1.key, cI r35.1.n, C.str r35.1.text, cM kI64 1 r35.1.prev, cI r35.1.time]) Yau.h rfl rfl rfl rfl rfl) ?_
    rintro _ _ ⟨rfl, rfl⟩
    refine zw ?_
    exact ⟨(r35.1.id, r35.1.room, r35.1.author, r35.1.kind, r35.1.key, r35.1.n, r35.1.text, r35.1.prev, r35.1.time, b34), h, Y21.both (ns := [1, 0]) rfl rfl⟩
   refine Y3o.h (ns := []) rfl rfl rfl (Y1p (cs := [cI 0, cI 0, cI 0, cI 0, cI 0, cI 0, C.str ByteArray.empty, cV s0, cI 0]) Yad (Y43 rfl rfl) rfl) ?_
   rintro _ _ ⟨b34, rfl, rfl⟩
   refine OpsD.one ?_
   refine Y3o.h (ns := []) rfl rfl rfl (Y24 ((Zhq _ _).h _ g33) rfl rfl) ?_
   rintro _ _ ⟨rfl, rfl⟩
   refine zw ?_
   refine dc h fun r37 g38 h => ?_
   refine zw ?_
   refine OpsD.late (ns := [1]) rfl rfl rfl (Y1u (gs := [cI r37.1.id, cI r37.1.room, cI r37.1.author, cI r37.1.kind, cI r37.1.key, cI r37.1.n, C.str r37.1.text, cM kI64 1 r37.1.prev, cI r37.1.time]) Yau.h rfl rfl rfl rfl rfl) ?_
   rintro _ _ ⟨rfl, rfl⟩
   refine zw ?_
   exact ⟨(r37.1.id, r37.1.room, r37.1.author, r37.1.kind, r37.1.key, r37.1.n, r37.1.text, r37.1.prev, r37.1.time, b34), h, Y21.both (ns := [1, 0]) rfl rfl⟩
  rintro ⟨x40, x41, x42, x43, x44, x45, x46, l47, x48, b39⟩ h
  exact go
 exact go

def Zia (r10 : Y90) (x22 : ByteArray) (x23 : Bool) : Option Y98 := some (Y98.mk (Y90.mk r10.id r10.room r10.author r10.kind r10.key r10.n x22 r10.prev r10.time) x23)
def Zib (r10 : Y90) (x20 : Bool) : Option Y98 := cond x20 (Zia r10 ByteArray.empty true) (Zia r10 r10.text false)
def Zic (p0 : Y9b) (p1 : Int) (p2 : Int) : Option Y98 := (Zhn p0 p1 p2).bind fun r2 => cond (r2 == 0) (some (Y98.mk (Y90.mk 0 0 0 0 0 0 ByteArray.empty [] 0) false)) ((Zhp p0 p1).bind fun r5 => (Zc6 r5.graph p2).bind fun r7 => (Zhl r7.1).bind fun r10 => cond (r7.1.kind == 7) ((Zi8 p0 p1 p2).bind fun r15 => Zib r10 (r15 != 0)) (cond (r7.1.kind == 4) ((Zi8 p0 p1 p2).bind fun r18 => Zib r10 (r18 != 0)) (Zib r10 false)))
theorem Zid (p0 : Y9b) (p1 : Int) (p2 : Int) (r : Y98) (h : Zic p0 p1 p2 = some r) : Ok Tryz.prog 116 [C.ip [cM Y9h 3 p0.hub.rooms, cM Y9e 2 p0.hub.stream, cM Y9t 1 p0.rooms], cI p1, cI p2] [] (fun c qs => ∃ (v24 : Value), c = C.agg [cI r.event.id, cI r.event.room, cI r.event.author, cI r.event.kind, cI r.event.key, cI r.event.n, C.str r.event.text, cV v24, cI r.event.time, C.bool r.hidden] ∧ qs = [oA v24 2 kI64 1 r.event.prev]) := by
 refine Ok.of_body (rs := [.cell 6 160]) Tryz.func116 rfl rfl rfl rfl rfl fun X => ?_
 unfold Zic at h
 refine zw ?_
 refine Ops.h (ns := []) rfl rfl (Y1p (cs := [cI 0, cI 0, cI 0, cI 0, cI 0, cI 0, C.str ByteArray.empty, cV s0, cI 0, C.bool false]) Ycw (Y43 rfl rfl) rfl) ?_
 rintro _ _ ⟨b1, rfl, rfl⟩
 refine zw ?_
 refine oc h fun r2 g3 h => ?_
 refine zw ?_
 refine cnd h (fun hb4 h => ?_) fun hb4 h => ?_
 ·
  refine AW.ct hb4 rfl ?_
  refine zw ?_
  refine Ops.v rfl (Y39 (ds := [cI 0, cI 0, cI 0, cI 0, cI 0, cI 0, C.str ByteArray.empty, cV s0, cI 0, C.bool false]) Ycx Ycw (Y43 rfl rfl) .nil rfl) ?_
  refine Ops.hd (ns := [0]) rfl rfl (Y1u (gs := [cI 0, cI 0, cI 0, cI 0, cI 0, cI 0, C.str ByteArray.empty, cV s0, cI 0, C.bool false]) Ycy.h rfl rfl rfl rfl rfl) ?_
  refine zw ?_
  refine AW.ret ?_
  rw [← Wj h]
  exact ⟨[C.agg [cI 0, cI 0, cI 0, cI 0, cI 0, cI 0, C.str ByteArray.empty, cV s0, cI 0, C.bool false]], _, Y21.nil 2 kI64 1, (.cons (.cell (p := 1) rfl rfl Ycy.h rfl) .nil), [0], _, _, rfl, ⟨s0, rfl, rfl⟩⟩
 refine AW.cf hb4 rfl ?_
 refine zw ?_
 refine oc h fun r5 g6 h => ?_
 refine zw ?_
 refine oc h fun r7 g8 h => ?_
 refine zw ?_
 refine Ops.h (ns := []) rfl rfl (Y1p (cs := [cI 0, cI 0, cI 0, cI 0, cI 0, cI 0, C.str ByteArray.empty, cV s0, cI 0]) Yad (Y43 rfl rfl) rfl) ?_
 rintro _ _ ⟨b9, rfl, rfl⟩
 refine Ops.hd (ns := [0]) rfl rfl (Y1u (gs := [cI r7.1.id, cI r7.1.room, cI r7.1.author, cI r7.1.kind, cI r7.1.key, cI r7.1.n, C.str r7.1.text, cM kI64 1 r7.1.prev, cI r7.1.time]) Yau.h rfl rfl rfl rfl rfl) ?_
 refine zw ?_
 refine ob' h fun r10 g11 h => ?_
 refine Ops.h (ns := []) rfl rfl (Y23 (Zhm _ _ g11) rfl rfl) ?_
 rintro _ _ ⟨_, ⟨v12, rfl, rfl⟩, rfl⟩
 refine Ops.v rfl (Y39 (ds := [cI r10.id, cI r10.room, cI r10.author, cI r10.kind, cI r10.key, cI r10.n, C.str r10.text, cV v12, cI r10.time, C.bool false]) Ycx Ycw (Y43 rfl rfl) (.agg rfl rfl rfl .nil) rfl) ?_
 refine Ops.h (ns := []) rfl rfl (Y1p (cs := [cI 0, cI 0, cI 0, cI 0, cI 0, cI 0, C.str ByteArray.empty, cV s0, cI 0, C.bool false]) Ycw (Y43 rfl rfl) rfl) ?_
 rintro _ _ ⟨b13, rfl, rfl⟩
 refine Ops.hd (ns := [0]) rfl rfl (Y1u (gs := [cI r10.id, cI r10.room, cI r10.author, cI r10.kind, cI r10.key, cI r10.n, C.str r10.text, cV v12, cI r10.time, C.bool false]) Ycy.h rfl rfl rfl rfl rfl) ?_
 refine Ops.nil ?_
 refine AW.seq ?_
 refine AW.cut (τ := ByteArray × Bool) (fun (x22, x23) => ⟨[(6, pt b1), (9, pt b13)], [oB b1 160 [cI 0, cI 0, cI 0, cI 0, cI 0, cI 0, C.str ByteArray.empty, cV s0, cI 0, C.bool false], oB b13 160 [cI r10.id, cI r10.room, cI r10.author, cI r10.kind, cI r10.key, cI r10.n, C.str x22, cV v12, cI r10.time, C.bool x23], oA v12 2 kI64 1 r10.prev]⟩) (fun (x22, x23) => Zia r10 x22 x23 = some r) ?_ ?_
 ·
  refine AW.seq ?_
  refine AW.cut (τ := Bool) (fun x20 => ⟨[(6, pt b1), (9, pt b13), (44, C.bool x20)], [oB b1 160 [cI 0, cI 0, cI 0, cI 0, cI 0, cI 0, C.str ByteArray.empty, cV s0, cI 0, C.bool false], oB b13 160 [cI r10.id, cI r10.room, cI r10.author, cI r10.kind, cI r10.key, cI r10.n, C.str r10.text, cV v12, cI r10.time, C.bool false], oA v12 2 kI64 1 r10.prev]⟩) (fun x20 => Zib r10 x20 = some r) ?_ ?_
  ·
   refine zw ?_
   refine cnd h (fun hb14 h => ?_) fun hb14 h => ?_
   ·
    refine zw ?_
    refine ob' h fun r15 g16 h => ?_
    refine Ops.ghd (ns := []) rfl rfl rfl rfl rfl rfl (Y24 ((Zi9 _ _ _).h _ g16) rfl rfl) ?_
    exact go
   refine zw ?_
   refine cnd h (fun hb17 h => ?_) fun hb17 h => ?_
   ·
    refine zw ?_
    refine ob' h fun r18 g19 h => ?_
    refine Ops.ghd (ns := []) rfl rfl rfl rfl hb17 rfl (Y24 ((Zi9 _ _ _).h _ g19) rfl rfl) ?_
    exact go
   exact go
  intro x20 h
  replace h : Zib r10 x20 = some r := h
  unfold Zib at h
  refine cnd h (fun hb21 h => ?_) fun hb21 h => ?_
  ·
   refine AW.ct hb21 rfl ?_
   refine zw ?_
   refine Ops.hd (ns := [1]) rfl rfl (Y1t (gs := [cI r10.id, cI r10.room, cI r10.author, cI r10.kind, cI r10.key, cI r10.n, C.str ByteArray.empty, cV v12, cI r10.time, C.bool false]) ld_9.h rfl rfl (One.val rfl) rfl rfl) ?_
   refine zw ?_
   refine Ops.hd (ns := [0]) rfl rfl (Y1t (gs := [cI r10.id, cI r10.room, cI r10.author, cI r10.kind, cI r10.key, cI r10.n, C.str ByteArray.empty, cV v12, cI r10.time, C.bool true]) ld_4.h rfl rfl (One.val rfl) rfl rfl) ?_
   exact go
  exact go
 rintro ⟨x22, x23⟩ h
 replace h : Zia r10 x22 x23 = some r := h
 unfold Zia at h
 refine zw ?_
 refine Ops.hd (ns := [0]) rfl rfl (Y1u (gs := [cI r10.id, cI r10.room, cI r10.author, cI r10.kind, cI r10.key, cI r10.n, C.str x22, cV v12, cI r10.time, C.bool x23]) Ycy.h rfl rfl rfl rfl rfl) ?_
 refine zw ?_
 refine AW.ret ?_
 rw [← Wj h]
 exact ⟨[C.agg [cI r10.id, cI r10.room, cI r10.author, cI r10.kind, cI r10.key, cI r10.n, C.str x22, cV v12, cI r10.time, C.bool x23]], _, Y21.refl _, (.cons (.cell (p := 0) rfl rfl Ycy.h rfl) .nil), [2], _, _, rfl, ⟨v12, rfl, rfl⟩⟩
instance Zid' (p0 : Y9b) (p1 : Int) (p2 : Int) : Sp Tryz.prog 116 [C.ip [cM Y9h 3 p0.hub.rooms, cM Y9e 2 p0.hub.stream, cM Y9t 1 p0.rooms], cI p1, cI p2] (Zic p0 p1 p2) (fun r => C.agg [cI r.event.id, cI r.event.room, cI r.event.author, cI r.event.kind, cI r.event.key, cI r.event.n, C.str r.event.text, cM kI64 1 r.event.prev, cI r.event.time, C.bool r.hidden]) := ⟨fun r h => Ok.freeze (Zid p0 p1 p2 r h) (by rintro c qs ⟨v24, rfl, rfl⟩; exact Frz.agg (fS (fS (fS (fS (fS (fS (fS (FrzL.cons (os := [_]) (Frz.arr) (fS (fS (FrzL.nil))))))))))))⟩

def Zie (l32 : List Y98) : Option (List Y98) := some l32
def Zif (p0 : Y9b) (p1 : List Int) (l16 : List Y98) (x17 : Int) : Option ((List Y98 × Int) ⊕ ((List Y98))) := cond (decide (x17 < (p1.length : Int))) ((getI p1 x17).bind fun e19 => (getI p0.hub.stream (IntKind.i64.wrap (e19 - 1))).bind fun e21 => (Zic p0 e21.room e21.id).bind fun r24 => (chk (decide ((l16.length + [r24].length) * 104 ≤ 140737488355328))).bind fun u29 => some (.inl ((l16 ++ [r24]), (IntKind.i64.wrap (x17 + 1))))) (some (.inr l16))
def Zig (p0 : Y9b) (p1 : List Int) : Option (List Y98) := (iter (fun z34 => Zif p0 p1 z34.1 z34.2) big (([] : List Y98), 0)).bind fun y35 => Zie y35
theorem Zih (p0 : Y9b) (p1 : List Int) (r : List Y98) (h : Zig p0 p1 = some r) : Ok Tryz.prog 123 [C.ip [cM Y9h 3 p0.hub.rooms, cM Y9e 2 p0.hub.stream, cM Y9t 1 p0.rooms], cM kI64 1 p1] [] (fun c qs => ∃ (v33 : Value), c = cV v33 ∧ qs = [Obj.deep v33 160 Y9u Y9v 10 r]) := by
 refine Ok.of_body (rs := [.tmp 4]) Tryz.func123 rfl rfl rfl rfl rfl fun X => ?_
 unfold Zig at h
 refine zw ?_
 refine Ops.h (ns := []) rfl rfl (Y8q (k := Y9u) (ob := Y9v) Yd4 rfl rfl rfl) ?_
 rintro _ _ ⟨b1, rfl, rfl⟩
 refine Ops.v rfl (Yr rfl rfl) ?_
 refine Ops.nil ?_
 refine AW.seq ?_
 refine AW.cut (τ := List Y98 × Value) (fun (l32, v31) => ⟨[(5, cV v31)], [Obj.deep v31 160 Y9u Y9v 10 l32]⟩) (fun (l32, v31) => Zie l32 = some r) ?_ ?_
 ·
  refine zw ?_
  refine AW.lp h (fun (l16, x17) (v15 : Value) => ⟨[(0, C.ip [cM Y9h 3 p0.hub.rooms, cM Y9e 2 p0.hub.stream, cM Y9t 1 p0.rooms]), (5, cV v15), (10, cM kI64 1 p1), (11, cI (p1.length : Int)), (12, cI x17)], [Obj.deep v15 160 Y9u Y9v 10 l16]⟩) (gb [0]) ?_
  rintro ⟨l16, x17⟩ v15 y41 h
  refine zw ?_
  refine cnd h (fun hb18 h => ?_) fun hb18 h => ?_
  ·
   refine AW.ct hb18 rfl ?_
   refine zw ?_
   refine oi h fun e19 g20 h => ?_
   refine zw ?_
   refine oi h fun e21 g22 h => ?_
   refine zw ?_
   refine Ops.h (ns := []) rfl rfl (Y1p (cs := [cI 0, cI 0]) Yb9 (Y43 rfl rfl) rfl) ?_
   rintro _ _ ⟨b23, rfl, rfl⟩
   refine Ops.hd (ns := [0]) rfl rfl (Y1u (gs := [cI e21.room, cI e21.id]) Ybe.h rfl rfl rfl rfl rfl) ?_
   refine zw ?_
   refine ob' h fun r24 g25 h => ?_
   refine Ops.h (ns := []) rfl rfl (Y23 (Zid _ _ _ _ g25) rfl rfl) ?_
   rintro _ _ ⟨_, ⟨v26, rfl, rfl⟩, rfl⟩
   refine Ops.h (ns := [0]) rfl rfl (Y8p (k := Y9u) (ob := Y9v) (e := r24) (u := v26) Yd4 (.agg rfl rfl .nil) rfl rfl rfl) ?_
   rintro _ _ ⟨b27, rfl, rfl⟩
   refine ob' h fun u29 c28 h => ?_
   refine Ops.h (ns := [2, 0]) rfl rfl (Y8r Yd4 rfl rfl (Wo (Y3u c28)) (Y3x (by decide) c28) rfl) ?_
   rintro _ _ ⟨v30, rfl, rfl⟩
   exact go
  exact go
 rintro ⟨l32, v31⟩ h
 replace h : Zie l32 = some r := h
 unfold Zie at h
 refine zw ?_
 refine AW.ret ?_
 rw [← Wj h]
 exact ⟨[cV v31], _, Y21.refl _, (.cons (.tmp rfl) .nil), [0], _, _, rfl, ⟨v31, rfl, rfl⟩⟩
instance Zih' (p0 : Y9b) (p1 : List Int) : Sp Tryz.prog 123 [C.ip [cM Y9h 3 p0.hub.rooms, cM Y9e 2 p0.hub.stream, cM Y9t 1 p0.rooms], cM kI64 1 p1] (Zig p0 p1) (fun r => cM Y9p 10 r) := ⟨fun r h => Ok.freeze (Zih p0 p1 r h) (by rintro c qs ⟨v33, rfl, rfl⟩; exact (Frz.deep Ye1))⟩

def Zii (r6 : List Int) (s8 : List Int) (l18 : List Y98) (x22 : Int) : Option Y99 := some (Y99.mk l18 x22 ((s8.length : Int) == (r6.length : Int)) 0)
def Zij (r3 : Y9b × Bool) (r6 : List Int) (s8 : List Int) (l18 : List Y98) : Option Y99 := cond (decide ((s8.length : Int) > 0)) ((getI s8 (IntKind.i64.wrap ((s8.length : Int) - 1))).bind fun e20 => Zii r6 s8 l18 e20) (Zii r6 s8 l18 (r3.1.hub.stream.length : Int))
def Zik (p0 : Y94) (p1 : Int) (p2 : Int) (p3 : Int) (p4 : Int) : Option Y99 := (Zg1 p0 p1 p2 p3 p4).bind fun r3 => cond r3.2 ((Zi1 r3.1 p1 p2 (IntKind.i64.wrap (p3 + 1)) 120).bind fun r6 => (Y28 r6 0 (if p4 < (r6.length : Int) then p4 else (r6.length : Int))).bind fun s8 => (Zig r3.1 s8).bind fun r10 => Zij r3 r6 s8 r10) (some (Y99.mk [] 0 false 1))
theorem Zil (p0 : Y94) (p1 : Int) (p2 : Int) (p3 : Int) (p4 : Int) (r : Y99) (h : Zik p0 p1 p2 p3 p4 = some r) : Ok Tryz.prog 60 [C.agg [cM Y9h 3 p0.rooms, cM Y9e 2 p0.stream], cI p1, cI p2, cI p3, cI p4] [] (fun c qs => ∃ (v23 : Value), c = C.agg [cV v23, cI r.at_, C.bool r.end_, cI r.code] ∧ qs = [Obj.deep v23 160 Y9u Y9v 10 r.events]) := by
 refine Ok.of_body (rs := [.cell 10 86]) Tryz.func60 rfl rfl rfl rfl rfl fun X => ?_
 unfold Zik at h
 refine zw ?_
 refine ox fun b1 => ?_
 refine Ops.h (ns := []) rfl rfl (Y1p (cs := [cV s0, cI 0, C.bool false, cI 0]) Ycs (Y43 rfl rfl) rfl) ?_
 rintro _ _ ⟨b2, rfl, rfl⟩
 refine zw ?_
 refine ob' h fun r3 g4 h => ?_
 refine Ops.h (ns := []) rfl rfl (Y23 (Zg2 _ _ _ _ _ _ g4) rfl rfl) ?_
 rintro _ _ ⟨_, ⟨hb5, rfl, rfl⟩ | ⟨hb5, rfl, rfl⟩, rfl⟩
 ·
  replace h := Y3s hb5 h
  refine zw ?_
  refine AW.cond rfl (fun hn => absurd ((Y3v hb5).symm.trans hn) (by decide)) (fun _ => ?_)
  refine zw ?_
  refine oc h fun r6 g7 h => ?_
  refine zw ?_
  refine Ops.v rfl (Y2g rfl rfl rfl) ?_
  refine ob' h fun s8 g9 h => ?_
  refine Ops.v rfl (Y2m Y9w.h rfl rfl g9 rfl) ?_
  refine Ops.v rfl (Yr rfl rfl) ?_
  refine Ops.nil ?_
  refine AW.seq ?_
  refine AW.cut (τ := List Y98 × Nat × Value) (fun (l18, b16, v17) => ⟨[(10, pt b2), (14, cM kI64 1 s8), (15, pt b16)], [oB b2 86 [cV s0, cI 0, C.bool false, cI 0], oB b16 86 [cV v17, cI (r3.1.hub.stream.length : Int), C.bool ((s8.length : Int) == (r6.length : Int)), cI 0], Obj.deep v17 160 Y9u Y9v 10 l18]⟩) (fun (l18, b16, v17) => Zij r3 r6 s8 l18 = some r) ?_ ?_
  ·
   refine AW.regionD (L := [7]) (Lt := [16]) (k := .light 0 false (.light 1 false (.light 3 false (.light 4 false (.light 5 false (.light 6 false (.light 7 true (.light 8 false (.light 9 false (.light 10 false (.light 11 false (.light 12 false (.light 13 false (.two 2 15 (.light 14 false (.one 15 (.late 16 (.done)))) (.one 2 (.light 14 false (.late 16 (.done)))))))))))))))))) (ns := [0, 0]) (by kernel_rfl) (by kernel_rfl) (by kernel_rfl) (by kernel_rfl) rfl ?_
   refine zw ?_
   refine ob' h fun r10 g11 h => ?_
   refine OpsD.two ?_ ?_
   ·
    refine Y3o.h (ns := []) rfl rfl rfl (Y23 (Zih _ _ _ g11) rfl rfl) ?_
    rintro _ _ ⟨_, ⟨v12, rfl, rfl⟩, rfl⟩
    refine OpsD.learn (Sim.deep_one (p := 2) rfl) fun n14 => ?_
    refine OpsD.v rfl rfl (Y39 (ds := [cV v12, cI (r3.1.hub.stream.length : Int), C.bool ((s8.length : Int) == (r6.length : Int)), cI 0]) Yct Ycs (Y43 rfl rfl) (.one rfl (One.val n14) rfl rfl (.one rfl (One.val rfl) rfl rfl (.one rfl (One.val rfl) rfl rfl .nil))) rfl) ?_
    refine OpsD.one ?_
    refine Y3o.h (ns := []) rfl rfl rfl (Y1p (cs := [cV s0, cI 0, C.bool false, cI 0]) Ycs (Y43 rfl rfl) rfl) ?_
    rintro _ _ ⟨b13, rfl, rfl⟩
    refine OpsD.late (ns := [2]) rfl rfl rfl (Y1u (gs := [cV v12, cI (r3.1.hub.stream.length : Int), C.bool ((s8.length : Int) == (r6.length : Int)), cI 0]) Ycu.h rfl rfl rfl rfl rfl) ?_
    rintro _ _ ⟨rfl, rfl⟩
    exact go
   refine Y3o.h (ns := []) rfl rfl rfl (Y1p (cs := [cV s0, cI 0, C.bool false, cI 0]) Ycs (Y43 rfl rfl) rfl) ?_
   rintro _ _ ⟨b13, rfl, rfl⟩
   refine OpsD.one ?_
   refine Y3o.h (ns := []) rfl rfl rfl (Y23 (Zih _ _ _ g11) rfl rfl) ?_
   rintro _ _ ⟨_, ⟨v12, rfl, rfl⟩, rfl⟩
   refine OpsD.learn (Sim.deep_one (p := 2) rfl) fun n15 => ?_
   refine OpsD.v rfl rfl (Y39 (ds := [cV v12, cI (r3.1.hub.stream.length : Int), C.bool ((s8.length : Int) == (r6.length : Int)), cI 0]) Yct Ycs (Y43 rfl rfl) (.one rfl (One.val n15) rfl rfl (.one rfl (One.val rfl) rfl rfl (.one rfl (One.val rfl) rfl rfl .nil))) rfl) ?_
   refine OpsD.late (ns := [3]) rfl rfl rfl (Y1u (gs := [cV v12, cI (r3.1.hub.stream.length : Int), C.bool ((s8.length : Int) == (r6.length : Int)), cI 0]) Ycu.h rfl rfl rfl rfl rfl) ?_
   rintro _ _ ⟨rfl, rfl⟩
   exact go
  rintro ⟨l18, b16, v17⟩ h
  replace h : Zij r3 r6 s8 l18 = some r := h
  unfold Zij at h
  refine AW.seq ?_
  refine AW.cut (τ := Int) (fun x22 => ⟨[(10, pt b2), (15, pt b16)], [oB b2 86 [cV s0, cI 0, C.bool false, cI 0], oB b16 86 [cV v17, cI x22, C.bool ((s8.length : Int) == (r6.length : Int)), cI 0], Obj.deep v17 160 Y9u Y9v 10 l18]⟩) (fun x22 => Zii r6 s8 l18 x22 = some r) ?_ ?_
  ·
   refine zw ?_
   refine cnd h (fun hb19 h => ?_) fun hb19 h => ?_
   ·
    refine AW.ct hb19 rfl ?_
    refine zw ?_
    refine oi h fun e20 g21 h => ?_
    refine zw ?_
    refine Ops.hd (ns := [1]) rfl rfl (Y1t (gs := [cV v17, cI e20, C.bool ((s8.length : Int) == (r6.length : Int)), cI 0]) ld_2.h rfl rfl (One.val rfl) rfl rfl) ?_
    exact go
   exact go
  intro x22 h
  replace h : Zii r6 s8 l18 x22 = some r := h
  unfold Zii at h
  refine zw ?_
  refine Ops.hd (ns := [0]) rfl rfl (Y1u (gs := [cV v17, cI x22, C.bool ((s8.length : Int) == (r6.length : Int)), cI 0]) Ycu.h rfl rfl rfl rfl rfl) ?_
  refine zw ?_
  refine AW.ret ?_
  rw [← Wj h]
  exact ⟨[C.agg [cV v17, cI x22, C.bool ((s8.length : Int) == (r6.length : Int)), cI 0]], _, Y21.refl _, (.cons (.cell (p := 0) rfl rfl Ycu.h rfl) .nil), [2], _, _, rfl, ⟨v17, rfl, rfl⟩⟩
 replace h := Y3t hb5 h
 refine zw ?_
 refine AW.cond rfl (fun _ => ?_) (fun hn => absurd ((Y3w hb5).symm.trans hn) (by decide))
 refine zw ?_
 refine Ops.v rfl (Y39 (ds := [cV s0, cI 0, C.bool false, cI 1]) Yct Ycs (Y43 rfl rfl) (.one rfl (One.val rfl) rfl rfl .nil) rfl) ?_
 refine Ops.hd (ns := [0]) rfl rfl (Y1u (gs := [cV s0, cI 0, C.bool false, cI 1]) Ycu.h rfl rfl rfl rfl rfl) ?_
 refine zw ?_
 refine AW.ret ?_
 rw [← Wj h]
 exact ⟨[C.agg [cV s0, cI 0, C.bool false, cI 1]], _, Y21.nilD 160 Y9u Y9v 10, (.cons (.cell (p := 1) rfl rfl Ycu.h rfl) .nil), [0], _, _, rfl, ⟨s0, rfl, rfl⟩⟩
instance Zil' (p0 : Y94) (p1 : Int) (p2 : Int) (p3 : Int) (p4 : Int) : Sp Tryz.prog 60 [C.agg [cM Y9h 3 p0.rooms, cM Y9e 2 p0.stream], cI p1, cI p2, cI p3, cI p4] (Zik p0 p1 p2 p3 p4) (fun r => C.agg [cM Y9p 10 r.events, cI r.at_, C.bool r.end_, cI r.code]) := ⟨fun r h => Ok.freeze (Zil p0 p1 p2 p3 p4 r h) (by rintro c qs ⟨v23, rfl, rfl⟩; exact Frz.agg (FrzL.cons (os := [_]) ((Frz.deep Ye1)) (fS (fS (fS (FrzL.nil))))))⟩

def Zim : Option Bool := some true
def Zin (p0 : List Int) (p1 : List Int) (x8 : Int) : Option (Int ⊕ (Bool ⊕ Unit)) := cond (decide (x8 < (p0.length : Int))) ((getI p0 x8).bind fun e10 => (getI p1 x8).bind fun e12 => cond (e10 != e12) (some (.inr (.inl false))) (some (.inl (IntKind.i64.wrap (x8 + 1))))) (some (.inr (.inr ())))
def Zio (p0 : List Int) (p1 : List Int) : Option Bool := cond ((p0.length : Int) != (p1.length : Int)) (some false) ((iter (Zin p0 p1) big 0).bind (fun z16 => match z16 with | .inl y15 => some y15 | .inr () => Zim))
instance Zip (p0 : List Int) (p1 : List Int) : Sp Tryz.prog 35 [cM kI64 1 p0, cM kI64 1 p1] (Zio p0 p1) C.bool := sp Tryz.func35 rfl rfl fun r X h => by
 unfold Zio at h
 refine zw ?_
 refine cnd h (fun hb1 h => go) fun hb1 h => ?_
 refine AW.cf hb1 rfl ?_
 refine zw ?_
 refine AW.lp (v := ()) h (fun x8 (_ : Unit) => ⟨[(0, cM kI64 1 p0), (1, cM kI64 1 p1), (5, cI x8)], []⟩) (gb []) ?_
 rintro x8 _ y22 h
 refine zw ?_
 refine cnd h (fun hb9 h => ?_) fun hb9 h => ?_
 ·
  refine AW.ct hb9 rfl ?_
  refine zw ?_
  refine rD [] [3,7] [] [0,4,8,13,16,20,24,29,32] ?_
  exact go
 exact go

def Ziq (p0 : Y90) (p1 : Y90) : Option Bool := cond (p0.id != p1.id) (some false) (cond (p0.room != p1.room) (some false) (cond (p0.author != p1.author) (some false) (cond (p0.kind != p1.kind) (some false) (cond (p0.key != p1.key) (some false) (cond (p0.n != p1.n) (some false) (cond (p0.text.toList == p1.text.toList) ((Zio p0.prev p1.prev).bind fun r10 => cond r10 (cond (p0.time != p1.time) (some false) (some true)) (some false)) (some false)))))))
instance Zir (p0 : Y90) (p1 : Y90) : Sp Tryz.prog 173 [C.agg [cI p0.id, cI p0.room, cI p0.author, cI p0.kind, cI p0.key, cI p0.n, C.str p0.text, cM kI64 1 p0.prev, cI p0.time], C.agg [cI p1.id, cI p1.room, cI p1.author, cI p1.kind, cI p1.key, cI p1.n, C.str p1.text, cM kI64 1 p1.prev, cI p1.time]] (Ziq p0 p1) C.bool := sp Tryz.func173 rfl rfl fun r X h => go

def Zis (p0 : Y98) (p1 : Y98) : Option Bool := (Ziq p0.event p1.event).bind fun r3 => cond r3 (cond (p0.hidden == p1.hidden) (some true) (some false)) (some false)
instance Zit (p0 : Y98) (p1 : Y98) : Sp Tryz.prog 124 [C.agg [cI p0.event.id, cI p0.event.room, cI p0.event.author, cI p0.event.kind, cI p0.event.key, cI p0.event.n, C.str p0.event.text, cM kI64 1 p0.event.prev, cI p0.event.time, C.bool p0.hidden], C.agg [cI p1.event.id, cI p1.event.room, cI p1.event.author, cI p1.event.kind, cI p1.event.key, cI p1.event.n, C.str p1.event.text, cM kI64 1 p1.event.prev, cI p1.event.time, C.bool p1.hidden]] (Zis p0 p1) C.bool := sp Tryz.func124 rfl rfl fun r X h => by
 unfold Zis at h
 refine zw ?_
 refine ox fun b1 => ?_
 refine ox fun b2 => ?_
 refine zw ?_
 refine oc h fun r3 g4 h => ?_
 refine zw ?_
 refine cnd h (fun hb5 h => ?_) fun hb5 h => ?_
 ·
  refine AW.cond rfl (fun hn => absurd ((Y3v hb5).symm.trans hn) (by decide)) (fun _ => ?_)
  refine zw ?_
  refine Ops.v rfl (Y11 un_4 rfl rfl rfl) ?_
  exact go
 exact go

def Ziu : Option Bool := some true
def Ziv (p0 : List Y98) (p1 : List Y98) (x10 : Int) : Option (Int ⊕ (Bool ⊕ Unit)) := cond (decide (x10 < (p0.length : Int))) ((getI p0 x10).bind fun e12 => (getI p1 x10).bind fun e14 => (Zis e12 e14).bind fun r16 => cond r16 (some (.inl (IntKind.i64.wrap (x10 + 1)))) (some (.inr (.inl false)))) (some (.inr (.inr ())))
def Ziw (p0 : List Y98) (p1 : List Y98) : Option Bool := cond ((p0.length : Int) != (p1.length : Int)) (some false) ((iter (Ziv p0 p1) big 0).bind (fun z20 => match z20 with | .inl y19 => some y19 | .inr () => Ziu))
instance Zix (p0 : List Y98) (p1 : List Y98) : Sp Tryz.prog 56 [cM Y9p 10 p0, cM Y9p 10 p1] (Ziw p0 p1) C.bool := sp Tryz.func56 rfl rfl fun r X h => by
 unfold Ziw at h
 refine zw ?_
 refine cnd h (fun hb1 h => go) fun hb1 h => ?_
 refine AW.cf hb1 rfl ?_
 refine zw ?_
 refine AW.lp (v := ()) h (fun x10 (_ : Unit) => ⟨[(0, cM Y9p 10 p0), (1, cM Y9p 10 p1), (5, cI x10)], []⟩) (gb []) ?_
 rintro x10 _ y26 h
 refine zw ?_
 refine cnd h (fun hb11 h => ?_) fun hb11 h => ?_
 ·
  refine AW.ct hb11 rfl ?_
  refine zw ?_
  refine rD [] [3,7] [] [0,4,8,13,16,20,24,29,34,36] ?_
  exact go
 exact go

def Ziy (p0 : Y99) (p1 : Y99) : Option Bool := (Ziw p0.events p1.events).bind fun r3 => cond r3 (cond (p0.at_ != p1.at_) (some false) (cond (p0.end_ == p1.end_) (cond (p0.code != p1.code) (some false) (some true)) (some false))) (some false)
instance Ziz (p0 : Y99) (p1 : Y99) : Sp Tryz.prog 61 [C.agg [cM Y9p 10 p0.events, cI p0.at_, C.bool p0.end_, cI p0.code], C.agg [cM Y9p 10 p1.events, cI p1.at_, C.bool p1.end_, cI p1.code]] (Ziy p0 p1) C.bool := sp Tryz.func61 rfl rfl fun r X h => by
 unfold Ziy at h
 refine zw ?_
 refine ox fun b1 => ?_
 refine ox fun b2 => ?_
 refine zw ?_
 refine oc h fun r3 g4 h => ?_
 refine zw ?_
 refine cnd h (fun hb5 h => ?_) fun hb5 h => ?_
 ·
  refine AW.cond rfl (fun hn => absurd ((Y3v hb5).symm.trans hn) (by decide)) (fun _ => ?_)
  refine zw ?_
  refine cnd h (fun hb6 h => go) fun hb6 h => ?_
  refine AW.cf hb6 rfl ?_
  refine zw ?_
  refine Ops.v rfl (Y11 un_4 rfl rfl rfl) ?_
  exact go
 exact go

def Zj0 : Option Bool := some true
def Zj1 (p0 : List Y90) (p1 : List Y90) (x10 : Int) : Option (Int ⊕ (Bool ⊕ Unit)) := cond (decide (x10 < (p0.length : Int))) ((getI p0 x10).bind fun e12 => (getI p1 x10).bind fun e14 => (Ziq e12 e14).bind fun r16 => cond r16 (some (.inl (IntKind.i64.wrap (x10 + 1)))) (some (.inr (.inl false)))) (some (.inr (.inr ())))
def Zj2 (p0 : List Y90) (p1 : List Y90) : Option Bool := cond ((p0.length : Int) != (p1.length : Int)) (some false) ((iter (Zj1 p0 p1) big 0).bind (fun z20 => match z20 with | .inl y19 => some y19 | .inr () => Zj0))
instance Zj3 (p0 : List Y90) (p1 : List Y90) : Sp Tryz.prog 209 [cM Y9c 9 p0, cM Y9c 9 p1] (Zj2 p0 p1) C.bool := sp Tryz.func209 rfl rfl fun r X h => by
 unfold Zj2 at h
 refine zw ?_
 refine cnd h (fun hb1 h => go) fun hb1 h => ?_
 refine AW.cf hb1 rfl ?_
 refine zw ?_
 refine AW.lp (v := ()) h (fun x10 (_ : Unit) => ⟨[(0, cM Y9c 9 p0), (1, cM Y9c 9 p1), (5, cI x10)], []⟩) (gb []) ?_
 rintro x10 _ y26 h
 refine zw ?_
 refine cnd h (fun hb11 h => ?_) fun hb11 h => ?_
 ·
  refine AW.ct hb11 rfl ?_
  refine zw ?_
  refine rD [] [3,7] [] [0,4,8,13,16,20,24,29,34,36] ?_
  exact go
 exact go

def Zj4 (p0 : Y93) (p1 : Y93) : Option Bool := cond (p0.room != p1.room) (some false) ((Zj2 p0.events p1.events).bind fun r4 => cond r4 ((Zj2 p0.parked p1.parked).bind fun r7 => cond r7 (some true) (some false)) (some false))
instance Zj5 (p0 : Y93) (p1 : Y93) : Sp Tryz.prog 145 [C.agg [cI p0.room, cM Y9c 9 p0.events, cM Y9c 9 p0.parked], C.agg [cI p1.room, cM Y9c 9 p1.events, cM Y9c 9 p1.parked]] (Zj4 p0 p1) C.bool := sp Tryz.func145 rfl rfl fun r X h => go

def Zj6 : Option Bool := some true
def Zj7 (p0 : List Y93) (p1 : List Y93) (x10 : Int) : Option (Int ⊕ (Bool ⊕ Unit)) := cond (decide (x10 < (p0.length : Int))) ((getI p0 x10).bind fun e12 => (getI p1 x10).bind fun e14 => (Zj4 e12 e14).bind fun r16 => cond r16 (some (.inl (IntKind.i64.wrap (x10 + 1)))) (some (.inr (.inl false)))) (some (.inr (.inr ())))
def Zj8 (p0 : List Y93) (p1 : List Y93) : Option Bool := cond ((p0.length : Int) != (p1.length : Int)) (some false) ((iter (Zj7 p0 p1) big 0).bind (fun z20 => match z20 with | .inl y19 => some y19 | .inr () => Zj6))
instance Zj9 (p0 : List Y93) (p1 : List Y93) : Sp Tryz.prog 77 [cM Y9h 3 p0, cM Y9h 3 p1] (Zj8 p0 p1) C.bool := sp Tryz.func77 rfl rfl fun r X h => by
 unfold Zj8 at h
 refine zw ?_
 refine cnd h (fun hb1 h => go) fun hb1 h => ?_
 refine AW.cf hb1 rfl ?_
 refine zw ?_
 refine AW.lp (v := ()) h (fun x10 (_ : Unit) => ⟨[(0, cM Y9h 3 p0), (1, cM Y9h 3 p1), (5, cI x10)], []⟩) (gb []) ?_
 rintro x10 _ y26 h
 refine zw ?_
 refine cnd h (fun hb11 h => ?_) fun hb11 h => ?_
 ·
  refine AW.ct hb11 rfl ?_
  refine zw ?_
  refine rD [] [3,7] [] [0,4,8,13,16,20,24,29,34,36] ?_
  exact go
 exact go

def Zja (p0 : Y92) (p1 : Y92) : Option Bool := cond (p0.room != p1.room) (some false) (cond (p0.id != p1.id) (some false) (some true))
instance Zjb (p0 : Y92) (p1 : Y92) : Sp Tryz.prog 118 [C.agg [cI p0.room, cI p0.id], C.agg [cI p1.room, cI p1.id]] (Zja p0 p1) C.bool := sp Tryz.func118 rfl rfl fun r X h => go

def Zjc : Option Bool := some true
def Zjd (p0 : List Y92) (p1 : List Y92) (x10 : Int) : Option (Int ⊕ (Bool ⊕ Unit)) := cond (decide (x10 < (p0.length : Int))) ((getI p0 x10).bind fun e12 => (getI p1 x10).bind fun e14 => (Zja e12 e14).bind fun r16 => cond r16 (some (.inl (IntKind.i64.wrap (x10 + 1)))) (some (.inr (.inl false)))) (some (.inr (.inr ())))
def Zje (p0 : List Y92) (p1 : List Y92) : Option Bool := cond ((p0.length : Int) != (p1.length : Int)) (some false) ((iter (Zjd p0 p1) big 0).bind (fun z20 => match z20 with | .inl y19 => some y19 | .inr () => Zjc))
instance Zjf (p0 : List Y92) (p1 : List Y92) : Sp Tryz.prog 51 [cM Y9e 2 p0, cM Y9e 2 p1] (Zje p0 p1) C.bool := sp Tryz.func51 rfl rfl fun r X h => by
 unfold Zje at h
 refine zw ?_
 refine cnd h (fun hb1 h => go) fun hb1 h => ?_
 refine AW.cf hb1 rfl ?_
 refine zw ?_
 refine AW.lp (v := ()) h (fun x10 (_ : Unit) => ⟨[(0, cM Y9e 2 p0), (1, cM Y9e 2 p1), (5, cI x10)], []⟩) (gb []) ?_
 rintro x10 _ y26 h
 refine zw ?_
 refine cnd h (fun hb11 h => ?_) fun hb11 h => ?_
 ·
  refine AW.ct hb11 rfl ?_
  refine zw ?_
  refine rD [] [3,7] [] [0,4,8,13,16,20,24,29,34,36] ?_
  exact go
 exact go

def Zjg (p0 : Y94) (p1 : Y94) : Option Bool := (Zj8 p0.rooms p1.rooms).bind fun r3 => cond r3 ((Zje p0.stream p1.stream).bind fun r6 => cond r6 (some true) (some false)) (some false)
instance Zjh (p0 : Y94) (p1 : Y94) : Sp Tryz.prog 18 [C.agg [cM Y9h 3 p0.rooms, cM Y9e 2 p0.stream], C.agg [cM Y9h 3 p1.rooms, cM Y9e 2 p1.stream]] (Zjg p0 p1) C.bool := sp Tryz.func18 rfl rfl fun r X h => go

def Zji (x12 : ByteArray) : Option ByteArray := (chk (decide ((ByteArray.mk #[109]).size + x12.size ≤ 9223372036854775807))).bind fun u14 => some ((ByteArray.mk #[109]) ++ x12)
def Zjj (x6 : Int) (x7 : ByteArray) : Option ((Int × ByteArray) ⊕ (ByteArray)) := cond (decide (x6 > 0)) ((chk (decide ((Y6x [(IntKind.u8.wrap (IntKind.i64.wrap (48 + (Int.tmod x6 10))))]).size + x7.size ≤ 9223372036854775807))).bind fun u11 => some (.inl ((IntKind.i64.wrap (Int.tdiv x6 10)), ((Y6x [(IntKind.u8.wrap (IntKind.i64.wrap (48 + (Int.tmod x6 10))))]) ++ x7)))) (some (.inr x7))
def Zjk (p0 : Int) : Option ByteArray := cond (decide (p0 ≤ 0)) (some (ByteArray.mk #[109, 48])) ((iter (fun z15 => Zjj z15.1 z15.2) big (p0, ByteArray.empty)).bind fun y16 => Zji y16)
instance Zjl (p0 : Int) : Sp Tryz.prog 125 [cI p0] (Zjk p0) C.str := sp Tryz.func125 rfl rfl fun r X h => by
 unfold Zjk at h
 refine zw ?_
 refine cnd h (fun hb1 h => go) fun hb1 h => ?_
 refine AW.cf hb1 rfl ?_
 refine AW.skip ?_
 refine AW.seq ?_
 refine AW.region ?_
 refine Ops.v rfl (Yr rfl rfl) ?_
 refine Ops.nil ?_
 refine AW.seq ?_
 refine AW.cut (τ := ByteArray) (fun x12 => ⟨[(3, C.str x12)], []⟩) (fun x12 => Zji x12 = some r) ?_ ?_
 ·
  refine zw ?_
  refine AW.lp (v := ()) h (fun (x6, x7) (_ : Unit) => ⟨[(0, cI x6), (3, C.str x7)], []⟩) (gb []) ?_
  rintro ⟨x6, x7⟩ _ y22 h
  refine zw ?_
  refine cnd h (fun hb8 h => ?_) fun hb8 h => ?_
  ·
   refine AW.ct hb8 rfl ?_
   refine zw ?_
   refine Ops.v rfl (Yw rfl rfl (by decide) rfl) ?_
   refine zw ?_
   refine Ops.v rfl (Y12 un_3 un_5 rfl rfl) ?_
   refine Ops.h (ns := []) rfl rfl (Y3a (k := kU8) (ys := [(IntKind.u8.wrap (IntKind.i64.wrap (48 + (Int.tmod x6 10))))]) Ye5 (.one rfl (One.val rfl) rfl rfl .nil) rfl rfl rfl) ?_
   rintro _ _ ⟨b9, rfl, rfl⟩
   refine Ops.v rfl (Y71 (p := 0) Ye6 un_9 (fun _ => rfl) rfl rfl rfl) ?_
   refine zw ?_
   refine ob' h fun u11 c10 h => ?_
   refine Ops.v rfl (Y72 rfl rfl (Wo (Y3u c10)) rfl) ?_
   refine zw ?_
   refine Ops.v rfl (Yx rfl rfl (by decide) rfl) ?_
   exact go
  exact go
 intro x12 h
 replace h : Zji x12 = some r := h
 unfold Zji at h
 refine zw ?_
 refine ob' h fun u14 c13 h => ?_
 refine Ops.v rfl (Y72 rfl rfl (Wo (Y3u c13)) rfl) ?_
 exact go

end Go.Proofs.YtbgichfjcnibpaaGreat
