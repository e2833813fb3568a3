/- Printed by gen.py: plain functions for Go functions, and that the walks keep to them. -/
import Derived.Test.YtmaefakalikkiaaGreatKQ4
set_option autoImplicit false
set_option linter.unusedVariables false
set_option linter.unusedSimpArgs false
set_option maxHeartbeats 8000000
set_option maxRecDepth 100000
namespace Go.Proofs.YtmaefakalikkiaaGreat
open Go Go.Abs
attribute [local irreducible] AW Ops OpsD Y3z VoK HoK GhF UsC Go.Abs.Fin PkK LenT LenL Y9k BldK FzK FzLK
def Zgx (l20 : List (List Ya0)) : Option (List (List Ya0)) := some l20
def Zgy (p0 : Ya4) (p1 : List Int) (l10 : List (List Ya0)) (x11 : Int) : Option ((List (List Ya0) × Int) ⊕ ((List (List Ya0)))) := cond (decide (x11 < (p1.length : Int))) ((getI p1 x11).bind fun e13 => (chk (decide ((l10.length + [(Option.getD (mget p0.after e13) ([] : List Ya0))].length) * 24 ≤ 140737488355328))).bind fun u17 => some (.inl ((l10 ++ [(Option.getD (mget p0.after e13) ([] : List Ya0))]), (IntKind.i64.wrap (x11 + 1))))) (some (.inr l10))
def Zgz (p0 : Ya4) (p1 : List Int) : Option (List (List Ya0)) := (iter (fun z22 => Zgy p0 p1 z22.1 z22.2) big (([] : List (List Ya0)), 0)).bind fun y23 => Zgx y23
instance Zh0 (p0 : Ya4) (p1 : List Int) : SpO Tryz.prog 255 (Zgz p0 p1) (.d [C.ip [cI p0.graph.room, cM Ya6 9 p0.graph.events, cM Ya6 9 p0.graph.parked, C.imap .i64 Yak p0.depth, C.imap .i64 Yal p0.before, C.imap .i64 Yal p0.after, C.imap .i64 Yak p0.refused], cM kI64 1 p1] [] fun r => .x fun (v21 : Value) => .d (cV v21) [oA v21 29 Yaf 1 r]) := ⟨so Tryz.func255 rfl rfl fun r X h => gh (.q 2 (.c1 (fun l20 => .x fun v19 => .d [(5, cV v19)] [oA v19 29 Yaf 1 l20]) [] [] (.l2 (fun l10 x11 => .x fun v9 => .d [(5, cV v9), (11, cI x11)] [oA v9 29 Yaf 1 l10]) [0,9,10] [] .z) .z))⟩
instance Zh0' (p0 : Ya4) (p1 : List Int) : Sp Tryz.prog 255 [C.ip [cI p0.graph.room, cM Ya6 9 p0.graph.events, cM Ya6 9 p0.graph.parked, C.imap .i64 Yak p0.depth, C.imap .i64 Yal p0.before, C.imap .i64 Yal p0.after, C.imap .i64 Yak p0.refused], cM kI64 1 p1] (Zgz p0 p1) (fun r => cM Yaf 1 r) := ⟨fun r h => Ok.freeze ((Zh0 p0 p1).h r h) (by rintro c qs ⟨v21, rfl, rfl⟩; exact Frz.arr)⟩

def Zh1 (l205 : List Ya0) : Option (List Ya0) := some l205
def Zh2 (x194 : Int) (l204 : List Ya0) : Option ((List Ya0 × Int) ⊕ ((List Ya0))) := some (.inl (l204, (IntKind.i64.wrap (x194 + 1))))
def Zh3 (p0 : Ya4) (r176 : List Y9v) (l193 : List Ya0) (x194 : Int) : Option ((List Ya0 × Int) ⊕ ((List Ya0))) := cond (decide (x194 < (r176.length : Int))) ((getI r176 x194).bind fun e196 => (Zdh p0.graph l193 e196).bind fun r199 => cond (r199 == 0) ((Zdt l193 (Ya0.mk e196.kind e196.key e196.id)).bind fun r202 => Zh2 x194 r202) (Zh2 x194 l193)) (some (.inr l193))
def Zh4 (p0 : Ya4) (l37 : List Ya0) (l175 : List Y9v) : Option (List Ya0) := (Y8c (fun z1 z2 => Ze3 z1 z2 p0) l175).bind fun r176 => (iter (fun z206 => Zh3 p0 r176 z206.1 z206.2) big (l37, 0)).bind fun y207 => Zh1 y207
def Zh5 (x113 : Int) (l172 : List Y9v) (m173 : List (Int × Bool)) : Option ((List Y9v × (List (Int × Bool)) × Int) ⊕ ((List Y9v))) := some (.inl (l172, m173, (IntKind.i64.wrap (x113 + 1))))
def Zh6 (x145 : Int) (l169 : List Y9v) (m170 : List (Int × Bool)) : Option ((List Y9v × (List (Int × Bool)) × Int) ⊕ ((List Y9v × (List (Int × Bool))))) := some (.inl (l169, m170, (IntKind.i64.wrap (x145 + 1))))
def Zh7 (l143 : List Y9v) (m144 : List (Int × Bool)) (x145 : Int) (e147 : Ya0) (x155 : Int) (x156 : Int) (x157 : Int) (x158 : Int) (x159 : Int) (x160 : Int) (x161 : ByteArray) (l162 : List Int) (x163 : Int) : Option ((List Y9v × (List (Int × Bool)) × Int) ⊕ ((List Y9v × (List (Int × Bool))))) := (chk (decide ((l143.length + [(Y9v.mk x155 x156 x157 x158 x159 x160 x161 l162 x163)].length) * 96 ≤ 140737488355328))).bind fun u166 => Zh6 x145 (l143 ++ [(Y9v.mk x155 x156 x157 x158 x159 x160 x161 l162 x163)]) (mset m144 e147.id true)
def Zh8 (p0 : Ya4) (e115 : List Ya0) (l143 : List Y9v) (m144 : List (Int × Bool)) (x145 : Int) : Option ((List Y9v × (List (Int × Bool)) × Int) ⊕ ((List Y9v × (List (Int × Bool))))) := cond (decide (x145 < (e115.length : Int))) ((getI e115 x145).bind fun e147 => cond (Option.getD (mget m144 e147.id) false) (Zh6 x145 l143 m144) ((Zbz p0.graph e147.id).bind fun r151 => Zh7 l143 m144 x145 e147 r151.1.id r151.1.room r151.1.author r151.1.kind r151.1.key r151.1.n r151.1.text r151.1.prev r151.1.time)) (some (.inr (l143, m144)))
def Zh9 (p0 : Ya4) (p1 : List (List Ya0)) (l111 : List Y9v) (m112 : List (Int × Bool)) (x113 : Int) : Option ((List Y9v × (List (Int × Bool)) × Int) ⊕ ((List Y9v))) := cond (decide (x113 < (p1.length : Int))) ((getI p1 x113).bind fun e115 => (iter (fun z208 => Zh8 p0 e115 z208.1 z208.2.1 z208.2.2) big (l111, m112, 0)).bind fun (y209, y210) => Zh5 x113 y209 y210) (some (.inr l111))
def Zha (p0 : Ya4) (p1 : List (List Ya0)) (l37 : List Ya0) (m49 : List (Int × Bool)) : Option (List Ya0) := (iter (fun z211 => Zh9 p0 p1 z211.1 z211.2.1 z211.2.2) big (([] : List Y9v), m49, 0)).bind fun y212 => Zh4 p0 l37 y212
def Zhb (l37 : List Ya0) (m43 : List (Int × Bool)) (x44 : Int) : Option (((List (Int × Bool)) × Int) ⊕ ((List (Int × Bool)))) := cond (decide (x44 < (l37.length : Int))) ((getI l37 x44).bind fun e46 => some (.inl ((mset m43 e46.id true), (IntKind.i64.wrap (x44 + 1))))) (some (.inr m43))
def Zhc (p0 : Ya4) (p1 : List (List Ya0)) (l37 : List Ya0) : Option (List Ya0) := (iter (fun z213 => Zhb l37 z213.1 z213.2) big (([] : List (Int × Bool)), 0)).bind fun y214 => Zha p0 p1 l37 y214
def Zhd (x22 : Int) (l35 : List Ya0) : Option ((List Ya0 × Int) ⊕ ((List Ya0))) := some (.inl (l35, (IntKind.i64.wrap (x22 + 1))))
def Zhe (p1 : List (List Ya0)) (e5 : List Ya0) (l21 : List Ya0) (x22 : Int) : Option ((List Ya0 × Int) ⊕ ((List Ya0))) := cond (decide (x22 < (e5.length : Int))) ((getI e5 x22).bind fun e24 => (Ze1 p1 e24).bind fun r27 => cond r27 (Zhd x22 l21) ((chk (decide ((l21.length + [e24].length) * 24 ≤ 140737488355328))).bind fun u32 => Zhd x22 (l21 ++ [e24]))) (some (.inr l21))
def Zhf (p0 : Ya4) (p1 : List (List Ya0)) : Option (List Ya0) := cond (decide ((p1.length : Int) > 0)) ((getI p1 0).bind fun e5 => (iter (fun z215 => Zhe p1 e5 z215.1 z215.2) big (([] : List Ya0), 0)).bind fun y216 => Zhc p0 p1 y216) (Zhc p0 p1 ([] : List Ya0))
instance Zhg (p0 : Ya4) (p1 : List (List Ya0)) : Sp Tryz.prog 120 [C.ip [cI p0.graph.room, cM Ya6 9 p0.graph.events, cM Ya6 9 p0.graph.parked, C.imap .i64 Yak p0.depth, C.imap .i64 Yal p0.before, C.imap .i64 Yal p0.after, C.imap .i64 Yak p0.refused], cM Yaf 1 p1] (Zhf p0 p1) (fun r => cM Yae 3 r) := Sp.of (so Tryz.func120 rfl rfl fun r X h => gh (.q 2 (.c1 (fun l37 => .x fun v36 => .d [(5, cV v36)] [oA v36 136 Yae 3 l37]) [1,2,6] [2,0] (.b (.l2 (fun l21 x22 => .x fun v20 => .d [(5, cV v20), (29, cI x22)] [oA v20 136 Yae 3 l21]) [1,2,6,27,28] [2,0] (.b (.c1 (fun l35 => .x fun v34 => .d [(5, cV v34)] [oA v34 136 Yae 3 l35]) [1,2,6,27,28,29] [1,2] .z .z) .z)) .z) (.q 1 (.o 0 fun b38 => .c1 (fun m49 => .d [] [Abs.Obj.map b38 .i64 Yam m49]) [1,2,5,6,9] [2,1,3] (.O 0 fun b38 => .l2 (fun m43 x44 => .d [(45, cI x44)] [Abs.Obj.map b38 .i64 Yam m43]) [1,2,5,6,9,43,44] [2,1,3] .z) (.c1 (fun l175 => .x fun v174 => .d [(6, cV v174)] [oA v174 42 Ya6 9 l175]) [2,5] [1,2] (.O 0 fun b38 => .l3 (fun l111 m112 x113 => .x fun v110 => .d [(6, cV v110), (55, cI x113)] [oA v110 42 Ya6 9 l111, Abs.Obj.map b38 .i64 Yam m112]) [2,5,9,53,54] [1,2] (.b (.o 1 fun b38 => .c2 (fun l172 m173 => .x fun v171 => .d [(6, cV v171)] [oA v171 42 Ya6 9 l172, Abs.Obj.map b38 .i64 Yam m173]) [2,5,9,53,54,55] [2,3] (.O 1 fun b38 => .l3 (fun l143 m144 x145 => .x fun v142 => .d [(6, cV v142), (61, cI x145)] [oA v142 42 Ya6 9 l143, Abs.Obj.map b38 .i64 Yam m144]) [2,5,9,53,54,55,59,60] [2,3] (.b (.o 1 fun b38 => .c2 (fun l169 m170 => .x fun v168 => .d [(6, cV v168)] [oA v168 42 Ya6 9 l169, Abs.Obj.map b38 .i64 Yam m170]) [2,5,9,53,54,55,59,60,61] [2,3] (.b .z (.q 1 (.c9 (fun x155 x156 x157 x158 x159 x160 x161 l162 x163 => .x fun b154 => .d [(16, pt b154)] [oB b154 42 [cI x155, cI x156, cI x157, cI x158, cI x159, cI x160, C.str x161, cM kI64 1 l162, cI x163]]) [2,5,6,9,53,54,55,59,60,61] [3,4,2,0] (.R [0,0,0,0,0] [0,3,5] [11] (.light 0 true (.light 1 false (.light 2 false (.light 3 true (.light 4 false (.light 5 true (.two 6 10 (.light 7 false (.light 8 false (.light 9 false (.one 10 (.late 11 (.light 12 false .done)))))) (.one 6 (.light 7 false (.light 8 false (.light 9 false (.late 11 (.light 12 false .done))))))))))))) (.H 142 .z)) .z))) .z) .z)) .z) .z)) (.q 1 (.c1 (fun l205 => .d [(5, cM Yae 3 l205)] []) [] [] (.l2 (fun l193 x194 => .d [(5, cM Yae 3 l193), (94, cI x194)] []) [2,92,93] [1,0] (.b (.c1 (fun l204 => .d [(5, cM Yae 3 l204)] []) [2,92,93,94] [0,1] (.r [0,0,0] [0,3,5] [] [1,4,8,13,16,21,26,28] .z) .z) .z)) .z))))))))

def Zhh (p0 : Ya4) : Option (List Ya0) := (Zgv p0).bind fun r1 => (Zgz p0 r1).bind fun r3 => (Zhf p0 r3).bind fun r5 => some r5
instance Zhi (p0 : Ya4) : Sp Tryz.prog 131 [C.ip [cI p0.graph.room, cM Ya6 9 p0.graph.events, cM Ya6 9 p0.graph.parked, C.imap .i64 Yak p0.depth, C.imap .i64 Yal p0.before, C.imap .i64 Yal p0.after, C.imap .i64 Yak p0.refused]] (Zhh p0) (fun r => cM Yae 3 r) := Sp.of (so Tryz.func131 rfl rfl fun r X h => gh .z)

def Zhj (p0 : Ya5) (p1 : Int) (p2 : Int) : Option Int := (Zfx p0.hub.stream (Y9x.mk p1 p2)).bind fun r1 => some (IntKind.i64.wrap (r1 + 1))
instance Zhk (p0 : Ya5) (p1 : Int) (p2 : Int) : Sp Tryz.prog 215 [C.ip [cM Yab 3 p0.hub.rooms, cM Ya8 2 p0.hub.stream, cM Yao 1 p0.rooms], cI p1, cI p2] (Zhj p0 p1 p2) (fun r => cI r) := Sp.of (so Tryz.func215 rfl rfl fun r X h => gh .z)

def Zhl (p0 : Ya5) (p1 : Int) : Option Ya4 := (getI p0.rooms (IntKind.i64.wrap (p1 - 1))).bind fun e1 => some e1
instance Zhm (p0 : Ya5) (p1 : Int) : Sp Tryz.prog 287 [C.ip [cM Yab 3 p0.hub.rooms, cM Ya8 2 p0.hub.stream, cM Yao 1 p0.rooms], cI p1] (Zhl p0 p1) (fun r => C.ip [cI r.graph.room, cM Ya6 9 r.graph.events, cM Ya6 9 r.graph.parked, C.imap .i64 Yak r.depth, C.imap .i64 Yal r.before, C.imap .i64 Yal r.after, C.imap .i64 Yak r.refused]) := Sp.of (so Tryz.func287 rfl rfl fun r X h => gh .z)

def Zhn : Option Int := some 0
def Zho (x26 : Int) : Option (Int ⊕ (Int ⊕ Unit)) := some (.inl (IntKind.i64.wrap (x26 + 1)))
def Zhp (x26 : Int) (e28 : Y9x) (x50 : Bool) : Option (Int ⊕ (Int ⊕ Unit)) := cond x50 (some (.inr (.inl e28.id))) (Zho x26)
def Zhq (p2 : Int) (x26 : Int) (e28 : Y9x) (x40 : Int) (x41 : Int) (x42 : Int) (x43 : Int) (x44 : Int) (x45 : Int) (x46 : ByteArray) (l47 : List Int) (x48 : Int) : Option (Int ⊕ (Int ⊕ Unit)) := cond (x43 == 8) (Zhp x26 e28 (x44 == p2)) (Zhp x26 e28 false)
def Zhr (p0 : Ya5) (p1 : Int) (p2 : Int) (x26 : Int) : Option (Int ⊕ (Int ⊕ Unit)) := cond (decide (x26 < (p0.hub.stream.length : Int))) ((getI p0.hub.stream x26).bind fun e28 => cond (e28.room != p1) (Zho x26) ((Zhl p0 p1).bind fun r32 => (Zbz r32.graph e28.id).bind fun r35 => Zhq p2 x26 e28 r35.1.id r35.1.room r35.1.author r35.1.kind r35.1.key r35.1.n r35.1.text r35.1.prev r35.1.time)) (some (.inr (.inr ())))
def Zhs (p0 : Ya5) (p1 : Int) (p2 : Int) : Option Int := (iter (Zhr p0 p1 p2) big 0).bind (fun z53 => match z53 with | .inl y52 => some y52 | .inr () => Zhn)
instance Zht (p0 : Ya5) (p1 : Int) (p2 : Int) : Sp Tryz.prog 190 [C.ip [cM Yab 3 p0.hub.rooms, cM Ya8 2 p0.hub.stream, cM Yao 1 p0.rooms], cI p1, cI p2] (Zhs p0 p1 p2) cI := sp Tryz.func190 rfl rfl fun r X h => by
 unfold Zhs at h
 refine AW.seq ?_
 refine AW.region ?_
 refine Ops.v rfl (Ys rfl rfl) ?_
 refine Ops.nil ?_
 refine AW.seq ?_
 refine AW.cut (τ := Unit) (fun (_ : Unit) => ⟨[], []⟩) (fun (_ : Unit) => Zhn = some r) ?_ ?_
 ·
  refine zw ?_
  refine ob' h fun o54 g55 q56 => ?_
  refine AW.loop (τ := Int) (x := 0) (fun x26 => ⟨[(0, C.ip [cM Yab 3 p0.hub.rooms, cM Ya8 2 p0.hub.stream, cM Yao 1 p0.rooms]), (1, cI p1), (2, cI p2), (15, cM Ya8 2 p0.hub.stream), (16, cI (p0.hub.stream.length : Int)), (17, cI x26)], []⟩) (fun k x26 => iter (Zhr p0 p1 p2) k x26 = some o54) g55 (Y25.both (ns := []) rfl rfl) ?_
  intro k x26 i58
  refine Y4d (show iter (Zhr p0 p1 p2) k x26 = some o54 from i58) fun k57 y59 hlt_k57 h h60 => ?_
  replace h : Zhr p0 p1 p2 x26 = some y59 := h
  unfold Zhr at h
  refine zw ?_
  refine cnd h (fun hb27 h => ?_) fun hb27 h => ?_
  ·
   refine AW.ct hb27 rfl ?_
   refine AW.skip ?_
   refine AW.seq ?_
   refine AW.cut (τ := Unit) (fun (_ : Unit) => ⟨[(0, C.ip [cM Yab 3 p0.hub.rooms, cM Ya8 2 p0.hub.stream, cM Yao 1 p0.rooms]), (1, cI p1), (2, cI p2), (15, cM Ya8 2 p0.hub.stream), (16, cI (p0.hub.stream.length : Int)), (17, cI x26)], []⟩) (fun (_ : Unit) => Zho x26 = some y59) ?_ ?_
   ·
    refine zw ?_
    refine oi h fun e28 g29 h => ?_
    refine zw ?_
    refine al fun b30 => ?_
    refine zw ?_
    refine cnd h (fun hb31 h => ?_) fun hb31 h => ?_
    ·
     refine AW.ct hb31 rfl ?_
     refine AW.exit ?_
     exact ⟨(), h, Y25.both (ns := []) rfl rfl⟩
    refine AW.cf hb31 rfl ?_
    refine AW.skip ?_
    refine AW.seq ?_
    refine AW.cut (τ := Int × Int × Int × Int × Int × Int × ByteArray × List Int × Int × Nat) (fun (x40, x41, x42, x43, x44, x45, x46, l47, x48, b39) => ⟨[(0, C.ip [cM Yab 3 p0.hub.rooms, cM Ya8 2 p0.hub.stream, cM Yao 1 p0.rooms]), (1, cI p1), (2, cI p2), (8, pt b30), (9, pt b39), (15, cM Ya8 2 p0.hub.stream), (16, cI (p0.hub.stream.length : Int)), (17, cI x26)], [oB b39 42 [cI x40, cI x41, cI x42, cI x43, cI x44, cI x45, C.str x46, cM kI64 1 l47, cI x48], oB b30 187 [cI e28.room, cI e28.id]]⟩) (fun (x40, x41, x42, x43, x44, x45, x46, l47, x48, b39) => Zhq p2 x26 e28 x40 x41 x42 x43 x44 x45 x46 l47 x48 = some y59) ?_ ?_
    ·
     refine AW.regionD (L := [5, 7]) (Lt := [13]) (k := .light 0 false (.light 1 false (.light 6 false (.light 7 true (.two 2 12 (.light 3 false (.light 4 false (.light 5 true (.two 8 12 (.light 9 false (.light 10 false (.light 11 false (.one 12 (.late 13 (.light 14 false .done)))))) (.one 8 (.light 9 false (.light 10 false (.light 11 false (.late 13 (.light 14 false .done)))))))))) (.one 2 (.light 3 false (.light 4 false (.light 5 true (.one 8 (.light 9 false (.light 10 false (.light 11 false (.late 13 (.light 14 false .done))))))))))))))) (ns := [0]) (by kernel_rfl) (by kernel_rfl) (by kernel_rfl) (by kernel_rfl) rfl ?_
     refine zw ?_
     refine ob' h fun r32 g33 h => ?_
     refine OpsD.two ?_ ?_
     ·
      refine Y3z.h (ns := []) rfl rfl rfl (Y28 ((Zhm _ _).h _ g33) rfl rfl) ?_
      rintro _ _ ⟨rfl, rfl⟩
      refine zw ?_
      refine ob' h fun r35 g36 h => ?_
      refine OpsD.two ?_ ?_
      ·
       refine Y3z.h (ns := []) rfl rfl rfl (Y28 ((Zc0 _ _).h _ g36) rfl rfl) ?_
       rintro _ _ ⟨rfl, rfl⟩
       refine zw ?_
       refine dal fun b34 => ?_
       refine zw ?_
       exact ⟨(r35.1.id, r35.1.room, r35.1.author, r35.1.kind, r35.1.key, r35.1.n, r35.1.text, r35.1.prev, r35.1.time, b34), h, Y25.both (ns := [0, 0]) rfl rfl⟩
      refine dal fun b34 => ?_
      refine OpsD.one ?_
      refine Y3z.h (ns := []) rfl rfl rfl (Y28 ((Zc0 _ _).h _ g36) rfl rfl) ?_
      rintro _ _ ⟨rfl, rfl⟩
      refine zw ?_
      exact ⟨(r35.1.id, r35.1.room, r35.1.author, r35.1.kind, r35.1.key, r35.1.n, r35.1.text, r35.1.prev, r35.1.time, b34), h, Y25.both (ns := [0, 0]) rfl rfl⟩
     refine dal fun b34 => ?_
     refine OpsD.one ?_
     refine Y3z.h (ns := []) rfl rfl rfl (Y28 ((Zhm _ _).h _ g33) rfl rfl) ?_
     rintro _ _ ⟨rfl, rfl⟩
     refine zw ?_
     refine dc h fun r37 g38 h => ?_
     refine zw ?_
     exact ⟨(r37.1.id, r37.1.room, r37.1.author, r37.1.kind, r37.1.key, r37.1.n, r37.1.text, r37.1.prev, r37.1.time, b34), h, Y25.both (ns := [0, 0]) rfl rfl⟩
    rintro ⟨x40, x41, x42, x43, x44, x45, x46, l47, x48, b39⟩ h
    replace h : Zhq p2 x26 e28 x40 x41 x42 x43 x44 x45 x46 l47 x48 = some y59 := h
    unfold Zhq at h
    refine AW.seq ?_
    refine AW.cut (τ := Bool) (fun x50 => ⟨[(0, C.ip [cM Yab 3 p0.hub.rooms, cM Ya8 2 p0.hub.stream, cM Yao 1 p0.rooms]), (1, cI p1), (2, cI p2), (8, pt b30), (15, cM Ya8 2 p0.hub.stream), (16, cI (p0.hub.stream.length : Int)), (17, cI x26), (45, C.bool x50)], [oB b30 187 [cI e28.room, cI e28.id]]⟩) (fun x50 => Zhp x26 e28 x50 = some y59) ?_ ?_
    ·
     refine zw ?_
     refine cnd h (fun hb49 h => ?_) fun hb49 h => ?_
     ·
      refine zw ?_
      exact ⟨(x44 == p2), h, Y25.both (ns := [1]) rfl rfl⟩
     refine zw ?_
     exact ⟨false, h, Y25.both (ns := [1]) rfl rfl⟩
    intro x50 h
    replace h : Zhp x26 e28 x50 = some y59 := h
    unfold Zhp at h
    refine cnd h (fun hb51 h => ?_) fun hb51 h => ?_
    ·
     refine AW.ct hb51 rfl ?_
     refine zw ?_
     refine AW.ret ?_
     obtain rfl := Wj h
     obtain rfl := Wj h60
     replace h := q56
     rw [← Wj h]
     exact finI ⟨[cI e28.id], _, Y25.refl _, (.cons (.tmp rfl) .nil), [], _, _, rfl, ⟨rfl, rfl⟩⟩
    refine AW.cf hb51 rfl ?_
    refine zw ?_
    exact ⟨(), h, Y25.both (ns := []) rfl rfl⟩
   rintro ⟨⟩ h
   replace h : Zho x26 = some y59 := h
   unfold Zho at h
   refine zw ?_
   obtain rfl := Wj h
   exact ⟨k57, (IntKind.i64.wrap (x26 + 1)), hlt_k57, h60, Y25.both (ns := []) rfl rfl⟩
  refine AW.cf hb27 rfl ?_
  refine AW.exit ?_
  obtain rfl := Wj h
  obtain rfl := Wj h60
  replace h := q56
  exact ⟨(), h, Y25.both (ns := []) rfl rfl⟩
 rintro ⟨⟩ h
 replace h : Zhn = some r := h
 unfold Zhn at h
 refine zw ?_
 refine AW.ret ?_
 rw [← Wj h]
 exact finI ⟨[cI 0], _, Y25.refl _, (.cons (.tmp rfl) .nil), [], _, _, rfl, ⟨rfl, rfl⟩⟩

def Zhu (r10 : Y9v) (x21 : ByteArray) (x22 : Bool) : Option Ya3 := some (Ya3.mk (Y9v.mk r10.id r10.room r10.author r10.kind r10.key r10.n x21 r10.prev r10.time) x22)
def Zhv (r10 : Y9v) (x19 : Bool) : Option Ya3 := cond x19 (Zhu r10 ByteArray.empty true) (Zhu r10 r10.text false)
def Zhw (p0 : Ya5) (p1 : Int) (p2 : Int) : Option Ya3 := (Zhj p0 p1 p2).bind fun r2 => cond (r2 == 0) (some (Ya3.mk (Y9v.mk 0 0 0 0 0 0 ByteArray.empty [] 0) false)) ((Zhl p0 p1).bind fun r5 => (Zbz r5.graph p2).bind fun r7 => (Zfz r7.1).bind fun r10 => cond (r7.1.kind == 7) ((Zhs p0 p1 p2).bind fun r14 => Zhv r10 (r14 != 0)) (cond (r7.1.kind == 4) ((Zhs p0 p1 p2).bind fun r17 => Zhv r10 (r17 != 0)) (Zhv r10 false)))
instance Zhx (p0 : Ya5) (p1 : Int) (p2 : Int) : Sp Tryz.prog 178 [C.ip [cM Yab 3 p0.hub.rooms, cM Ya8 2 p0.hub.stream, cM Yao 1 p0.rooms], cI p1, cI p2] (Zhw p0 p1 p2) (fun r => C.agg [cI r.event.id, cI r.event.room, cI r.event.author, cI r.event.kind, cI r.event.key, cI r.event.n, C.str r.event.text, cM kI64 1 r.event.prev, cI r.event.time, C.bool r.hidden]) := sp Tryz.func178 rfl rfl fun r X h => by
 unfold Zhw at h
 refine zw ?_
 refine al fun b1 => ?_
 refine zw ?_
 refine oc h fun r2 g3 h => ?_
 refine zw ?_
 refine cnd h (fun hb4 h => ?_) fun hb4 h => ?_
 ·
  refine AW.ct hb4 rfl ?_
  refine AW.seq ?_
  refine AW.region ?_
  refine Ops.v rfl (Y3k (ds := [cI 0, cI 0, cI 0, cI 0, cI 0, cI 0, C.str ByteArray.empty, cV s0, cI 0, C.bool false]) Ydu Ydt (Y4e rfl rfl) .nil rfl) ?_
  refine zw ?_
  refine AW.ret ?_
  rw [← Wj h]
  exact finI ⟨[C.agg [cI 0, cI 0, cI 0, cI 0, cI 0, cI 0, C.str ByteArray.empty, cM kI64 1 [], cI 0, C.bool false]], _, Y25.boxFrz (ns := [0]) rfl (fS (fS (fS (fS (fS (fS (fS (FrzL.cons (os := []) (Frz.imp (Imp.nil kI64 1)) (fS (fS FrzL.nil)))))))))), (.cons (.cell (p := 0) rfl rfl Ydv.h rfl) .nil), [], _, _, rfl, ⟨rfl, rfl⟩⟩
 refine AW.cf hb4 rfl ?_
 refine zw ?_
 refine oc h fun r5 g6 h => ?_
 refine zw ?_
 refine oc h fun r7 g8 h => ?_
 refine zw ?_
 refine al fun b9 => ?_
 refine zw ?_
 refine oc h fun r10 g11 h => ?_
 refine Ops.v rfl (Y3k (ds := [cI r10.id, cI r10.room, cI r10.author, cI r10.kind, cI r10.key, cI r10.n, C.str r10.text, cM kI64 1 r10.prev, cI r10.time, C.bool false]) Ydu Ydt (Y4e rfl rfl) (.agg rfl rfl rfl .nil) rfl) ?_
 refine al fun b12 => ?_
 refine Ops.sA Ydv.h rfl rfl rfl inferInstance rfl ?_
 refine Ops.nil ?_
 refine AW.seq ?_
 refine AW.cut (τ := ByteArray × Bool) (fun (x21, x22) => ⟨[(6, pt b1), (9, pt b12)], [oB b12 96 [cI r10.id, cI r10.room, cI r10.author, cI r10.kind, cI r10.key, cI r10.n, C.str x21, cM kI64 1 r10.prev, cI r10.time, C.bool x22], oB b1 96 [cI 0, cI 0, cI 0, cI 0, cI 0, cI 0, C.str ByteArray.empty, cV s0, cI 0, C.bool false]]⟩) (fun (x21, x22) => Zhu r10 x21 x22 = some r) ?_ ?_
 ·
  refine AW.seq ?_
  refine AW.cut (τ := Bool) (fun x19 => ⟨[(6, pt b1), (9, pt b12), (44, C.bool x19)], [oB b1 96 [cI 0, cI 0, cI 0, cI 0, cI 0, cI 0, C.str ByteArray.empty, cV s0, cI 0, C.bool false], oB b12 96 [cI r10.id, cI r10.room, cI r10.author, cI r10.kind, cI r10.key, cI r10.n, C.str r10.text, cM kI64 1 r10.prev, cI r10.time, C.bool false]]⟩) (fun x19 => Zhv r10 x19 = some r) ?_ ?_
  ·
   refine zw ?_
   refine cnd h (fun hb13 h => ?_) fun hb13 h => ?_
   ·
    refine zw ?_
    refine ob' h fun r14 g15 h => ?_
    refine Ops.ghd (ns := []) rfl rfl rfl rfl rfl rfl (Y28 ((Zht _ _ _).h _ g15) rfl rfl) ?_
    refine zw ?_
    exact ⟨(r14 != 0), h, Y25.both (ns := [2, 0]) rfl rfl⟩
   refine zw ?_
   refine cnd h (fun hb16 h => ?_) fun hb16 h => ?_
   ·
    refine zw ?_
    refine gcl h rfl rfl rfl rfl hb16 inferInstance rfl rfl fun r17 g18 h => ?_
    refine zw ?_
    exact ⟨(r17 != 0), h, Y25.both (ns := [2, 0]) rfl rfl⟩
   refine zw ?_
   exact ⟨false, h, Y25.both (ns := [2, 0]) rfl rfl⟩
  intro x19 h
  replace h : Zhv r10 x19 = some r := h
  unfold Zhv at h
  refine cnd h (fun hb20 h => ?_) fun hb20 h => ?_
  ·
   refine AW.ct hb20 rfl ?_
   refine zw ?_
   exact ⟨(ByteArray.empty, true), h, Y25.both (ns := [0, 0]) rfl rfl⟩
  refine AW.cf hb20 rfl ?_
  refine zw ?_
  exact ⟨(r10.text, false), h, Y25.both (ns := [1, 0]) rfl rfl⟩
 rintro ⟨x21, x22⟩ h
 replace h : Zhu r10 x21 x22 = some r := h
 unfold Zhu at h
 refine zw ?_
 refine AW.ret ?_
 rw [← Wj h]
 exact finI ⟨[C.agg [cI r10.id, cI r10.room, cI r10.author, cI r10.kind, cI r10.key, cI r10.n, C.str x21, cM kI64 1 r10.prev, cI r10.time, C.bool x22]], _, Y25.refl _, (.cons (.cell (p := 0) rfl rfl Ydv.h rfl) .nil), [], _, _, rfl, ⟨rfl, rfl⟩⟩

def Zhy (p0 : Ya5) (p1 : Int) (p2 : Int) : Option Bool := (Zhl p0 p2).bind fun r1 => (Zhh r1).bind fun r3 => (Zcv r1.graph r3 p1).bind fun r5 => some (r5 == 1)
instance Zhz (p0 : Ya5) (p1 : Int) (p2 : Int) : Sp Tryz.prog 294 [C.ip [cM Yab 3 p0.hub.rooms, cM Ya8 2 p0.hub.stream, cM Yao 1 p0.rooms], cI p1, cI p2] (Zhy p0 p1 p2) (fun r => C.bool r) := Sp.of (so Tryz.func294 rfl rfl fun r X h => gh (.r [] [3] [] [0,4,8,13,16,24,22,30,32,36] .z))

def Zi0 (x23 : Bool) : Option Bool := some x23
def Zi1 (p0 : Ya5) (p1 : Int) (p2 : Int) (p3 : Int) (r4 : Ya4) (x16 : Bool) : Option Bool := cond x16 (some true) ((Zg3 r4.graph (Option.getD (mget r4.after p3) ([] : List Ya0))).bind fun r18 => cond (r18 == 2) ((Zhy p0 p1 p2).bind fun r21 => Zi0 r21) (Zi0 false))
def Zi2 (p0 : Ya5) (p1 : Int) (p2 : Int) (p3 : Int) : Option Bool := (Zhj p0 p2 p3).bind fun r1 => cond (r1 == 0) (some false) ((Zhl p0 p2).bind fun r4 => (Zbz r4.graph p3).bind fun r6 => (Zcv r4.graph (Option.getD (mget r4.after p3) ([] : List Ya0)) p1).bind fun r9 => cond (r9 == 1) (Zi1 p0 p1 p2 p3 r4 true) ((Zg3 r4.graph (Option.getD (mget r4.after p3) ([] : List Ya0))).bind fun r12 => cond (r12 == 1) (Zi1 p0 p1 p2 p3 r4 true) (cond (r6.1.kind == 2) (Zi1 p0 p1 p2 p3 r4 (r6.1.key == p1)) (Zi1 p0 p1 p2 p3 r4 false))))
instance Zi3 (p0 : Ya5) (p1 : Int) (p2 : Int) (p3 : Int) : Sp Tryz.prog 180 [C.ip [cM Yab 3 p0.hub.rooms, cM Ya8 2 p0.hub.stream, cM Yao 1 p0.rooms], cI p1, cI p2, cI p3] (Zi2 p0 p1 p2 p3) (fun r => C.bool r) := Sp.of (so Tryz.func180 rfl rfl fun r X h => gh (.b .z (.q 4 (.c1 (fun x16 => .d [(36, C.bool x16)] []) [0,1,2,9,12] [] .z (.b .z (.c1 (fun x23 => .d [(8, C.bool x23)] []) [] [] .z .z))))))

def Zi4 (l71 : List Y9x) : Option (List Y9x) := some l71
def Zi5 (x42 : Int) (l69 : List Y9x) : Option ((List Y9x × Int) ⊕ ((List Y9x))) := some (.inl (l69, (IntKind.i64.wrap (x42 + 1))))
def Zi6 (l41 : List Y9x) (x42 : Int) (e44 : Y9x) (x62 : Bool) : Option ((List Y9x × Int) ⊕ ((List Y9x))) := cond x62 ((chk (decide ((l41.length + [e44].length) * 16 ≤ 140737488355328))).bind fun u66 => Zi5 x42 (l41 ++ [e44])) (Zi5 x42 l41)
def Zi7 (p1 : Int) (p2 : ByteArray) (r2 : Ya5 × Bool) (l41 : List Y9x) (x42 : Int) : Option ((List Y9x × Int) ⊕ ((List Y9x))) := cond (decide (x42 < (r2.1.hub.stream.length : Int))) ((getI r2.1.hub.stream x42).bind fun e44 => (Zhw r2.1 e44.room e44.id).bind fun r47 => cond (r47.event.kind == 7) ((Zg1 r47.event.text p2).bind fun r51 => cond r51 ((Zi2 r2.1 p1 e44.room e44.id).bind fun r54 => Zi6 l41 x42 e44 r54) (Zi6 l41 x42 e44 false)) (cond (r47.event.kind == 4) ((Zg1 r47.event.text p2).bind fun r57 => cond r57 ((Zi2 r2.1 p1 e44.room e44.id).bind fun r60 => Zi6 l41 x42 e44 r60) (Zi6 l41 x42 e44 false)) (Zi6 l41 x42 e44 false))) (some (.inr l41))
def Zi8 (p1 : Int) (p2 : ByteArray) (r2 : Ya5 × Bool) (x10 : Bool) : Option (List Y9x) := cond x10 (some []) ((iter (fun z73 => Zi7 p1 p2 r2 z73.1 z73.2) big (([] : List Y9x), 0)).bind fun y74 => Zi4 y74)
def Zi9 (p0 : Y9z) (p1 : Int) (p2 : ByteArray) : Option (List Y9x) := (Zft p0).bind fun r2 => cond r2.2 ((Z80 p1).bind fun r5 => cond r5 ((Z7u (p2.size : Int) 1 10).bind fun r8 => Zi8 p1 p2 r2 (!r8)) (Zi8 p1 p2 r2 true)) (some [])
instance Zia (p0 : Y9z) (p1 : Int) (p2 : ByteArray) : SpO Tryz.prog 56 (Zi9 p0 p1 p2) (.d [C.agg [cM Yab 3 p0.rooms, cM Ya8 2 p0.stream], cI p1, C.str p2] [] fun r => .x fun (v72 : Value) => .d (cV v72) [oA v72 187 Ya8 2 r]) := ⟨so Tryz.func56 rfl rfl fun r X h => gh (.b (.q 1 (.c1 (fun x10 => .d [(30, C.bool x10)] []) [1,2,7] [] .z (.b .z (.q 1 (.c1 (fun l71 => .x fun v70 => .d [(9, cV v70)] [oA v70 187 Ya8 2 l71]) [] [] (.l2 (fun l41 x42 => .x fun v40 => .d [(9, cV v40), (38, cI x42)] [oA v40 187 Ya8 2 l41]) [1,2,7,36,37] [] (.b (.c1 (fun l69 => .x fun v68 => .d [(9, cV v68)] [oA v68 187 Ya8 2 l69]) [1,2,7,36,37,38] [] (.q 2 (.c1 (fun x62 => .d [(71, C.bool x62)] []) [1,2,7,9,11,36,37,38] [2,1] .z .z)) .z) .z)) .z))))) .z)⟩
instance Zia' (p0 : Y9z) (p1 : Int) (p2 : ByteArray) : Sp Tryz.prog 56 [C.agg [cM Yab 3 p0.rooms, cM Ya8 2 p0.stream], cI p1, C.str p2] (Zi9 p0 p1 p2) (fun r => cM Ya8 2 r) := ⟨fun r h => Ok.freeze ((Zia p0 p1 p2).h r h) (by rintro c qs ⟨v72, rfl, rfl⟩; exact Frz.arr)⟩

def Zib (p0 : Y9x) (p1 : Y9x) : Option Bool := cond (p0.room != p1.room) (some false) (cond (p0.id != p1.id) (some false) (some true))
instance Zic (p0 : Y9x) (p1 : Y9x) : Sp Tryz.prog 181 [C.agg [cI p0.room, cI p0.id], C.agg [cI p1.room, cI p1.id]] (Zib p0 p1) (fun r => C.bool r) := Sp.of (so Tryz.func181 rfl rfl fun r X h => gh .z)

def Zid : Option Bool := some true
def Zie (p0 : List Y9x) (p1 : List Y9x) (x10 : Int) : Option (Int ⊕ (Bool ⊕ Unit)) := cond (decide (x10 < (p0.length : Int))) ((getI p0 x10).bind fun e12 => (getI p1 x10).bind fun e14 => (Zib e12 e14).bind fun r16 => cond r16 (some (.inl (IntKind.i64.wrap (x10 + 1)))) (some (.inr (.inl false)))) (some (.inr (.inr ())))
def Zif (p0 : List Y9x) (p1 : List Y9x) : Option Bool := cond ((p0.length : Int) != (p1.length : Int)) (some false) ((iter (Zie p0 p1) big 0).bind (fun z20 => match z20 with | .inl y19 => some y19 | .inr () => Zid))
instance Zig (p0 : List Y9x) (p1 : List Y9x) : Sp Tryz.prog 57 [cM Ya8 2 p0, cM Ya8 2 p1] (Zif p0 p1) (fun r => C.bool r) := Sp.of (so Tryz.func57 rfl rfl fun r X h => gh (.b .z (.c0 (.d [] []) [] [] (.l1 (fun x10 => .d [(5, cI x10)] []) [0,1] [] (.b (.r [] [3,7] [] [0,4,8,13,16,20,24,29,34,36] .z) .z)) .z)))

def Zih : Option Bool := some true
def Zii (p0 : List Int) (p1 : List Int) (x8 : Int) : Option (Int ⊕ (Bool ⊕ Unit)) := cond (decide (x8 < (p0.length : Int))) ((getI p0 x8).bind fun e10 => (getI p1 x8).bind fun e12 => cond (e10 != e12) (some (.inr (.inl false))) (some (.inl (IntKind.i64.wrap (x8 + 1))))) (some (.inr (.inr ())))
def Zij (p0 : List Int) (p1 : List Int) : Option Bool := cond ((p0.length : Int) != (p1.length : Int)) (some false) ((iter (Zii p0 p1) big 0).bind (fun z16 => match z16 with | .inl y15 => some y15 | .inr () => Zih))
instance Zik (p0 : List Int) (p1 : List Int) : Sp Tryz.prog 406 [cM kI64 1 p0, cM kI64 1 p1] (Zij p0 p1) (fun r => C.bool r) := Sp.of (so Tryz.func406 rfl rfl fun r X h => gh (.b .z (.c0 (.d [] []) [] [] (.l1 (fun x8 => .d [(5, cI x8)] []) [0,1] [] (.b (.r [] [3,7] [] [0,4,8,13,16,20,24,29,32] .z) .z)) .z)))

def Zil (p0 : Y9v) (p1 : Y9v) : Option Bool := cond (p0.id != p1.id) (some false) (cond (p0.room != p1.room) (some false) (cond (p0.author != p1.author) (some false) (cond (p0.kind != p1.kind) (some false) (cond (p0.key != p1.key) (some false) (cond (p0.n != p1.n) (some false) (cond (p0.text.toList == p1.text.toList) ((Zij p0.prev p1.prev).bind fun r10 => cond r10 (cond (p0.time != p1.time) (some false) (some true)) (some false)) (some false)))))))
instance Zim (p0 : Y9v) (p1 : Y9v) : Sp Tryz.prog 390 [C.agg [cI p0.id, cI p0.room, cI p0.author, cI p0.kind, cI p0.key, cI p0.n, C.str p0.text, cM kI64 1 p0.prev, cI p0.time], C.agg [cI p1.id, cI p1.room, cI p1.author, cI p1.kind, cI p1.key, cI p1.n, C.str p1.text, cM kI64 1 p1.prev, cI p1.time]] (Zil p0 p1) (fun r => C.bool r) := Sp.of (so Tryz.func390 rfl rfl fun r X h => gh .z)

def Zin : Option Bool := some true
def Zio (p0 : List Y9v) (p1 : List Y9v) (x10 : Int) : Option (Int ⊕ (Bool ⊕ Unit)) := cond (decide (x10 < (p0.length : Int))) ((getI p0 x10).bind fun e12 => (getI p1 x10).bind fun e14 => (Zil e12 e14).bind fun r16 => cond r16 (some (.inl (IntKind.i64.wrap (x10 + 1)))) (some (.inr (.inl false)))) (some (.inr (.inr ())))
def Zip (p0 : List Y9v) (p1 : List Y9v) : Option Bool := cond ((p0.length : Int) != (p1.length : Int)) (some false) ((iter (Zio p0 p1) big 0).bind (fun z20 => match z20 with | .inl y19 => some y19 | .inr () => Zin))
instance Ziq (p0 : List Y9v) (p1 : List Y9v) : Sp Tryz.prog 355 [cM Ya6 9 p0, cM Ya6 9 p1] (Zip p0 p1) (fun r => C.bool r) := Sp.of (so Tryz.func355 rfl rfl fun r X h => gh (.b .z (.c0 (.d [] []) [] [] (.l1 (fun x10 => .d [(5, cI x10)] []) [0,1] [] (.b (.r [] [3,7] [] [0,4,8,13,16,20,24,29,34,36] .z) .z)) .z)))

def Zir (p0 : Y9y) (p1 : Y9y) : Option Bool := cond (p0.room != p1.room) (some false) ((Zip p0.events p1.events).bind fun r4 => cond r4 ((Zip p0.parked p1.parked).bind fun r7 => cond r7 (some true) (some false)) (some false))
instance Zis (p0 : Y9y) (p1 : Y9y) : Sp Tryz.prog 295 [C.agg [cI p0.room, cM Ya6 9 p0.events, cM Ya6 9 p0.parked], C.agg [cI p1.room, cM Ya6 9 p1.events, cM Ya6 9 p1.parked]] (Zir p0 p1) (fun r => C.bool r) := Sp.of (so Tryz.func295 rfl rfl fun r X h => gh .z)

def Zit : Option Bool := some true
def Ziu (p0 : List Y9y) (p1 : List Y9y) (x10 : Int) : Option (Int ⊕ (Bool ⊕ Unit)) := cond (decide (x10 < (p0.length : Int))) ((getI p0 x10).bind fun e12 => (getI p1 x10).bind fun e14 => (Zir e12 e14).bind fun r16 => cond r16 (some (.inl (IntKind.i64.wrap (x10 + 1)))) (some (.inr (.inl false)))) (some (.inr (.inr ())))
def Ziv (p0 : List Y9y) (p1 : List Y9y) : Option Bool := cond ((p0.length : Int) != (p1.length : Int)) (some false) ((iter (Ziu p0 p1) big 0).bind (fun z20 => match z20 with | .inl y19 => some y19 | .inr () => Zit))
instance Ziw (p0 : List Y9y) (p1 : List Y9y) : Sp Tryz.prog 182 [cM Yab 3 p0, cM Yab 3 p1] (Ziv p0 p1) (fun r => C.bool r) := Sp.of (so Tryz.func182 rfl rfl fun r X h => gh (.b .z (.c0 (.d [] []) [] [] (.l1 (fun x10 => .d [(5, cI x10)] []) [0,1] [] (.b (.r [] [3,7] [] [0,4,8,13,16,20,24,29,34,36] .z) .z)) .z)))

def Zix (p0 : Y9z) (p1 : Y9z) : Option Bool := (Ziv p0.rooms p1.rooms).bind fun r3 => cond r3 ((Zif p0.stream p1.stream).bind fun r6 => cond r6 (some true) (some false)) (some false)
instance Ziy (p0 : Y9z) (p1 : Y9z) : Sp Tryz.prog 58 [C.agg [cM Yab 3 p0.rooms, cM Ya8 2 p0.stream], C.agg [cM Yab 3 p1.rooms, cM Ya8 2 p1.stream]] (Zix p0 p1) (fun r => C.bool r) := Sp.of (so Tryz.func58 rfl rfl fun r X h => gh .z)

def Ziz (x12 : ByteArray) : Option ByteArray := (chk (decide ((ByteArray.mk #[109]).size + x12.size ≤ 9223372036854775807))).bind fun u14 => some ((ByteArray.mk #[109]) ++ x12)
def Zj0 (x6 : Int) (x7 : ByteArray) : Option ((Int × ByteArray) ⊕ (ByteArray)) := cond (decide (x6 > 0)) ((chk (decide ((Y7c [(IntKind.u8.wrap (IntKind.i64.wrap (48 + (Int.tmod x6 10))))]).size + x7.size ≤ 9223372036854775807))).bind fun u11 => some (.inl ((IntKind.i64.wrap (Int.tdiv x6 10)), ((Y7c [(IntKind.u8.wrap (IntKind.i64.wrap (48 + (Int.tmod x6 10))))]) ++ x7)))) (some (.inr x7))
def Zj1 (p0 : Int) : Option ByteArray := cond (decide (p0 ≤ 0)) (some (ByteArray.mk #[109, 48])) ((iter (fun z15 => Zj0 z15.1 z15.2) big (p0, ByteArray.empty)).bind fun y16 => Ziz y16)
instance Zj2 (p0 : Int) : Sp Tryz.prog 278 [cI p0] (Zj1 p0) (fun r => C.str r) := Sp.of (so Tryz.func278 rfl rfl fun r X h => gh (.b .z (.q 1 (.c1 (fun x12 => .d [(3, C.str x12)] []) [] [] (.l2 (fun x6 x7 => .d [(0, cI x6), (3, C.str x7)] []) [] [] .z) .z))))

def Zj3 (x10 : Int) (l11 : List Int) : Option (Int × List Int) := some (x10, l11)
def Zj4 (l4 : List Int) (x5 : Int) (x6 : Int) : Option ((List Int × Int × Int) ⊕ ((Int × List Int))) := cond (decide (x6 < (l4.length : Int))) ((getI l4 x6).bind fun e8 => some (.inl ((List.set l4 (Int.toNat x6) x5), (IntKind.i64.wrap (x5 + 1)), (IntKind.i64.wrap (x6 + 1))))) (some (.inr (x5, l4)))
def Zj5 (p0 : List Int) (p1 : Int) : Option (Int × List Int) := (iter (fun z12 => Zj4 z12.1 z12.2.1 z12.2.2) big (p0, p1, 0)).bind fun (y13, y14) => Zj3 y13 y14
instance Zj6 (p0 : List Int) (p1 : Int) : SpO Tryz.prog 356 (Zj5 p0 p1) (.x fun (w00 : Value) => .d [cV w00, cI p1] [oA w00 2 kI64 1 p0] fun r => .d (cI r.1) [oA w00 2 kI64 1 r.2]) := ⟨fun w00 => so Tryz.func356 rfl rfl fun r X h => gh (.q 1 (.c2 (fun x10 l11 => .d [(1, cI x10)] [oA w00 2 kI64 1 l11]) [] [] (.l3 (fun l4 x5 x6 => .d [(1, cI x5), (5, cI x6)] [oA w00 2 kI64 1 l4]) [0] [] .z) .z))⟩

def Zj7 (x52 : Int) (l53 : List Y9v) : Option (Int × List Y9v) := some (x52, l53)
def Zj8 (l25 : List Y9v) (x26 : Int) (x27 : Int) : Option ((List Y9v × Int × Int) ⊕ ((Int × List Y9v))) := cond (decide (x27 < (l25.length : Int))) ((getI l25 x27).bind fun e29 => (getI (List.set l25 (Int.toNat x27) (Y9v.mk x26 e29.room e29.author e29.kind e29.key e29.n e29.text e29.prev e29.time)) x27).bind fun e31 => (getI (List.set (List.set l25 (Int.toNat x27) (Y9v.mk x26 e29.room e29.author e29.kind e29.key e29.n e29.text e29.prev e29.time)) (Int.toNat x27) (Y9v.mk e31.id (IntKind.i64.wrap (x26 + 1)) e31.author e31.kind e31.key e31.n e31.text e31.prev e31.time)) x27).bind fun e33 => (getI (List.set (List.set (List.set l25 (Int.toNat x27) (Y9v.mk x26 e29.room e29.author e29.kind e29.key e29.n e29.text e29.prev e29.time)) (Int.toNat x27) (Y9v.mk e31.id (IntKind.i64.wrap (x26 + 1)) e31.author e31.kind e31.key e31.n e31.text e31.prev e31.time)) (Int.toNat x27) (Y9v.mk e33.id e33.room (IntKind.i64.wrap ((IntKind.i64.wrap (x26 + 1)) + 1)) e33.kind e33.key e33.n e33.text e33.prev e33.time)) x27).bind fun e35 => (getI (List.set (List.set (List.set (List.set l25 (Int.toNat x27) (Y9v.mk x26 e29.room e29.author e29.kind e29.key e29.n e29.text e29.prev e29.time)) (Int.toNat x27) (Y9v.mk e31.id (IntKind.i64.wrap (x26 + 1)) e31.author e31.kind e31.key e31.n e31.text e31.prev e31.time)) (Int.toNat x27) (Y9v.mk e33.id e33.room (IntKind.i64.wrap ((IntKind.i64.wrap (x26 + 1)) + 1)) e33.kind e33.key e33.n e33.text e33.prev e33.time)) (Int.toNat x27) (Y9v.mk e35.id e35.room e35.author (IntKind.i64.wrap ((IntKind.i64.wrap ((IntKind.i64.wrap (x26 + 1)) + 1)) + 1)) e35.key e35.n e35.text e35.prev e35.time)) x27).bind fun e37 => (getI (List.set (List.set (List.set (List.set (List.set l25 (Int.toNat x27) (Y9v.mk x26 e29.room e29.author e29.kind e29.key e29.n e29.text e29.prev e29.time)) (Int.toNat x27) (Y9v.mk e31.id (IntKind.i64.wrap (x26 + 1)) e31.author e31.kind e31.key e31.n e31.text e31.prev e31.time)) (Int.toNat x27) (Y9v.mk e33.id e33.room (IntKind.i64.wrap ((IntKind.i64.wrap (x26 + 1)) + 1)) e33.kind e33.key e33.n e33.text e33.prev e33.time)) (Int.toNat x27) (Y9v.mk e35.id e35.room e35.author (IntKind.i64.wrap ((IntKind.i64.wrap ((IntKind.i64.wrap (x26 + 1)) + 1)) + 1)) e35.key e35.n e35.text e35.prev e35.time)) (Int.toNat x27) (Y9v.mk e37.id e37.room e37.author e37.kind (IntKind.i64.wrap ((IntKind.i64.wrap ((IntKind.i64.wrap ((IntKind.i64.wrap (x26 + 1)) + 1)) + 1)) + 1)) e37.n e37.text e37.prev e37.time)) x27).bind fun e39 => (Zj1 (IntKind.i64.wrap ((IntKind.i64.wrap ((IntKind.i64.wrap ((IntKind.i64.wrap ((IntKind.i64.wrap ((IntKind.i64.wrap (x26 + 1)) + 1)) + 1)) + 1)) + 1)) + 1))).bind fun r41 => (getI (List.set (List.set (List.set (List.set (List.set (List.set l25 (Int.toNat x27) (Y9v.mk x26 e29.room e29.author e29.kind e29.key e29.n e29.text e29.prev e29.time)) (Int.toNat x27) (Y9v.mk e31.id (IntKind.i64.wrap (x26 + 1)) e31.author e31.kind e31.key e31.n e31.text e31.prev e31.time)) (Int.toNat x27) (Y9v.mk e33.id e33.room (IntKind.i64.wrap ((IntKind.i64.wrap (x26 + 1)) + 1)) e33.kind e33.key e33.n e33.text e33.prev e33.time)) (Int.toNat x27) (Y9v.mk e35.id e35.room e35.author (IntKind.i64.wrap ((IntKind.i64.wrap ((IntKind.i64.wrap (x26 + 1)) + 1)) + 1)) e35.key e35.n e35.text e35.prev e35.time)) (Int.toNat x27) (Y9v.mk e37.id e37.room e37.author e37.kind (IntKind.i64.wrap ((IntKind.i64.wrap ((IntKind.i64.wrap ((IntKind.i64.wrap (x26 + 1)) + 1)) + 1)) + 1)) e37.n e37.text e37.prev e37.time)) (Int.toNat x27) (Y9v.mk e39.id e39.room e39.author e39.kind e39.key (IntKind.i64.wrap ((IntKind.i64.wrap ((IntKind.i64.wrap ((IntKind.i64.wrap ((IntKind.i64.wrap (x26 + 1)) + 1)) + 1)) + 1)) + 1)) e39.text e39.prev e39.time)) x27).bind fun e43 => (getI (List.set (List.set (List.set (List.set (List.set (List.set (List.set l25 (Int.toNat x27) (Y9v.mk x26 e29.room e29.author e29.kind e29.key e29.n e29.text e29.prev e29.time)) (Int.toNat x27) (Y9v.mk e31.id (IntKind.i64.wrap (x26 + 1)) e31.author e31.kind e31.key e31.n e31.text e31.prev e31.time)) (Int.toNat x27) (Y9v.mk e33.id e33.room (IntKind.i64.wrap ((IntKind.i64.wrap (x26 + 1)) + 1)) e33.kind e33.key e33.n e33.text e33.prev e33.time)) (Int.toNat x27) (Y9v.mk e35.id e35.room e35.author (IntKind.i64.wrap ((IntKind.i64.wrap ((IntKind.i64.wrap (x26 + 1)) + 1)) + 1)) e35.key e35.n e35.text e35.prev e35.time)) (Int.toNat x27) (Y9v.mk e37.id e37.room e37.author e37.kind (IntKind.i64.wrap ((IntKind.i64.wrap ((IntKind.i64.wrap ((IntKind.i64.wrap (x26 + 1)) + 1)) + 1)) + 1)) e37.n e37.text e37.prev e37.time)) (Int.toNat x27) (Y9v.mk e39.id e39.room e39.author e39.kind e39.key (IntKind.i64.wrap ((IntKind.i64.wrap ((IntKind.i64.wrap ((IntKind.i64.wrap ((IntKind.i64.wrap (x26 + 1)) + 1)) + 1)) + 1)) + 1)) e39.text e39.prev e39.time)) (Int.toNat x27) (Y9v.mk e43.id e43.room e43.author e43.kind e43.key e43.n r41 e43.prev e43.time)) x27).bind fun e45 => (Zj5 e45.prev (IntKind.i64.wrap ((IntKind.i64.wrap ((IntKind.i64.wrap ((IntKind.i64.wrap ((IntKind.i64.wrap ((IntKind.i64.wrap ((IntKind.i64.wrap (x26 + 1)) + 1)) + 1)) + 1)) + 1)) + 1)) + 1))).bind fun r48 => (getI (List.set (List.set (List.set (List.set (List.set (List.set (List.set (List.set l25 (Int.toNat x27) (Y9v.mk x26 e29.room e29.author e29.kind e29.key e29.n e29.text e29.prev e29.time)) (Int.toNat x27) (Y9v.mk e31.id (IntKind.i64.wrap (x26 + 1)) e31.author e31.kind e31.key e31.n e31.text e31.prev e31.time)) (Int.toNat x27) (Y9v.mk e33.id e33.room (IntKind.i64.wrap ((IntKind.i64.wrap (x26 + 1)) + 1)) e33.kind e33.key e33.n e33.text e33.prev e33.time)) (Int.toNat x27) (Y9v.mk e35.id e35.room e35.author (IntKind.i64.wrap ((IntKind.i64.wrap ((IntKind.i64.wrap (x26 + 1)) + 1)) + 1)) e35.key e35.n e35.text e35.prev e35.time)) (Int.toNat x27) (Y9v.mk e37.id e37.room e37.author e37.kind (IntKind.i64.wrap ((IntKind.i64.wrap ((IntKind.i64.wrap ((IntKind.i64.wrap (x26 + 1)) + 1)) + 1)) + 1)) e37.n e37.text e37.prev e37.time)) (Int.toNat x27) (Y9v.mk e39.id e39.room e39.author e39.kind e39.key (IntKind.i64.wrap ((IntKind.i64.wrap ((IntKind.i64.wrap ((IntKind.i64.wrap ((IntKind.i64.wrap (x26 + 1)) + 1)) + 1)) + 1)) + 1)) e39.text e39.prev e39.time)) (Int.toNat x27) (Y9v.mk e43.id e43.room e43.author e43.kind e43.key e43.n r41 e43.prev e43.time)) (Int.toNat x27) (Y9v.mk e45.id e45.room e45.author e45.kind e45.key e45.n e45.text r48.2 e45.time)) x27).bind fun e50 => some (.inl ((List.set (List.set (List.set (List.set (List.set (List.set (List.set (List.set (List.set l25 (Int.toNat x27) (Y9v.mk x26 e29.room e29.author e29.kind e29.key e29.n e29.text e29.prev e29.time)) (Int.toNat x27) (Y9v.mk e31.id (IntKind.i64.wrap (x26 + 1)) e31.author e31.kind e31.key e31.n e31.text e31.prev e31.time)) (Int.toNat x27) (Y9v.mk e33.id e33.room (IntKind.i64.wrap ((IntKind.i64.wrap (x26 + 1)) + 1)) e33.kind e33.key e33.n e33.text e33.prev e33.time)) (Int.toNat x27) (Y9v.mk e35.id e35.room e35.author (IntKind.i64.wrap ((IntKind.i64.wrap ((IntKind.i64.wrap (x26 + 1)) + 1)) + 1)) e35.key e35.n e35.text e35.prev e35.time)) (Int.toNat x27) (Y9v.mk e37.id e37.room e37.author e37.kind (IntKind.i64.wrap ((IntKind.i64.wrap ((IntKind.i64.wrap ((IntKind.i64.wrap (x26 + 1)) + 1)) + 1)) + 1)) e37.n e37.text e37.prev e37.time)) (Int.toNat x27) (Y9v.mk e39.id e39.room e39.author e39.kind e39.key (IntKind.i64.wrap ((IntKind.i64.wrap ((IntKind.i64.wrap ((IntKind.i64.wrap ((IntKind.i64.wrap (x26 + 1)) + 1)) + 1)) + 1)) + 1)) e39.text e39.prev e39.time)) (Int.toNat x27) (Y9v.mk e43.id e43.room e43.author e43.kind e43.key e43.n r41 e43.prev e43.time)) (Int.toNat x27) (Y9v.mk e45.id e45.room e45.author e45.kind e45.key e45.n e45.text r48.2 e45.time)) (Int.toNat x27) (Y9v.mk e50.id e50.room e50.author e50.kind e50.key e50.n e50.text e50.prev r48.1)), (IntKind.i64.wrap (r48.1 + 1)), (IntKind.i64.wrap (x27 + 1))))) (some (.inr (x26, l25)))
def Zj9 (p0 : List Y9v) (p1 : Int) : Option (Int × List Y9v) := (iter (fun z54 => Zj8 z54.1 z54.2.1 z54.2.2) big (p0, p1, 0)).bind fun (y55, y56) => Zj7 y55 y56
theorem Zja {w00 : Value} (p0 : List Y9v) (p1 : Int) (r : Int × List Y9v) (h : Zj9 p0 p1 = some r) : Ok Tryz.prog 296 [cV w00, cI p1] [Obj.deep w00 42 Ya9 Yaa 9 p0] (fun c qs => c = cI r.1 ∧ qs = [Obj.deep w00 42 Ya9 Yaa 9 r.2]) := by
 refine Ok.of_body (rs := [.tmp 4]) Tryz.func296 rfl rfl rfl rfl rfl fun X => ?_
 unfold Zj9 at h
 refine AW.seq ?_
 refine AW.region ?_
 refine Ops.v rfl (Ys rfl rfl) ?_
 refine Ops.nil ?_
 refine AW.seq ?_
 refine AW.cut (τ := Int × List Y9v) (fun (x52, l53) => ⟨[(1, cI x52)], [Obj.deep w00 42 Ya9 Yaa 9 l53]⟩) (fun (x52, l53) => Zj7 x52 l53 = some r) ?_ ?_
 ·
  refine zw ?_
  refine ob' h fun o57 g58 q59 => ?_
  refine AW.loop (τ := List Y9v × Int × Int) (x := (p0, p1, 0)) (fun (l25, x26, x27) => ⟨[(0, cV w00), (1, cI x26), (5, cI x27)], [Obj.deep w00 42 Ya9 Yaa 9 l25]⟩) (fun k (l25, x26, x27) => iter (fun z54 => Zj8 z54.1 z54.2.1 z54.2.2) k (l25, x26, x27) = some o57) g58 (Y25.both (ns := [0]) rfl rfl) ?_
  rintro k ⟨l25, x26, x27⟩ i61
  refine Y4d (show iter (fun z54 => Zj8 z54.1 z54.2.1 z54.2.2) k (l25, x26, x27) = some o57 from i61) fun k60 y62 hlt_k60 h h63 => ?_
  replace h : Zj8 l25 x26 x27 = some y62 := h
  unfold Zj8 at h
  refine zw ?_
  refine Ops.v rfl (Y6a (p := 0) Ybx.h rfl rfl rfl) ?_
  refine zw ?_
  refine cnd h (fun hb28 h => ?_) fun hb28 h => ?_
  ·
   refine AW.ct hb28 rfl ?_
   refine zw ?_
   refine ob' h fun e29 g30 h => ?_
   refine Ops.v rfl (Y6c (p := 0) Ybx.h rfl rfl rfl g30 rfl) ?_
   refine Ops.v rfl (Y6d (p := 0) Ybc.h rfl rfl (Y2f g30).2.2 rfl) ?_
   refine Ops.hd (ns := [0]) rfl rfl (Y6f (e' := (Y9v.mk x26 e29.room e29.author e29.kind e29.key e29.n e29.text e29.prev e29.time)) ld_2.h rfl rfl (One.val rfl) (Y2f g30).2.2 (fun _ => rfl) (fun _ => rfl) (fun _ => rfl)) ?_
   refine zw ?_
   refine ob' h fun e31 g32 h => ?_
   refine Ops.v rfl (Y6c (p := 0) Ybx.h rfl rfl rfl g32 rfl) ?_
   refine Ops.v rfl (Y6d (p := 0) Ybe.h rfl rfl (Y2f g32).2.2 rfl) ?_
   refine Ops.hd (ns := [0]) rfl rfl (Y6f (e' := (Y9v.mk e31.id (IntKind.i64.wrap (x26 + 1)) e31.author e31.kind e31.key e31.n e31.text e31.prev e31.time)) ld_2.h rfl rfl (One.val rfl) (Y2f g32).2.2 (fun _ => rfl) (fun _ => rfl) (fun _ => rfl)) ?_
   refine zw ?_
   refine ob' h fun e33 g34 h => ?_
   refine Ops.v rfl (Y6c (p := 0) Ybx.h rfl rfl rfl g34 rfl) ?_
   refine Ops.v rfl (Y6d (p := 0) Ybg.h rfl rfl (Y2f g34).2.2 rfl) ?_
   refine Ops.hd (ns := [0]) rfl rfl (Y6f (e' := (Y9v.mk e33.id e33.room (IntKind.i64.wrap ((IntKind.i64.wrap (x26 + 1)) + 1)) e33.kind e33.key e33.n e33.text e33.prev e33.time)) ld_2.h rfl rfl (One.val rfl) (Y2f g34).2.2 (fun _ => rfl) (fun _ => rfl) (fun _ => rfl)) ?_
   refine zw ?_
   refine ob' h fun e35 g36 h => ?_
   refine Ops.v rfl (Y6c (p := 0) Ybx.h rfl rfl rfl g36 rfl) ?_
   refine Ops.v rfl (Y6d (p := 0) Ybi.h rfl rfl (Y2f g36).2.2 rfl) ?_
   refine Ops.hd (ns := [0]) rfl rfl (Y6f (e' := (Y9v.mk e35.id e35.room e35.author (IntKind.i64.wrap ((IntKind.i64.wrap ((IntKind.i64.wrap (x26 + 1)) + 1)) + 1)) e35.key e35.n e35.text e35.prev e35.time)) ld_2.h rfl rfl (One.val rfl) (Y2f g36).2.2 (fun _ => rfl) (fun _ => rfl) (fun _ => rfl)) ?_
   refine zw ?_
   refine ob' h fun e37 g38 h => ?_
   refine Ops.v rfl (Y6c (p := 0) Ybx.h rfl rfl rfl g38 rfl) ?_
   refine Ops.v rfl (Y6d (p := 0) Ybk.h rfl rfl (Y2f g38).2.2 rfl) ?_
   refine Ops.hd (ns := [0]) rfl rfl (Y6f (e' := (Y9v.mk e37.id e37.room e37.author e37.kind (IntKind.i64.wrap ((IntKind.i64.wrap ((IntKind.i64.wrap ((IntKind.i64.wrap (x26 + 1)) + 1)) + 1)) + 1)) e37.n e37.text e37.prev e37.time)) ld_2.h rfl rfl (One.val rfl) (Y2f g38).2.2 (fun _ => rfl) (fun _ => rfl) (fun _ => rfl)) ?_
   refine zw ?_
   refine ob' h fun e39 g40 h => ?_
   refine Ops.v rfl (Y6c (p := 0) Ybx.h rfl rfl rfl g40 rfl) ?_
   refine Ops.v rfl (Y6d (p := 0) Ybm.h rfl rfl (Y2f g40).2.2 rfl) ?_
   refine Ops.hd (ns := [0]) rfl rfl (Y6f (e' := (Y9v.mk e39.id e39.room e39.author e39.kind e39.key (IntKind.i64.wrap ((IntKind.i64.wrap ((IntKind.i64.wrap ((IntKind.i64.wrap ((IntKind.i64.wrap (x26 + 1)) + 1)) + 1)) + 1)) + 1)) e39.text e39.prev e39.time)) ld_2.h rfl rfl (One.val rfl) (Y2f g40).2.2 (fun _ => rfl) (fun _ => rfl) (fun _ => rfl)) ?_
   refine zw ?_
   refine oc h fun r41 g42 h => ?_
   refine ob' h fun e43 g44 h => ?_
   refine Ops.v rfl (Y6c (p := 0) Ybx.h rfl rfl rfl g44 rfl) ?_
   refine Ops.v rfl (Y6d (p := 0) Ybn.h rfl rfl (Y2f g44).2.2 rfl) ?_
   refine Ops.hd (ns := [0]) rfl rfl (Y6f (e' := (Y9v.mk e43.id e43.room e43.author e43.kind e43.key e43.n r41 e43.prev e43.time)) ld_9.h rfl rfl (One.val rfl) (Y2f g44).2.2 (fun _ => rfl) (fun _ => rfl) (fun _ => rfl)) ?_
   refine zw ?_
   refine ob' h fun e45 g46 h => ?_
   refine Ops.v rfl (Y6c (p := 0) Ybx.h rfl rfl rfl g46 rfl) ?_
   refine Ops.v rfl (Y6d (p := 0) Ybo.h rfl rfl (Y2f g46).2.2 rfl) ?_
   refine Ops.take (p := 0) rfl (Y2f g46).2.2 fun q47 => ?_
   refine Ops.v rfl (Y6e (p := 1) Yaw.h rfl rfl (Y2f g46).2.2 rfl rfl) ?_
   refine zw ?_
   refine ob' h fun r48 g49 h => ?_
   refine Ops.hd (ns := [0]) rfl rfl (Y28 ((Zj6 e45.prev (IntKind.i64.wrap ((IntKind.i64.wrap ((IntKind.i64.wrap ((IntKind.i64.wrap ((IntKind.i64.wrap ((IntKind.i64.wrap ((IntKind.i64.wrap (x26 + 1)) + 1)) + 1)) + 1)) + 1)) + 1)) + 1))).h _ _ g49) rfl rfl) ?_
   refine Ops.ghost (Y25.back (x' := (Y9v.mk e45.id e45.room e45.author e45.kind e45.key e45.n e45.text r48.2 e45.time)) (ns := [1, 0]) rfl (Y2f g46).2.2 rfl rfl) ?_
   refine zw ?_
   refine ob' h fun e50 g51 h => ?_
   refine Ops.v rfl (Y6c (p := 0) Ybx.h rfl rfl rfl g51 rfl) ?_
   refine Ops.v rfl (Y6d (p := 0) Ybq.h rfl rfl (Y2f g51).2.2 rfl) ?_
   refine Ops.hd (ns := [0]) rfl rfl (Y6f (e' := (Y9v.mk e50.id e50.room e50.author e50.kind e50.key e50.n e50.text e50.prev r48.1)) ld_2.h rfl rfl (One.val rfl) (Y2f g51).2.2 (fun _ => rfl) (fun _ => rfl) (fun _ => rfl)) ?_
   refine zw ?_
   obtain rfl := Wj h
   exact ⟨k60, ((List.set (List.set (List.set (List.set (List.set (List.set (List.set (List.set (List.set l25 (Int.toNat x27) (Y9v.mk x26 e29.room e29.author e29.kind e29.key e29.n e29.text e29.prev e29.time)) (Int.toNat x27) (Y9v.mk e31.id (IntKind.i64.wrap (x26 + 1)) e31.author e31.kind e31.key e31.n e31.text e31.prev e31.time)) (Int.toNat x27) (Y9v.mk e33.id e33.room (IntKind.i64.wrap ((IntKind.i64.wrap (x26 + 1)) + 1)) e33.kind e33.key e33.n e33.text e33.prev e33.time)) (Int.toNat x27) (Y9v.mk e35.id e35.room e35.author (IntKind.i64.wrap ((IntKind.i64.wrap ((IntKind.i64.wrap (x26 + 1)) + 1)) + 1)) e35.key e35.n e35.text e35.prev e35.time)) (Int.toNat x27) (Y9v.mk e37.id e37.room e37.author e37.kind (IntKind.i64.wrap ((IntKind.i64.wrap ((IntKind.i64.wrap ((IntKind.i64.wrap (x26 + 1)) + 1)) + 1)) + 1)) e37.n e37.text e37.prev e37.time)) (Int.toNat x27) (Y9v.mk e39.id e39.room e39.author e39.kind e39.key (IntKind.i64.wrap ((IntKind.i64.wrap ((IntKind.i64.wrap ((IntKind.i64.wrap ((IntKind.i64.wrap (x26 + 1)) + 1)) + 1)) + 1)) + 1)) e39.text e39.prev e39.time)) (Int.toNat x27) (Y9v.mk e43.id e43.room e43.author e43.kind e43.key e43.n r41 e43.prev e43.time)) (Int.toNat x27) (Y9v.mk e45.id e45.room e45.author e45.kind e45.key e45.n e45.text r48.2 e45.time)) (Int.toNat x27) (Y9v.mk e50.id e50.room e50.author e50.kind e50.key e50.n e50.text e50.prev r48.1)), (IntKind.i64.wrap (r48.1 + 1)), (IntKind.i64.wrap (x27 + 1))), hlt_k60, h63, Y25.both (ns := [0]) rfl rfl⟩
  refine AW.cf hb28 rfl ?_
  refine AW.exit ?_
  obtain rfl := Wj h
  obtain rfl := Wj h63
  replace h := q59
  exact ⟨(x26, l25), h, Y25.both (ns := [0]) rfl rfl⟩
 rintro ⟨x52, l53⟩ h
 replace h : Zj7 x52 l53 = some r := h
 unfold Zj7 at h
 refine zw ?_
 refine AW.ret ?_
 rw [← Wj h]
 exact finI ⟨[cI x52], _, Y25.refl _, (.cons (.tmp rfl) .nil), [0], _, _, rfl, ⟨rfl, rfl⟩⟩
instance Zjb (p0 : List Y9v) (p1 : Int) : SpO Tryz.prog 296 (Zj9 p0 p1) (.x fun (w00 : Value) => .d [cV w00, cI p1] [Obj.deep w00 42 Ya9 Yaa 9 p0] fun r => .d (cI r.1) [Obj.deep w00 42 Ya9 Yaa 9 r.2]) := ⟨fun w00 r h => Zja p0 p1 r h⟩

def Zjc (x30 : Int) (l31 : List Y9y) : Option (Int × List Y9y) := some (x30, l31)
def Zjd (l14 : List Y9y) (x15 : Int) (x16 : Int) : Option ((List Y9y × Int × Int) ⊕ ((Int × List Y9y))) := cond (decide (x16 < (l14.length : Int))) ((getI l14 x16).bind fun e18 => (getI (List.set l14 (Int.toNat x16) (Y9y.mk x15 e18.events e18.parked)) x16).bind fun e20 => (Zj9 e20.events (IntKind.i64.wrap (x15 + 1))).bind fun r23 => (getI (List.set (List.set l14 (Int.toNat x16) (Y9y.mk x15 e18.events e18.parked)) (Int.toNat x16) (Y9y.mk e20.room r23.2 e20.parked)) x16).bind fun e25 => (Zj9 e25.parked r23.1).bind fun r28 => some (.inl ((List.set (List.set (List.set l14 (Int.toNat x16) (Y9y.mk x15 e18.events e18.parked)) (Int.toNat x16) (Y9y.mk e20.room r23.2 e20.parked)) (Int.toNat x16) (Y9y.mk e25.room e25.events r28.2)), r28.1, (IntKind.i64.wrap (x16 + 1))))) (some (.inr (x15, l14)))
def Zje (p0 : List Y9y) (p1 : Int) : Option (Int × List Y9y) := (iter (fun z32 => Zjd z32.1 z32.2.1 z32.2.2) big (p0, p1, 0)).bind fun (y33, y34) => Zjc y33 y34
theorem Zjf {w00 : Value} (p0 : List Y9y) (p1 : Int) (r : Int × List Y9y) (h : Zje p0 p1 = some r) : Ok Tryz.prog 183 [cV w00, cI p1] [Obj.deep w00 25 Yac Yad 3 p0] (fun c qs => c = cI r.1 ∧ qs = [Obj.deep w00 25 Yac Yad 3 r.2]) := by
 refine Ok.of_body (rs := [.tmp 4]) Tryz.func183 rfl rfl rfl rfl rfl fun X => ?_
 unfold Zje at h
 refine AW.seq ?_
 refine AW.region ?_
 refine Ops.v rfl (Ys rfl rfl) ?_
 refine Ops.nil ?_
 refine AW.seq ?_
 refine AW.cut (τ := Int × List Y9y) (fun (x30, l31) => ⟨[(1, cI x30)], [Obj.deep w00 25 Yac Yad 3 l31]⟩) (fun (x30, l31) => Zjc x30 l31 = some r) ?_ ?_
 ·
  refine zw ?_
  refine ob' h fun o35 g36 q37 => ?_
  refine AW.loop (τ := List Y9y × Int × Int) (x := (p0, p1, 0)) (fun (l14, x15, x16) => ⟨[(0, cV w00), (1, cI x15), (5, cI x16)], [Obj.deep w00 25 Yac Yad 3 l14]⟩) (fun k (l14, x15, x16) => iter (fun z32 => Zjd z32.1 z32.2.1 z32.2.2) k (l14, x15, x16) = some o35) g36 (Y25.both (ns := [0]) rfl rfl) ?_
  rintro k ⟨l14, x15, x16⟩ i39
  refine Y4d (show iter (fun z32 => Zjd z32.1 z32.2.1 z32.2.2) k (l14, x15, x16) = some o35 from i39) fun k38 y40 hlt_k38 h h41 => ?_
  replace h : Zjd l14 x15 x16 = some y40 := h
  unfold Zjd at h
  refine zw ?_
  refine Ops.v rfl (Y6a (p := 0) Yc9.h rfl rfl rfl) ?_
  refine zw ?_
  refine cnd h (fun hb17 h => ?_) fun hb17 h => ?_
  ·
   refine AW.ct hb17 rfl ?_
   refine zw ?_
   refine ob' h fun e18 g19 h => ?_
   refine Ops.v rfl (Y6c (p := 0) Yc9.h rfl rfl rfl g19 rfl) ?_
   refine Ops.v rfl (Y6d (p := 0) Yc0.h rfl rfl (Y2f g19).2.2 rfl) ?_
   refine Ops.hd (ns := [0]) rfl rfl (Y6f (e' := (Y9y.mk x15 e18.events e18.parked)) ld_2.h rfl rfl (One.val rfl) (Y2f g19).2.2 (fun _ => rfl) (fun _ => rfl) (fun _ => rfl)) ?_
   refine zw ?_
   refine ob' h fun e20 g21 h => ?_
   refine Ops.v rfl (Y6c (p := 0) Yc9.h rfl rfl rfl g21 rfl) ?_
   refine Ops.v rfl (Y6d (p := 0) Yc1.h rfl rfl (Y2f g21).2.2 rfl) ?_
   refine Ops.take (p := 0) rfl (Y2f g21).2.2 fun q22 => ?_
   refine Ops.v rfl (Y6e (p := 2) Yc2.h rfl rfl (Y2f g21).2.2 rfl rfl) ?_
   refine zw ?_
   refine ob' h fun r23 g24 h => ?_
   refine Ops.hd (ns := [0]) rfl rfl (Y28 (Zja e20.events (IntKind.i64.wrap (x15 + 1)) _ g24) rfl rfl) ?_
   refine Ops.ghost (Y25.back (x' := (Y9y.mk e20.room r23.2 e20.parked)) (ns := [2, 0, 0]) rfl (Y2f g21).2.2 rfl rfl) ?_
   refine zw ?_
   refine ob' h fun e25 g26 h => ?_
   refine Ops.v rfl (Y6c (p := 0) Yc9.h rfl rfl rfl g26 rfl) ?_
   refine Ops.v rfl (Y6d (p := 0) Yc3.h rfl rfl (Y2f g26).2.2 rfl) ?_
   refine Ops.take (p := 0) rfl (Y2f g26).2.2 fun q27 => ?_
   refine Ops.v rfl (Y6e (p := 2) Yc2.h rfl rfl (Y2f g26).2.2 rfl rfl) ?_
   refine zw ?_
   refine ob' h fun r28 g29 h => ?_
   refine Ops.hd (ns := [1]) rfl rfl (Y28 (Zja e25.parked r23.1 _ g29) rfl rfl) ?_
   refine Ops.ghost (Y25.back (x' := (Y9y.mk e25.room e25.events r28.2)) (ns := [2, 1, 0]) rfl (Y2f g26).2.2 rfl rfl) ?_
   refine zw ?_
   obtain rfl := Wj h
   exact ⟨k38, ((List.set (List.set (List.set l14 (Int.toNat x16) (Y9y.mk x15 e18.events e18.parked)) (Int.toNat x16) (Y9y.mk e20.room r23.2 e20.parked)) (Int.toNat x16) (Y9y.mk e25.room e25.events r28.2)), r28.1, (IntKind.i64.wrap (x16 + 1))), hlt_k38, h41, Y25.both (ns := [0]) rfl rfl⟩
  refine AW.cf hb17 rfl ?_
  refine AW.exit ?_
  obtain rfl := Wj h
  obtain rfl := Wj h41
  replace h := q37
  exact ⟨(x15, l14), h, Y25.both (ns := [0]) rfl rfl⟩
 rintro ⟨x30, l31⟩ h
 replace h : Zjc x30 l31 = some r := h
 unfold Zjc at h
 refine zw ?_
 refine AW.ret ?_
 rw [← Wj h]
 exact finI ⟨[cI x30], _, Y25.refl _, (.cons (.tmp rfl) .nil), [0], _, _, rfl, ⟨rfl, rfl⟩⟩
instance Zjg (p0 : List Y9y) (p1 : Int) : SpO Tryz.prog 183 (Zje p0 p1) (.x fun (w00 : Value) => .d [cV w00, cI p1] [Obj.deep w00 25 Yac Yad 3 p0] fun r => .d (cI r.1) [Obj.deep w00 25 Yac Yad 3 r.2]) := ⟨fun w00 r h => Zjf p0 p1 r h⟩

def Zjh (x14 : Int) (l15 : List Y9x) : Option (Int × List Y9x) := some (x14, l15)
def Zji (l6 : List Y9x) (x7 : Int) (x8 : Int) : Option ((List Y9x × Int × Int) ⊕ ((Int × List Y9x))) := cond (decide (x8 < (l6.length : Int))) ((getI l6 x8).bind fun e10 => (getI (List.set l6 (Int.toNat x8) (Y9x.mk x7 e10.id)) x8).bind fun e12 => some (.inl ((List.set (List.set l6 (Int.toNat x8) (Y9x.mk x7 e10.id)) (Int.toNat x8) (Y9x.mk e12.room (IntKind.i64.wrap (x7 + 1)))), (IntKind.i64.wrap ((IntKind.i64.wrap (x7 + 1)) + 1)), (IntKind.i64.wrap (x8 + 1))))) (some (.inr (x7, l6)))
def Zjj (p0 : List Y9x) (p1 : Int) : Option (Int × List Y9x) := (iter (fun z16 => Zji z16.1 z16.2.1 z16.2.2) big (p0, p1, 0)).bind fun (y17, y18) => Zjh y17 y18
instance Zjk (p0 : List Y9x) (p1 : Int) : SpO Tryz.prog 60 (Zjj p0 p1) (.x fun (w00 : Value) => .d [cV w00, cI p1] [oA w00 187 Ya8 2 p0] fun r => .d (cI r.1) [oA w00 187 Ya8 2 r.2]) := ⟨fun w00 => so Tryz.func60 rfl rfl fun r X h => gh (.q 1 (.c2 (fun x14 l15 => .d [(1, cI x14)] [oA w00 187 Ya8 2 l15]) [] [] (.l3 (fun l6 x7 x8 => .d [(1, cI x7), (5, cI x8)] [oA w00 187 Ya8 2 l6]) [0] [] .z) .z))⟩

def Zjl (p0 : Y9z) (p1 : Int) : Option (Int × List Y9y × List Y9x) := (Zje p0.rooms p1).bind fun r2 => (Zjj p0.stream r2.1).bind fun r4 => some (r4.1, r2.2, r4.2)
instance Zjm (p0 : Y9z) (p1 : Int) : SpO Tryz.prog 59 (Zjl p0 p1) (.x fun (w00 : Value) => .x fun (w01 : Value) => .d [C.agg [cV w00, cV w01], cI p1] [Obj.deep w00 25 Yac Yad 3 p0.rooms, oA w01 187 Ya8 2 p0.stream] fun r => .d (cI r.1) [Obj.deep w00 25 Yac Yad 3 r.2.1, oA w01 187 Ya8 2 r.2.2]) := ⟨fun w00 w01 => so Tryz.func59 rfl rfl fun r X h => gh .z⟩

def Zjn (x13 : Int) : Option Int := some x13
def Zjo (p0 : List Y9x) (x6 : Int) (x7 : Int) : Option ((Int × Int) ⊕ (Int ⊕ Int)) := cond (decide (x7 < (p0.length : Int))) ((getI p0 x7).bind fun e9 => cond (e9.room != x6) (some (.inr (.inl (-1)))) (cond (e9.id != (IntKind.i64.wrap (x6 + 1))) (some (.inr (.inl (-1)))) (some (.inl ((IntKind.i64.wrap ((IntKind.i64.wrap (x6 + 1)) + 1)), (IntKind.i64.wrap (x7 + 1))))))) (some (.inr (.inr x6)))
def Zjp (p0 : List Y9x) (p1 : Int) : Option Int := (iter (fun z14 => Zjo p0 z14.1 z14.2) big (p1, 0)).bind (fun z17 => match z17 with | .inl y15 => some y15 | .inr y16 => Zjn y16)
instance Zjq (p0 : List Y9x) (p1 : Int) : Sp Tryz.prog 61 [cM Ya8 2 p0, cI p1] (Zjp p0 p1) (fun r => cI r) := Sp.of (so Tryz.func61 rfl rfl fun r X h => gh (.q 1 (.c1 (fun x13 => .d [(1, cI x13)] []) [] [] (.l2 (fun x6 x7 => .d [(1, cI x6), (5, cI x7)] []) [0] [] .z) .z)))

def Zjr (p0 : THub) (p1 : Int) (p2 : ByteArray) (r8 : List Y9x) (r15 : List Y9x) (x44 : Bool) : Option Bool := cond x44 (some false) ((Zjj r15 1).bind fun r46 => (Zjp r46.2 1).bind fun r48 => cond (decide (r48 < 0)) (some false) (cond (r48 != r46.1) (some false) ((Z17 p0).bind fun r52 => (Zi9 r52 p1 p2).bind fun r54 => (Zif r54 r8).bind fun r56 => cond r56 ((Zjp r46.2 1).bind fun r59 => cond (decide (r59 < 0)) (some false) (cond (r59 != r46.1) (some false) (some true))) (some false))))
def Zjs (p0 : THub) (p1 : Int) (p2 : ByteArray) : Option Bool := cond (decide ((p2.size : Int) > 1048576)) (some true) ((Zh p0 1048576).bind fun r3 => cond (decide (r3 < 0)) (some true) ((Z17 p0).bind fun r6 => (Z7r r6 p1 p2).bind fun r8 => (Z17 p0).bind fun r10 => (Zi9 r10 p1 p2).bind fun r15 => (Zif r15 r8).bind fun r19 => cond r19 ((Z17 p0).bind fun r34 => (Zix r10 r34).bind fun r36 => cond r36 ((Zjl r10 1).bind fun r39 => cond (decide (r39.1 < 0)) (Zjr p0 p1 p2 r8 r15 true) ((Zif r15 r8).bind fun r42 => Zjr p0 p1 p2 r8 r15 (!r42))) (some false)) (some false)))
instance Zjt (p0 : THub) (p1 : Int) (p2 : ByteArray) : Sp Tryz.prog 6 [C.agg [cM Ya7 3 p0.rooms, cM Ya8 2 p0.stream], cI p1, C.str p2] (Zjs p0 p1 p2) (fun r => C.bool r) := Sp.of (so Tryz.func6 rfl rfl fun r X h => gh (.b .z (.b .z (.p (.p (.k (.k (.b (.r [0,2,2] [0,1] [] [1,5,10,14,16] (.b (.q 3 (.c1 (fun x44 => .d [(53, C.bool x44)] []) [1,2,3,8,10] [4,2] .z .z)) .z)) .z))))))))

end Go.Proofs.YtmaefakalikkiaaGreat
