/- Printed by gen.py: plain functions for Go functions, and that the walks keep to them. -/
import Derived.Test.YtnoknphekhclcaaGreatDoorFQ3
set_option autoImplicit false
set_option linter.unusedVariables false
set_option linter.unusedSimpArgs false
set_option maxHeartbeats 8000000
set_option maxRecDepth 100000
namespace Go.Proofs.YtnoknphekhclcaaGreatDoor
open Go Go.Abs
attribute [local irreducible] AW Ops OpsD Y3z VoK HoK GhF UsC Go.Abs.Fin PkK LenT LenL Y9l BldK FzK FzLK
def Zez (l205 : List Ya5) : Option (List Ya5) := some l205
def Zf0 (x194 : Int) (l204 : List Ya5) : Option ((List Ya5 × Int) ⊕ ((List Ya5))) := some (.inl (l204, (IntKind.i64.wrap (x194 + 1))))
def Zf1 (p0 : Ya9) (r176 : List Y9z) (l193 : List Ya5) (x194 : Int) : Option ((List Ya5 × Int) ⊕ ((List Ya5))) := cond (decide (x194 < (r176.length : Int))) ((getI r176 x194).bind fun e196 => (Zeb p0.graph l193 e196).bind fun r199 => cond (r199 == 0) ((Zen l193 (Ya5.mk e196.kind e196.key e196.id)).bind fun r202 => Zf0 x194 r202) (Zf0 x194 l193)) (some (.inr l193))
def Zf2 (p0 : Ya9) (l37 : List Ya5) (l175 : List Y9z) : Option (List Ya5) := (Y8d (fun z1 z2 => Zex z1 z2 p0) l175).bind fun r176 => (iter (fun z206 => Zf1 p0 r176 z206.1 z206.2) big (l37, 0)).bind fun y207 => Zez y207
def Zf3 (x113 : Int) (l172 : List Y9z) (m173 : List (Int × Bool)) : Option ((List Y9z × (List (Int × Bool)) × Int) ⊕ ((List Y9z))) := some (.inl (l172, m173, (IntKind.i64.wrap (x113 + 1))))
def Zf4 (x145 : Int) (l169 : List Y9z) (m170 : List (Int × Bool)) : Option ((List Y9z × (List (Int × Bool)) × Int) ⊕ ((List Y9z × (List (Int × Bool))))) := some (.inl (l169, m170, (IntKind.i64.wrap (x145 + 1))))
def Zf5 (l143 : List Y9z) (m144 : List (Int × Bool)) (x145 : Int) (e147 : Ya5) (x155 : Int) (x156 : Int) (x157 : Int) (x158 : Int) (x159 : Int) (x160 : Int) (x161 : ByteArray) (l162 : List Int) (x163 : Int) : Option ((List Y9z × (List (Int × Bool)) × Int) ⊕ ((List Y9z × (List (Int × Bool))))) := (chk (decide ((l143.length + [(Y9z.mk x155 x156 x157 x158 x159 x160 x161 l162 x163)].length) * 96 ≤ 140737488355328))).bind fun u166 => Zf4 x145 (l143 ++ [(Y9z.mk x155 x156 x157 x158 x159 x160 x161 l162 x163)]) (mset m144 e147.id true)
def Zf6 (p0 : Ya9) (e115 : List Ya5) (l143 : List Y9z) (m144 : List (Int × Bool)) (x145 : Int) : Option ((List Y9z × (List (Int × Bool)) × Int) ⊕ ((List Y9z × (List (Int × Bool))))) := cond (decide (x145 < (e115.length : Int))) ((getI e115 x145).bind fun e147 => cond (Option.getD (mget m144 e147.id) false) (Zf4 x145 l143 m144) ((Zct p0.graph e147.id).bind fun r151 => Zf5 l143 m144 x145 e147 r151.1.id r151.1.room r151.1.author r151.1.kind r151.1.key r151.1.n r151.1.text r151.1.prev r151.1.time)) (some (.inr (l143, m144)))
def Zf7 (p0 : Ya9) (p1 : List (List Ya5)) (l111 : List Y9z) (m112 : List (Int × Bool)) (x113 : Int) : Option ((List Y9z × (List (Int × Bool)) × Int) ⊕ ((List Y9z))) := cond (decide (x113 < (p1.length : Int))) ((getI p1 x113).bind fun e115 => (iter (fun z208 => Zf6 p0 e115 z208.1 z208.2.1 z208.2.2) big (l111, m112, 0)).bind fun (y209, y210) => Zf3 x113 y209 y210) (some (.inr l111))
def Zf8 (p0 : Ya9) (p1 : List (List Ya5)) (l37 : List Ya5) (m49 : List (Int × Bool)) : Option (List Ya5) := (iter (fun z211 => Zf7 p0 p1 z211.1 z211.2.1 z211.2.2) big (([] : List Y9z), m49, 0)).bind fun y212 => Zf2 p0 l37 y212
def Zf9 (l37 : List Ya5) (m43 : List (Int × Bool)) (x44 : Int) : Option (((List (Int × Bool)) × Int) ⊕ ((List (Int × Bool)))) := cond (decide (x44 < (l37.length : Int))) ((getI l37 x44).bind fun e46 => some (.inl ((mset m43 e46.id true), (IntKind.i64.wrap (x44 + 1))))) (some (.inr m43))
def Zfa (p0 : Ya9) (p1 : List (List Ya5)) (l37 : List Ya5) : Option (List Ya5) := (iter (fun z213 => Zf9 l37 z213.1 z213.2) big (([] : List (Int × Bool)), 0)).bind fun y214 => Zf8 p0 p1 l37 y214
def Zfb (x22 : Int) (l35 : List Ya5) : Option ((List Ya5 × Int) ⊕ ((List Ya5))) := some (.inl (l35, (IntKind.i64.wrap (x22 + 1))))
def Zfc (p1 : List (List Ya5)) (e5 : List Ya5) (l21 : List Ya5) (x22 : Int) : Option ((List Ya5 × Int) ⊕ ((List Ya5))) := cond (decide (x22 < (e5.length : Int))) ((getI e5 x22).bind fun e24 => (Zev p1 e24).bind fun r27 => cond r27 (Zfb x22 l21) ((chk (decide ((l21.length + [e24].length) * 24 ≤ 140737488355328))).bind fun u32 => Zfb x22 (l21 ++ [e24]))) (some (.inr l21))
def Zfd (p0 : Ya9) (p1 : List (List Ya5)) : Option (List Ya5) := cond (decide ((p1.length : Int) > 0)) ((getI p1 0).bind fun e5 => (iter (fun z215 => Zfc p1 e5 z215.1 z215.2) big (([] : List Ya5), 0)).bind fun y216 => Zfa p0 p1 y216) (Zfa p0 p1 ([] : List Ya5))
instance Zfe (p0 : Ya9) (p1 : List (List Ya5)) : SpO Tryz.prog 151 (Zfd p0 p1) (.x fun (b00 : Nat) => .x fun (b01 : Nat) => .x fun (b02 : Nat) => .x fun (b03 : Nat) => .x fun (b04 : Nat) => .d [pt b00, cM Yak 1 p1] [oB b00 136 [cI p0.graph.room, cM Yab 9 p0.graph.events, cM Yab 9 p0.graph.parked, mt b01, mt b02, mt b03, mt b04], Abs.Obj.map b01 .i64 Yap p0.depth, Abs.Obj.map b02 .i64 Yaq p0.before, Abs.Obj.map b03 .i64 Yaq p0.after, Abs.Obj.map b04 .i64 Yap p0.refused] fun r => .d (cM Yaj 3 r) [oB b00 136 [cI p0.graph.room, cM Yab 9 p0.graph.events, cM Yab 9 p0.graph.parked, mt b01, mt b02, mt b03, mt b04], Abs.Obj.map b01 .i64 Yap p0.depth, Abs.Obj.map b02 .i64 Yaq p0.before, Abs.Obj.map b03 .i64 Yaq p0.after, Abs.Obj.map b04 .i64 Yap p0.refused]) := ⟨fun b00 b01 b02 b03 b04 => so Tryz.func151 rfl rfl fun r X h => gh (.q 2 (.c1 (fun l37 => .x fun v36 => .d [(5, cV v36)] [oA v36 194 Yaj 3 l37]) [1,2,6] [2,3,4,5,6,7,0] (.b (.l2 (fun l21 x22 => .x fun v20 => .d [(5, cV v20), (29, cI x22)] [oA v20 194 Yaj 3 l21]) [1,2,6,27,28] [2,3,4,5,6,7,0] (.b (.c1 (fun l35 => .x fun v34 => .d [(5, cV v34)] [oA v34 194 Yaj 3 l35]) [1,2,6,27,28,29] [1,2,3,4,5,6,7] .z .z) .z)) .z) (.q 1 (.o 0 fun b38 => .c1 (fun m49 => .d [] [Abs.Obj.map b38 .i64 Yar m49]) [1,2,5,6,9] [2,3,4,5,6,7,1,8] (.O 0 fun b38 => .l2 (fun m43 x44 => .d [(45, cI x44)] [Abs.Obj.map b38 .i64 Yar m43]) [1,2,5,6,9,43,44] [2,3,4,5,6,7,1,8] .z) (.c1 (fun l175 => .x fun v174 => .d [(6, cV v174)] [oA v174 82 Yab 9 l175]) [2,5] [1,2,3,4,5,6,7] (.O 0 fun b38 => .l3 (fun l111 m112 x113 => .x fun v110 => .d [(6, cV v110), (55, cI x113)] [oA v110 82 Yab 9 l111, Abs.Obj.map b38 .i64 Yar m112]) [2,5,9,53,54] [1,2,3,4,5,6,7] (.b (.o 1 fun b38 => .c2 (fun l172 m173 => .x fun v171 => .d [(6, cV v171)] [oA v171 82 Yab 9 l172, Abs.Obj.map b38 .i64 Yar m173]) [2,5,9,53,54,55] [2,3,4,5,6,7,8] (.O 1 fun b38 => .l3 (fun l143 m144 x145 => .x fun v142 => .d [(6, cV v142), (61, cI x145)] [oA v142 82 Yab 9 l143, Abs.Obj.map b38 .i64 Yar m144]) [2,5,9,53,54,55,59,60] [2,3,4,5,6,7,8] (.b (.o 1 fun b38 => .c2 (fun l169 m170 => .x fun v168 => .d [(6, cV v168)] [oA v168 82 Yab 9 l169, Abs.Obj.map b38 .i64 Yar m170]) [2,5,9,53,54,55,59,60,61] [2,3,4,5,6,7,8] (.b .z (.q 1 (.c9 (fun x155 x156 x157 x158 x159 x160 x161 l162 x163 => .x fun b154 => .d [(16, pt b154)] [oB b154 82 [cI x155, cI x156, cI x157, cI x158, cI x159, cI x160, C.str x161, cM kI64 1 l162, cI x163]]) [2,5,6,9,53,54,55,59,60,61] [3,4,5,6,7,8,9,2,0] (.R [0,0,0,0,0,0,0,0,0,0] [0,3,5] [11] (.light 0 true (.light 1 false (.light 2 false (.light 3 true (.light 4 false (.light 5 true (.two 6 10 (.light 7 false (.light 8 false (.light 9 false (.one 10 (.late 11 (.light 12 false .done)))))) (.one 6 (.light 7 false (.light 8 false (.light 9 false (.late 11 (.light 12 false .done))))))))))))) (.H 81 .z)) .z))) .z) .z)) .z) .z)) (.q 1 (.c1 (fun l205 => .d [(5, cM Yaj 3 l205)] []) [] [2,3,4,5,6] (.l2 (fun l193 x194 => .d [(5, cM Yaj 3 l193), (94, cI x194)] []) [2,92,93] [1,2,3,4,5,6,0] (.b (.c1 (fun l204 => .d [(5, cM Yaj 3 l204)] []) [2,92,93,94] [0,1,2,3,4,5,6] (.r [0,0,0,0,0,0,0,0] [0,3,5] [] [1,4,8,13,16,21,26,28] .z) .z) .z)) .z)))))))⟩

def Zff (p0 : List Int) : Option (List Int) := (chk (decide (p0.length * 8 ≤ 140737488355328))).bind fun _ => some p0
theorem Zfg (p0 : List Int) (r : List Int) (h : Zff p0 = some r) : Ok Tryz.prog 161 [cM kI64 1 p0] [] (fun c qs => ∃ (v : Value), c = cV v ∧ qs = [oA v 2 kI64 1 r]) := by
 refine ob' h fun u hc h => ?_
 obtain rfl := Wj h
 have hc := Wo (Y45 hc)
 refine Ok.of_body (rs := [.tmp 2]) Tryz.func161 rfl rfl rfl rfl rfl fun X => ?_
 refine zw ?_
 refine Ops.h (ns := []) rfl rfl (Y61 Yaz.h rfl rfl) ?_
 rintro _ _ ⟨b, hb, rfl, rfl⟩
 refine zw ?_
 refine tf' b (fun hq => ?_) (fun hq => ?_)
 ·
  refine AW.cond rfl (fun _ => ?_) (fun hn => absurd (hq.symm.trans hn) (by decide))
  refine zw ?_
  refine AW.ret ?_
  obtain rfl := hb hq
  exact finI ⟨[cV s0], _, Y25.nil 2 kI64 1, .cons (.tmp rfl) .nil, [0], _, _, rfl, ⟨_, rfl, rfl⟩⟩
 refine AW.cond rfl (fun hn => absurd (hq.symm.trans hn) (by decide)) (fun _ => ?_)
 refine zw ?_
 refine Ops.h (ns := []) rfl rfl (Y3l (k := kI64) (ys := ([] : List Int)) Ybg .nil rfl rfl rfl) ?_
 rintro _ _ ⟨b1, rfl, rfl⟩
 refine zw ?_
 refine Ops.h (ns := [0]) rfl rfl (Y33 Ybg rfl rfl (by simpa using hc) (by simp; omega) rfl) ?_
 rintro _ _ ⟨v, rfl, rfl⟩
 refine zw ?_
 refine AW.ret ?_
 exact finI ⟨[cV v], _, Y25.refl _, .cons (.tmp rfl) .nil, [0], _, _, rfl, ⟨v, rfl, rfl⟩⟩
instance Zfg' (p0 : List Int) : Sp Tryz.prog 161 [cM kI64 1 p0] (Zff p0) (fun r => cM kI64 1 r) := ⟨fun r h => Ok.freeze (Zfg p0 r h) (by rintro c qs ⟨v, rfl, rfl⟩; exact Frz.arr)⟩
instance Zfh (p0 : List Int) : SpO Tryz.prog 161 (Zff p0) (.d [cM kI64 1 p0] [] fun r => .x fun (v : Value) => .d (cV v) [oA v 2 kI64 1 r]) := ⟨fun r h => Zfg p0 r h⟩

def Zfi : Option Bool := some false
def Zfj (x24 : Int) (m36 : List (Int × Bool)) (l38 : List Int) : Option (((List (Int × Bool)) × List Int × Int) ⊕ (Bool ⊕ Unit)) := some (.inl (m36, l38, (IntKind.i64.wrap (x24 + 1))))
def Zfk (p0 : Ya3) (p1 : Int) (m21 : List (Int × Bool)) (l23 : List Int) (x24 : Int) : Option (((List (Int × Bool)) × List Int × Int) ⊕ (Bool ⊕ Unit)) := cond (decide (x24 < (l23.length : Int))) ((getI l23 x24).bind fun e26 => cond (e26 == p1) (some (.inr (.inl true))) (cond (Option.getD (mget m21 e26) false) (Zfj x24 m21 l23) ((Zct p0 e26).bind fun r30 => (chk (decide ((l23.length + r30.1.prev.length) * 8 ≤ 140737488355328))).bind fun u34 => Zfj x24 (mset m21 e26 true) (l23 ++ r30.1.prev)))) (some (.inr (.inr ())))
def Zfl (p0 : Ya3) (p1 : Int) (p2 : Y9z) : Option Bool := (Zff p2.prev).bind fun r4 => (iter (fun z39 => Zfk p0 p1 z39.1 z39.2.1 z39.2.2) big (([] : List (Int × Bool)), r4, 0)).bind (fun z41 => match z41 with | .inl y40 => some y40 | .inr () => Zfi)
instance Zfm (p0 : Ya3) (p1 : Int) (p2 : Y9z) : Sp Tryz.prog 154 [C.agg [cI p0.room, cM Yab 9 p0.events, cM Yab 9 p0.parked], cI p1, C.agg [cI p2.id, cI p2.room, cI p2.author, cI p2.kind, cI p2.key, cI p2.n, C.str p2.text, cM kI64 1 p2.prev, cI p2.time]] (Zfl p0 p1 p2) (fun r => C.bool r) := Sp.of (so Tryz.func154 rfl rfl fun r X h => gh (.k (.c0 (.d [] []) [] [] (.O 1 fun b3 => .l3 (fun m21 l23 x24 => .x fun v22 => .d [(8, cV v22), (9, cI x24)] [Abs.Obj.map b3 .i64 Yar m21, oA v22 2 kI64 1 l23]) [1,3,7] [3] (.b (.o 0 fun b3 => .c2 (fun m36 l38 => .x fun v37 => .d [(8, cV v37)] [Abs.Obj.map b3 .i64 Yar m36, oA v37 2 kI64 1 l38]) [1,3,7,9] [2] .z .z) .z)) .z)))

def Zfn (p0 : Ya9) (p1 : Y9z) (r5 : List Ya5) (x15 : Int) (x29 : Bool) : Option ((List (Int × List Ya5)) × (List (Int × List Ya5)) × (List (Int × Int))) := cond x29 ((Zen r5 (Ya5.mk p1.kind p1.key p1.id)).bind fun r31 => some ((mset p0.before p1.id r5), (mset (mset p0.after p1.id r5) p1.id r31), (mset p0.refused p1.id x15))) (some ((mset p0.before p1.id r5), (mset p0.after p1.id r5), (mset p0.refused p1.id x15)))
def Zfo (p0 : Ya9) (p1 : Y9z) (r5 : List Ya5) (x15 : Int) : Option ((List (Int × List Ya5)) × (List (Int × List Ya5)) × (List (Int × Int))) := cond (x15 == 0) (Zfn p0 p1 r5 x15 (decide (p1.kind ≤ 6))) (Zfn p0 p1 r5 x15 false)
def Zfp (p0 : Ya9) (p1 : Y9z) (r5 : List Ya5) (r7 : Int) (x13 : Bool) : Option ((List (Int × List Ya5)) × (List (Int × List Ya5)) × (List (Int × Int))) := cond x13 (Zfo p0 p1 r5 6) (Zfo p0 p1 r5 r7)
def Zfq (p0 : Ya9) (p1 : Y9z) : Option ((List (Int × List Ya5)) × (List (Int × List Ya5)) × (List (Int × Int))) := (Zcx p0 p1.prev).bind fun r2 => (Zfd p0 r2).bind fun r5 => (Zeb p0.graph r5 p1).bind fun r7 => cond (r7 == 0) (cond (p1.kind == 8) ((Zfl p0.graph p1.key p1).bind fun r11 => Zfp p0 p1 r5 r7 (!r11)) (Zfp p0 p1 r5 r7 false)) (Zfp p0 p1 r5 r7 false)
instance Zfr (p0 : Ya9) (p1 : Y9z) : SpO Tryz.prog 120 (Zfq p0 p1) (.x fun (b00 : Nat) => .x fun (b01 : Nat) => .x fun (b02 : Nat) => .x fun (b03 : Nat) => .x fun (b04 : Nat) => .d [pt b00, C.agg [cI p1.id, cI p1.room, cI p1.author, cI p1.kind, cI p1.key, cI p1.n, C.str p1.text, cM kI64 1 p1.prev, cI p1.time]] [oB b00 136 [cI p0.graph.room, cM Yab 9 p0.graph.events, cM Yab 9 p0.graph.parked, mt b01, mt b02, mt b03, mt b04], Abs.Obj.map b01 .i64 Yap p0.depth, Abs.Obj.map b02 .i64 Yaq p0.before, Abs.Obj.map b03 .i64 Yaq p0.after, Abs.Obj.map b04 .i64 Yap p0.refused] fun r => .d (C.tup []) [oB b00 136 [cI p0.graph.room, cM Yab 9 p0.graph.events, cM Yab 9 p0.graph.parked, mt b01, mt b02, mt b03, mt b04], Abs.Obj.map b01 .i64 Yap p0.depth, Abs.Obj.map b02 .i64 Yaq r.1, Abs.Obj.map b03 .i64 Yaq r.2.1, Abs.Obj.map b04 .i64 Yap r.2.2]) := ⟨fun b00 b01 b02 b03 b04 => so Tryz.func120 rfl rfl fun r X h => gh (.f 10 [] (.r [0,0,0,0,0,0] [3,5] [] [0,4,8,13,16,21,26,28] (.c1 (fun x15 => .d [(5, cI x15)] []) [0,3,4] [0,1,2,3,4,5] (.c1 (fun x13 => .d [(36, C.bool x13)] []) [0,3,4,5] [0,1,2,3,4,5] (.r [0,0,0,0,0,0] [4,11,13,14] [] [0,4,8,12,17,20,24,28,32,36,40,45,48,53,57,62,64,68] .z) .z) (.r [0,0,3] [3,5,9,11,15,17] [29] [0,4,8,13,16,21,24,28,32,37,40,45,48,52,56,61,64,69,72,76,80,86,88,94,98,100,106,110,112,119] (.c1 (fun x29 => .d [(70, C.bool x29)] []) [0,3,4] [1,2,5,4,0,3] .z (.b (.r [0,0,0,0,0,0] [3,5,8,10,12] [15] [0,4,8,13,16,21,24,28,33,36,41,44,49,52,58,63] .z) .z))))))⟩

def Zfs (p0 : Ya3) (m23 : List (Int × Int)) (m46 : List (Int × List Ya5)) (m47 : List (Int × List Ya5)) (m48 : List (Int × Int)) : Option Ya9 := some (Ya9.mk p0 m23 m46 m47 m48)
def Zft (p0 : Ya3) (m23 : List (Int × Int)) (r24 : List Int) (m34 : List (Int × List Ya5)) (m35 : List (Int × List Ya5)) (m36 : List (Int × Int)) (x37 : Int) : Option (((List (Int × List Ya5)) × (List (Int × List Ya5)) × (List (Int × Int)) × Int) ⊕ (((List (Int × List Ya5)) × (List (Int × List Ya5)) × (List (Int × Int))))) := cond (decide (x37 < (r24.length : Int))) ((getI r24 x37).bind fun e39 => (Zct p0 e39).bind fun r41 => (Zfq (Ya9.mk p0 m23 m34 m35 m36) r41.1).bind fun r44 => some (.inl (r44.1, r44.2.1, r44.2.2, (IntKind.i64.wrap (x37 + 1))))) (some (.inr (m34, m35, m36)))
def Zfu (p0 : Ya3) (m23 : List (Int × Int)) : Option Ya9 := (Zcr p0).bind fun r24 => (iter (fun z54 => Zft p0 m23 r24 z54.1 z54.2.1 z54.2.2.1 z54.2.2.2) big (([] : List (Int × List Ya5)), ([] : List (Int × List Ya5)), ([] : List (Int × Int)), 0)).bind fun (y55, y56, y57) => Zfs p0 m23 y55 y56 y57
def Zfv (p0 : Ya3) (r7 : List Int × Bool) (m15 : List (Int × Int)) (x16 : Int) : Option (((List (Int × Int)) × Int) ⊕ ((List (Int × Int)))) := cond (decide (x16 < (p0.events.length : Int))) ((getI p0.events x16).bind fun e18 => (getI r7.1 x16).bind fun e21 => some (.inl ((mset m15 e18.id e21), (IntKind.i64.wrap (x16 + 1))))) (some (.inr m15))
def Zfw (p0 : Ya3) : Option Ya9 := (Zaq p0).bind fun r7 => (iter (fun z58 => Zfv p0 r7 z58.1 z58.2) big (([] : List (Int × Int)), 0)).bind fun y59 => Zfu p0 y59
instance Zfx (p0 : Ya3) : SpO Tryz.prog 78 (Zfw p0) (.d [C.agg [cI p0.room, cM Yab 9 p0.events, cM Yab 9 p0.parked]] [] fun r => .x fun (b49 : Nat) => .x fun (b50 : Nat) => .x fun (b51 : Nat) => .x fun (b52 : Nat) => .x fun (b53 : Nat) => .d (pt b49) [oB b49 136 [cI r.graph.room, cM Yab 9 r.graph.events, cM Yab 9 r.graph.parked, mt b50, mt b51, mt b52, mt b53], Abs.Obj.map b50 .i64 Yap r.depth, Abs.Obj.map b51 .i64 Yaq r.before, Abs.Obj.map b52 .i64 Yaq r.after, Abs.Obj.map b53 .i64 Yap r.refused]) := ⟨so Tryz.func78 rfl rfl fun r X h => gh (.q 3 (.o 4 fun b2 => .c1 (fun m23 => .d [] [Abs.Obj.map b2 .i64 Yap m23]) [1,3] [5,0,3,2,1] (.O 4 fun b2 => .l2 (fun m15 x16 => .d [(27, cI x16)] [Abs.Obj.map b2 .i64 Yap m15]) [1,3,4,25,26] [5,0,3,2,1] (.b (.r [0,0,0,0,0,0,0] [3,5,9] [10] [0,4,8,13,16,21,24,28,32,37,43] .z) .z)) (.o 3 fun b3 => .o 4 fun b4 => .o 5 fun b5 => .c3 (fun m46 m47 m48 => .d [] [Abs.Obj.map b3 .i64 Yaq m46, Abs.Obj.map b4 .i64 Yaq m47, Abs.Obj.map b5 .i64 Yap m48]) [3] [2,0] (.O 3 fun b3 => .O 4 fun b4 => .O 5 fun b5 => .l4 (fun m34 m35 m36 x37 => .d [(46, cI x37)] [Abs.Obj.map b3 .i64 Yaq m34, Abs.Obj.map b4 .i64 Yaq m35, Abs.Obj.map b5 .i64 Yap m36]) [1,3,44,45] [1,2,0] .z) .z)))⟩
instance Zfx' (p0 : Ya3) : Sp Tryz.prog 78 [C.agg [cI p0.room, cM Yab 9 p0.events, cM Yab 9 p0.parked]] (Zfw p0) (fun r => C.ip [cI r.graph.room, cM Yab 9 r.graph.events, cM Yab 9 r.graph.parked, C.imap .i64 Yap r.depth, C.imap .i64 Yaq r.before, C.imap .i64 Yaq r.after, C.imap .i64 Yap r.refused]) := ⟨fun r h => Ok.freeze ((Zfx p0).h r h) (by rintro c qs ⟨b49, b50, b51, b52, b53, rfl, rfl⟩; exact Frz.box (fS (fS (fS (FrzL.cons (os := [_]) (Frz.map) (FrzL.cons (os := [_]) (Frz.map) (FrzL.cons (os := [_]) (Frz.map) (FrzL.cons (os := [_]) (Frz.map) (FrzL.nil)))))))))⟩

def Zfy (l28 : List Int) : Option (List Int) := some l28
def Zfz (x15 : Int) (l26 : List Int) : Option ((List Int × Int) ⊕ ((List Int))) := some (.inl (l26, (IntKind.i64.wrap (x15 + 1))))
def Zg0 (p0 : Ya9) (l14 : List Int) (x15 : Int) : Option ((List Int × Int) ⊕ ((List Int))) := cond (decide (x15 < (p0.graph.events.length : Int))) ((getI p0.graph.events x15).bind fun e17 => cond ((Option.getD (mget p0.refused e17.id) 0) == 0) ((chk (decide ((l14.length + [e17.id].length) * 8 ≤ 140737488355328))).bind fun u23 => Zfz x15 (l14 ++ [e17.id])) (Zfz x15 l14)) (some (.inr l14))
def Zg1 (p0 : Ya9) : Option (List Int) := (iter (fun z30 => Zg0 p0 z30.1 z30.2) big (([] : List Int), 0)).bind fun y31 => Zfy y31
instance Zg2 (p0 : Ya9) : SpO Tryz.prog 79 (Zg1 p0) (.d [C.ip [cI p0.graph.room, cM Yab 9 p0.graph.events, cM Yab 9 p0.graph.parked, C.imap .i64 Yap p0.depth, C.imap .i64 Yaq p0.before, C.imap .i64 Yaq p0.after, C.imap .i64 Yap p0.refused]] [] fun r => .x fun (v29 : Value) => .d (cV v29) [oA v29 2 kI64 1 r]) := ⟨so Tryz.func79 rfl rfl fun r X h => gh (.q 2 (.c1 (fun l28 => .x fun v27 => .d [(3, cV v27)] [oA v27 2 kI64 1 l28]) [] [] (.l2 (fun l14 x15 => .x fun v13 => .d [(3, cV v13), (13, cI x15)] [oA v13 2 kI64 1 l14]) [0,11,12] [] (.b (.c1 (fun l26 => .x fun v25 => .d [(3, cV v25)] [oA v25 2 kI64 1 l26]) [0,11,12,13] [] (.r [0,0] [3,5,6] [] [0,4,8,13,16,21,25,28] .z) .z) .z)) .z))⟩
instance Zg2' (p0 : Ya9) : Sp Tryz.prog 79 [C.ip [cI p0.graph.room, cM Yab 9 p0.graph.events, cM Yab 9 p0.graph.parked, C.imap .i64 Yap p0.depth, C.imap .i64 Yaq p0.before, C.imap .i64 Yaq p0.after, C.imap .i64 Yap p0.refused]] (Zg1 p0) (fun r => cM kI64 1 r) := ⟨fun r h => Ok.freeze ((Zg2 p0).h r h) (by rintro c qs ⟨v29, rfl, rfl⟩; exact Frz.arr)⟩

def Zg3 (p0 : Yaa) (p1 : Int) : Option Ya9 := (getI p0.rooms (IntKind.i64.wrap (p1 - 1))).bind fun e1 => some e1
instance Zg4 (p0 : Yaa) (p1 : Int) : SpO Tryz.prog 80 (Zg3 p0 p1) (.x fun (b00 : Nat) => .x fun (w01 : Value) => .d [pt b00, cI p1] [oB b00 126 [cM Yag 3 p0.hub.rooms, cM Yad 2 p0.hub.stream, cV w01], oA w01 127 Yat 1 p0.rooms] fun r => .d (C.ip [cI r.graph.room, cM Yab 9 r.graph.events, cM Yab 9 r.graph.parked, C.imap .i64 Yap r.depth, C.imap .i64 Yaq r.before, C.imap .i64 Yaq r.after, C.imap .i64 Yap r.refused]) [oB b00 126 [cM Yag 3 p0.hub.rooms, cM Yad 2 p0.hub.stream, cV w01], oA w01 127 Yat 1 p0.rooms]) := ⟨fun b00 w01 => so Tryz.func80 rfl rfl fun r X h => gh .z⟩

def Zg5 (x2 : Bool) : Option Bool := some x2
def Zg6 (p0 : Int) (q0 : Ya9) (q1 : List ((Int × Int) × Bool)) (q2 : Ya1) : Option Bool := cond ((Option.getD (mget q0.refused p0) 0) == 0) (Zg5 (!(Option.getD (pget q1 (q2.room, p0)) false))) (Zg5 false)
instance Zg7 (p0 : Int) (q0 : Ya9) (q1 : List ((Int × Int) × Bool)) (q2 : Ya1) : SpO Tryz.prog 83 (Zg6 p0 q0 q1 q2) (.x fun (b00 : Nat) => .x fun (b01 : Nat) => .x fun (b02 : Nat) => .x fun (b03 : Nat) => .d [cI p0, pt b00, pt b01, pt b03] [oB b00 127 [C.ip [cI q0.graph.room, cM Yab 9 q0.graph.events, cM Yab 9 q0.graph.parked, C.imap .i64 Yap q0.depth, C.imap .i64 Yaq q0.before, C.imap .i64 Yaq q0.after, C.imap .i64 Yap q0.refused]], oB b01 130 [mt b02], Abs.Obj.pmap b02 Yar q1, oB b03 40 [cI q2.room, cI q2.id]] fun r => .d (C.bool r) [oB b00 127 [C.ip [cI q0.graph.room, cM Yab 9 q0.graph.events, cM Yab 9 q0.graph.parked, C.imap .i64 Yap q0.depth, C.imap .i64 Yaq q0.before, C.imap .i64 Yaq q0.after, C.imap .i64 Yap q0.refused]], oB b01 130 [mt b02], Abs.Obj.pmap b02 Yar q1, oB b03 40 [cI q2.room, cI q2.id]]) := ⟨fun b00 b01 b02 b03 => so Tryz.func83 rfl rfl fun r X h => gh (.q 1 (.c1 (fun x2 => .d [(5, C.bool x2)] []) [] [0,1,2,3] .z .z))⟩

def Zg8 : Option Int := some (-1)
def Zg9 (p0 : List Int) (p1_0 : Ya9) (p1_1 : List ((Int × Int) × Bool)) (p1_2 : Ya1) (x7 : Int) : Option (Int ⊕ (Int ⊕ Unit)) := cond (decide (x7 < (p0.length : Int))) ((getI p0 x7).bind fun e9 => (Zg6 e9 p1_0 p1_1 p1_2).bind fun r11 => cond r11 (some (.inr (.inl x7))) (some (.inl (IntKind.i64.wrap (x7 + 1))))) (some (.inr (.inr ())))
def Zga (p0 : List Int) (p1_0 : Ya9) (p1_1 : List ((Int × Int) × Bool)) (p1_2 : Ya1) : Option Int := (iter (Zg9 p0 p1_0 p1_1 p1_2) big 0).bind (fun z15 => match z15 with | .inl y14 => some y14 | .inr () => Zg8)
instance Zgb (p0 : List Int) (p1_0 : Ya9) (p1_1 : List ((Int × Int) × Bool)) (p1_2 : Ya1) : SpO Tryz.prog 122 (Zga p0 p1_0 p1_1 p1_2) (.x fun (b00 : Nat) => .x fun (b01 : Nat) => .x fun (b02 : Nat) => .x fun (b03 : Nat) => .d [cM kI64 1 p0, C.clo 83 [pt b00, pt b01, pt b03]] [oB b00 127 [C.ip [cI p1_0.graph.room, cM Yab 9 p1_0.graph.events, cM Yab 9 p1_0.graph.parked, C.imap .i64 Yap p1_0.depth, C.imap .i64 Yaq p1_0.before, C.imap .i64 Yaq p1_0.after, C.imap .i64 Yap p1_0.refused]], oB b01 130 [mt b02], Abs.Obj.pmap b02 Yar p1_1, oB b03 40 [cI p1_2.room, cI p1_2.id]] fun r => .d (cI r) [oB b00 127 [C.ip [cI p1_0.graph.room, cM Yab 9 p1_0.graph.events, cM Yab 9 p1_0.graph.parked, C.imap .i64 Yap p1_0.depth, C.imap .i64 Yaq p1_0.before, C.imap .i64 Yaq p1_0.after, C.imap .i64 Yap p1_0.refused]], oB b01 130 [mt b02], Abs.Obj.pmap b02 Yar p1_1, oB b03 40 [cI p1_2.room, cI p1_2.id]]) := ⟨fun b00 b01 b02 b03 => so Tryz.func122 rfl rfl fun r X h => gh (.q 1 (.c0 (.d [] []) [] [0,1,2,3] (.l1 (fun x7 => .d [(8, cI x7)] []) [0,1,7] [0,1,2,3] .z) .z))⟩

def Zgc (p0 : List Int) (p1_0 : Ya9) (p1_1 : List ((Int × Int) × Bool)) (p1_2 : Ya1) : Option Bool := (Zga p0 p1_0 p1_1 p1_2).bind fun r1 => some (decide (r1 ≥ 0))
instance Zgd (p0 : List Int) (p1_0 : Ya9) (p1_1 : List ((Int × Int) × Bool)) (p1_2 : Ya1) : SpO Tryz.prog 82 (Zgc p0 p1_0 p1_1 p1_2) (.x fun (b00 : Nat) => .x fun (b01 : Nat) => .x fun (b02 : Nat) => .x fun (b03 : Nat) => .d [cM kI64 1 p0, C.clo 83 [pt b00, pt b01, pt b03]] [oB b00 127 [C.ip [cI p1_0.graph.room, cM Yab 9 p1_0.graph.events, cM Yab 9 p1_0.graph.parked, C.imap .i64 Yap p1_0.depth, C.imap .i64 Yaq p1_0.before, C.imap .i64 Yaq p1_0.after, C.imap .i64 Yap p1_0.refused]], oB b01 130 [mt b02], Abs.Obj.pmap b02 Yar p1_1, oB b03 40 [cI p1_2.room, cI p1_2.id]] fun r => .d (C.bool r) [oB b00 127 [C.ip [cI p1_0.graph.room, cM Yab 9 p1_0.graph.events, cM Yab 9 p1_0.graph.parked, C.imap .i64 Yap p1_0.depth, C.imap .i64 Yaq p1_0.before, C.imap .i64 Yaq p1_0.after, C.imap .i64 Yap p1_0.refused]], oB b01 130 [mt b02], Abs.Obj.pmap b02 Yar p1_1, oB b03 40 [cI p1_2.room, cI p1_2.id]]) := ⟨fun b00 b01 b02 b03 => so Tryz.func82 rfl rfl fun r X h => gh .z⟩

def Zge (p0 : Ya4) (l100 : List Ya9) (x101 : Int) : Option (Yaa × Bool) := cond (x101 == (p0.stream.length : Int)) (some ((Yaa.mk p0 l100), (x101 == (p0.stream.length : Int)))) (some ((Yaa.mk (Ya4.mk [] []) []), (x101 == (p0.stream.length : Int))))
def Zgf (m178 : List ((Int × Int) × Bool)) (x179 : Int) (e181 : Ya1) (x252 : Bool) : Option (((List ((Int × Int) × Bool)) × Int) ⊕ ((Yaa × Bool) ⊕ Unit)) := cond x252 (some (.inr (.inl ((Yaa.mk (Ya4.mk [] []) []), false)))) (some (.inl ((pset m178 (e181.room, e181.id) true), (IntKind.i64.wrap (x179 + 1)))))
def Zgg (m178 : List ((Int × Int) × Bool)) (x179 : Int) (e181 : Ya1) (r189 : Ya9) (x196 : Int) (x197 : Int) (x198 : Int) (x199 : Int) (x200 : Int) (x201 : Int) (x202 : ByteArray) (l203 : List Int) (x204 : Int) (x205 : Bool) : Option (((List ((Int × Int) × Bool)) × Int) ⊕ ((Yaa × Bool) ⊕ Unit)) := cond x205 (cond ((Option.getD (mget r189.refused e181.id) 0) != 0) (Zgf m178 x179 e181 true) ((Zgc l203 r189 m178 e181).bind fun r244 => Zgf m178 x179 e181 r244)) (Zgf m178 x179 e181 true)
def Zgh (p0 : Ya4) (l100 : List Ya9) (m178 : List ((Int × Int) × Bool)) (x179 : Int) (e181 : Ya1) (x187 : Bool) : Option (((List ((Int × Int) × Bool)) × Int) ⊕ ((Yaa × Bool) ⊕ Unit)) := cond x187 (some (.inr (.inl ((Yaa.mk (Ya4.mk [] []) []), false)))) ((Zg3 (Yaa.mk p0 l100) e181.room).bind fun r189 => (Zct r189.graph e181.id).bind fun r192 => Zgg m178 x179 e181 r189 r192.1.id r192.1.room r192.1.author r192.1.kind r192.1.key r192.1.n r192.1.text r192.1.prev r192.1.time r192.2)
def Zgi (p0 : Ya4) (l100 : List Ya9) (m178 : List ((Int × Int) × Bool)) (x179 : Int) : Option (((List ((Int × Int) × Bool)) × Int) ⊕ ((Yaa × Bool) ⊕ Unit)) := cond (decide (x179 < (p0.stream.length : Int))) ((getI p0.stream x179).bind fun e181 => (Z8q e181.room).bind fun r184 => cond r184 (Zgh p0 l100 m178 x179 e181 (Option.getD (pget m178 (e181.room, e181.id)) false)) (Zgh p0 l100 m178 x179 e181 true)) (some (.inr (.inr ())))
def Zgj (p0 : Ya4) (l100 : List Ya9) (x101 : Int) : Option (Yaa × Bool) := (iter (fun z255 => Zgi p0 l100 z255.1 z255.2) big (([] : List ((Int × Int) × Bool)), 0)).bind (fun z257 => match z257 with | .inl y256 => some y256 | .inr () => Zge p0 l100 x101)
def Zgk (l57 : List Ya9) (x58 : Int) (x59 : Int) (e61 : Ya3) (x67 : Bool) : Option ((List Ya9 × Int × Int) ⊕ ((Yaa × Bool) ⊕ (List Ya9 × Int))) := cond x67 (some (.inr (.inl ((Yaa.mk (Ya4.mk [] []) []), false)))) ((Zfw e61).bind fun r83 => (chk (decide ((l57.length + [r83].length) * 8 ≤ 140737488355328))).bind fun u92 => (getI (l57 ++ [r83]) x59).bind fun e95 => (Zg1 e95).bind fun r97 => some (.inl ((l57 ++ [r83]), (IntKind.i64.wrap (x58 + (r97.length : Int))), (IntKind.i64.wrap (x59 + 1)))))
def Zgl (p0 : Ya4) (l57 : List Ya9) (x58 : Int) (x59 : Int) : Option ((List Ya9 × Int × Int) ⊕ ((Yaa × Bool) ⊕ (List Ya9 × Int))) := cond (decide (x59 < (p0.rooms.length : Int))) ((getI p0.rooms x59).bind fun e61 => (Zba e61).bind fun r64 => cond r64 (Zgk l57 x58 x59 e61 (e61.room != (IntKind.i64.wrap (x59 + 1)))) (Zgk l57 x58 x59 e61 true)) (some (.inr (.inr (l57, x58))))
def Zgm (p0 : Ya4) (x3 : Bool) : Option (Yaa × Bool) := cond x3 (some ((Yaa.mk (Ya4.mk [] []) []), false)) ((iter (fun z258 => Zgl p0 z258.1 z258.2.1 z258.2.2) big ([], 0, 0)).bind (fun z262 => match z262 with | .inl y259 => some y259 | .inr (y260, y261) => Zgj p0 y260 y261))
def Zgn (p0 : Ya4) : Option (Yaa × Bool) := cond ((p0.rooms.length : Int) != 3) (Zgm p0 true) (Zgm p0 (decide ((p0.stream.length : Int) > 120)))
instance Zgo (p0 : Ya4) : SpO Tryz.prog 40 (Zgn p0) (.d [C.agg [cM Yag 3 p0.rooms, cM Yad 2 p0.stream]] [] fun r => .b r.2 (.d (C.tup [C.ip [cM Yag 3 r.1.hub.rooms, cM Yad 2 r.1.hub.stream, cM Yat 1 r.1.rooms], C.bool r.2]) []) (.d (C.tup [C.any, C.bool r.2]) [])) := ⟨so Tryz.func40 rfl rfl fun r X h => gh (.q 2 (.c1 (fun x3 => .d [(23, C.bool x3)] []) [1] [0] .z (.b .z (.q 1 (.o 0 fun b5 => .c2 (fun l100 x101 => .x fun v99 => .d [(5, cI x101)] [oB b5 126 [cM Yag 3 p0.rooms, cM Yad 2 p0.stream, cV v99], oA v99 127 Yat 1 l100]) [1,4] [1] (.O 0 fun b5 => .l3 (fun l57 x58 x59 => .x fun v56 => .d [(5, cI x58), (30, cI x59)] [oB b5 126 [cM Yag 3 p0.rooms, cM Yad 2 p0.stream, cV v56], oA v56 127 Yat 1 l57]) [1,4,28,29] [1] (.b (.q 3 (.c1 (fun x67 => .d [(44, C.bool x67)] []) [1,4,5,6,7,28,29,30] [3,1,2,0] .z (.b .z (.r [0,0,1] [4,5] [11] [0,4,8,12,17,21,26,30,34,36,40,47] (.k (.f 51 [] .z)))))) .z)) (.q 1 (.c0 (.d [] []) [1,4,5] [4,2,3] (.O 1 fun b102 => .l2 (fun m178 x179 => .d [(72, cI x179)] [Abs.Obj.pmap b102 Yar m178]) [1,4,5,8,70,71] [4,2,3,0] (.b (.q 3 (.c1 (fun x187 => .d [(84, C.bool x187)] []) [1,4,5,8,10,70,71,72] [2,3,4,5,1,0] .z (.b .z (.q 1 (.c10 (fun x196 x197 x198 x199 x200 x201 x202 l203 x204 x205 => .x fun b195 => .d [(12, pt b195), (13, C.bool x205)] [oB b195 82 [cI x196, cI x197, cI x198, cI x199, cI x200, cI x201, C.str x202, cM kI64 1 l203, cI x204]]) [1,4,5,8,10,11,70,71,72] [3,1,2,4,5,6,0] (.R [0,0,0,0,0,0,0] [0,3,5] [11] (.light 0 true (.light 1 false (.light 2 false (.light 3 true (.light 4 false (.light 5 true (.two 6 10 (.light 7 false (.light 8 false (.light 9 false (.one 10 (.late 11 (.light 12 false .done)))))) (.one 6 (.light 7 false (.light 8 false (.light 9 false (.late 11 (.light 12 false .done))))))))))))) (.H 81 .z)) (.q 1 (.c1 (fun x252 => .d [(116, C.bool x252)] []) [1,4,5,8,10,70,71,72] [1,2,3,4,5,6] (.R [0,0,0,0] [3,6,8,9,14] [] (.light 0 false (.light 1 false (.light 2 false (.light 7 false (.two 3 8 (.light 4 false (.light 5 false (.two 6 8 (.one 8 (.one 9 (.light 10 false (.light 11 false (.light 12 false (.light 13 false (.light 15 false (.one 14 (.one 16 (.light 17 false .done)))))))))) (.one 6 (.one 9 (.light 10 false (.light 11 false (.light 12 false (.light 13 false (.light 15 false (.one 14 (.one 16 (.light 17 false .done))))))))))))) (.one 3 (.light 4 false (.light 5 false (.one 6 (.one 9 (.light 10 false (.light 11 false (.light 12 false (.light 13 false (.light 15 false (.one 14 (.one 16 (.light 17 false .done)))))))))))))))))) .z) .z))))))) .z)) (.r [0,0,0] [3] [] [0,4,8,13,16,20,24,28] .z))))))))⟩

def Zgp (p0 : Int) : Option Bool := (Z8o p0 0 120).bind fun r1 => some (!r1)
instance Zgq (p0 : Int) : Sp Tryz.prog 92 [cI p0] (Zgp p0) (fun r => C.bool r) := Sp.of (so Tryz.func92 rfl rfl fun r X h => gh .z)

def Zgr : Option Int := some (-1)
def Zgs (p0 : List Int) (x7 : Int) : Option (Int ⊕ (Int ⊕ Unit)) := cond (decide (x7 < (p0.length : Int))) ((getI p0 x7).bind fun e9 => (Zgp e9).bind fun r11 => cond r11 (some (.inr (.inl x7))) (some (.inl (IntKind.i64.wrap (x7 + 1))))) (some (.inr (.inr ())))
def Zgt (p0 : List Int) : Option Int := (iter (Zgs p0) big 0).bind (fun z15 => match z15 with | .inl y14 => some y14 | .inr () => Zgr)
instance Zgu (p0 : List Int) : Sp Tryz.prog 122 [cM kI64 1 p0, cV (.func (.func 92) #[] #[])] (Zgt p0) (fun r => cI r) := Sp.of (so Tryz.func122 rfl rfl fun r X h => gh (.q 1 (.c0 (.d [] []) [] [] (.l1 (fun x7 => .d [(8, cI x7)] []) [0,1,7] [] .z) .z)))

def Zgv (p0 : List Int) : Option Bool := (Zgt p0).bind fun r1 => some (decide (r1 ≥ 0))
instance Zgw (p0 : List Int) : Sp Tryz.prog 82 [cM kI64 1 p0, cV (.func (.func 92) #[] #[])] (Zgv p0) (fun r => C.bool r) := Sp.of (so Tryz.func82 rfl rfl fun r X h => gh .z)

def Zgx (x8 : Bool) : Option Bool := some x8
def Zgy (p0 : Ya2) : Option Bool := (Z8u p0.user).bind fun r2 => cond r2 (cond ((p0.at_.length : Int) == 3) ((Zgv p0.at_).bind fun r6 => Zgx (!r6)) (Zgx false)) (Zgx false)
instance Zgz (p0 : Ya2) : Sp Tryz.prog 55 [C.agg [cI p0.user, cM kI64 1 p0.at_]] (Zgy p0) (fun r => C.bool r) := Sp.of (so Tryz.func55 rfl rfl fun r X h => gh (.q 1 (.c1 (fun x8 => .d [(2, C.bool x8)] []) [] [] .z .z)))

def Zh0 : Option Int := some (-1)
def Zh1 (p0 : List Ya1) (p1 : Ya1) (x6 : Int) : Option (Int ⊕ (Int ⊕ Unit)) := cond (decide (x6 < (p0.length : Int))) ((getI p0 x6).bind fun e8 => cond ((p1.room == e8.room) && ((p1.id == e8.id) && true)) (some (.inr (.inl x6))) (some (.inl (IntKind.i64.wrap (x6 + 1))))) (some (.inr (.inr ())))
def Zh2 (p0 : List Ya1) (p1 : Ya1) : Option Int := (iter (Zh1 p0 p1) big 0).bind (fun z12 => match z12 with | .inl y11 => some y11 | .inr () => Zh0)
instance Zh3 (p0 : List Ya1) (p1 : Ya1) : Sp Tryz.prog 158 [cM Yad 2 p0, C.agg [cI p1.room, cI p1.id]] (Zh2 p0 p1) (fun r => cI r) := Sp.of (so Tryz.func158 rfl rfl fun r X h => gh (.q 1 (.c0 (.d [] []) [] [] (.l1 (fun x6 => .d [(8, cI x6)] []) [0,3,7] [0] (.b (.r [0] [0,4] [] [1,4,8,12,17,20] .z) .z)) .z)))

def Zh4 (p0 : Ya3) (p1 : List Ya5) : Option Int := (Zdn p0 p1 6 0).bind fun r2 => cond r2.2 (some r2.1.n) (some 2)
instance Zh5 (p0 : Ya3) (p1 : List Ya5) : Sp Tryz.prog 125 [C.agg [cI p0.room, cM Yab 9 p0.events, cM Yab 9 p0.parked], cM Yaj 3 p1] (Zh4 p0 p1) (fun r => cI r) := Sp.of (so Tryz.func125 rfl rfl fun r X h => gh .z)

def Zh6 (p0 : List Int) : Option (List Int) := some p0
def Zh7 (l85 : List Int) (x86 : Int) : Option (Int ⊕ ((List Int) ⊕ Unit)) := (chk (decide ((0 : Int) ≤ x86 ∧ x86 ≤ (l85.length : Int)))).bind fun u88 => (chk (decide ((Int.toNat x86) ≤ l85.length))).bind fun u90 => (chk (decide ((0 : Int) ≤ x86 ∧ x86 ≤ ((List.take (Int.toNat x86) l85 ++ List.replicate (l85.length - (Int.toNat x86)) 0).length : Int)))).bind fun u92 => some (.inr (.inl (List.take (Int.toNat x86) (List.take (Int.toNat x86) l85 ++ List.replicate (l85.length - (Int.toNat x86)) 0))))
def Zh8 (x70 : Int) (l83 : List Int) (x84 : Int) : Option ((List Int × Int × Int) ⊕ ((List Int × Int))) := some (.inl (l83, x84, (IntKind.i64.wrap (x70 + 1))))
def Zh9 (x47 : Int) (l68 : List Int) (x69 : Int) (x70 : Int) : Option ((List Int × Int × Int) ⊕ ((List Int × Int))) := (chk (decide ((Int.toNat x47) ≤ l68.length))).bind fun u72 => cond (decide (x70 < ((List.drop (Int.toNat x47) l68).length : Int))) ((getI (List.drop (Int.toNat x47) l68) x70).bind fun e74 => (getI (List.drop (Int.toNat x47) l68) (IntKind.i64.wrap (x70 - 1))).bind fun e76 => cond (e74 != e76) ((getI (List.drop (Int.toNat x47) l68) x70).bind fun e79 => (getI l68 x69).bind fun e81 => Zh8 x70 (List.set l68 (Int.toNat x69) e79) (IntKind.i64.wrap (x69 + 1))) (Zh8 x70 l68 x69)) (some (.inr (l68, x69)))
def Zha (p0 : List Int) (x47 : Int) : Option (Int ⊕ ((List Int) ⊕ Unit)) := cond (decide (x47 < (p0.length : Int))) ((getI p0 x47).bind fun e49 => (getI p0 (IntKind.i64.wrap (x47 - 1))).bind fun e51 => cond (e49 == e51) ((chk (decide ((0 : Int) ≤ x47 ∧ x47 ≤ (p0.length : Int)))).bind fun u55 => (iter (fun z94 => Zh9 x47 z94.1 z94.2.1 z94.2.2) big (p0, x47, 1)).bind fun (y95, y96) => Zh7 y95 y96) (some (.inl (IntKind.i64.wrap (x47 + 1))))) (some (.inr (.inr ())))
def Zhb (p0 : List Int) : Option (List Int) := cond (decide ((p0.length : Int) < 2)) (some p0) ((iter (Zha p0) big 1).bind (fun z98 => match z98 with | .inl y97 => some y97 | .inr () => Zh6 p0))
theorem Zhc {w00 : Value} (p0 : List Int) (r : List Int) (h : Zhb p0 = some r) : Ok Tryz.prog 255 [cV w00] [oA w00 2 kI64 1 p0] (fun c qs => ∃ (v93 : Value), c = cV v93 ∧ qs = [oA v93 2 kI64 1 r]) := by
 refine Ok.of_body (rs := [.tmp 2]) Tryz.func255 rfl rfl rfl rfl rfl fun X => ?_
 unfold Zhb at h
 refine zw ?_
 refine cnd h (fun hb1 h => ?_) fun hb1 h => ?_
 ·
  refine AW.ct hb1 rfl ?_
  refine zw ?_
  refine AW.ret ?_
  rw [← Wj h]
  exact finI ⟨[cV w00], _, Y25.refl _, (.cons (.tmp rfl) .nil), [0], _, _, rfl, ⟨w00, rfl, rfl⟩⟩
 refine AW.cf hb1 rfl ?_
 refine AW.skip ?_
 refine AW.seq ?_
 refine AW.cut (τ := Unit) (fun (_ : Unit) => ⟨[(0, cV w00)], [oA w00 2 kI64 1 p0]⟩) (fun (_ : Unit) => Zh6 p0 = some r) ?_ ?_
 ·
  refine zw ?_
  refine ob' h fun o99 g100 q101 => ?_
  refine AW.loop (τ := Int) (x := 1) (fun x47 => ⟨[(0, cV w00), (3, cI x47)], [oA w00 2 kI64 1 p0]⟩) (fun k x47 => iter (Zha p0) k x47 = some o99) g100 (Y25.both (ns := [0]) rfl rfl) ?_
  intro k x47 i103
  refine Y4d (show iter (Zha p0) k x47 = some o99 from i103) fun k102 y104 hlt_k102 h h105 => ?_
  replace h : Zha p0 x47 = some y104 := h
  unfold Zha at h
  refine zw ?_
  refine cnd h (fun hb48 h => ?_) fun hb48 h => ?_
  ·
   refine AW.ct hb48 rfl ?_
   refine zw ?_
   refine rD [0] [3,8] [] [0,4,8,13,16,20,24,28,33,36] ?_
   refine zw ?_
   refine di h fun e49 g50 h => ?_
   refine zw ?_
   refine di h fun e51 g52 h => ?_
   refine zw ?_
   refine cnd h (fun hb53 h => ?_) fun hb53 h => ?_
   ·
    refine AW.ct hb53 rfl ?_
    refine zw ?_
    refine ob' h fun u55 c54 h => ?_
    refine Ops.v rfl (Y7m (p := 0) (l := (Int.toNat x47)) Yaz.h rfl rfl rfl (Wo (Y45 c54)) rfl rfl) ?_
    refine Ops.v rfl (Ys rfl rfl) ?_
    refine Ops.nil ?_
    refine AW.seq ?_
    refine AW.cut (τ := List Int × Int) (fun (l85, x86) => ⟨[(0, cV w00), (3, cI x86)], [oA w00 2 kI64 1 l85]⟩) (fun (l85, x86) => Zh7 l85 x86 = some y104) ?_ ?_
    ·
     refine zw ?_
     refine ob' h fun o106 g107 q108 => ?_
     refine AW.loop (τ := List Int × Int × Int) (x := (p0, x47, 1)) (fun (l68, x69, x70) => ⟨[(0, cV w00), (3, cI x69), (4, cV (Y7j w00 1 (Int.toNat x47))), (5, cI x70)], [oA w00 2 kI64 1 l68]⟩) (fun k (l68, x69, x70) => iter (fun z94 => Zh9 x47 z94.1 z94.2.1 z94.2.2) k (l68, x69, x70) = some o106) g107 (Y25.both (ns := [0]) rfl rfl) ?_
     rintro k ⟨l68, x69, x70⟩ i110
     refine Y4d (show iter (fun z94 => Zh9 x47 z94.1 z94.2.1 z94.2.2) k (l68, x69, x70) = some o106 from i110) fun k109 y111 hlt_k109 h h112 => ?_
     replace h : Zh9 x47 l68 x69 x70 = some y111 := h
     unfold Zh9 at h
     refine zw ?_
     refine ob' h fun u72 c71 h => ?_
     refine Ops.v rfl (Y7o (p := 0) Yaz.h rfl rfl (Wo (Y45 c71)) rfl) ?_
     refine zw ?_
     refine cnd h (fun hb73 h => ?_) fun hb73 h => ?_
     ·
      refine AW.ct hb73 rfl ?_
      refine AW.skip ?_
      refine AW.seq ?_
      refine AW.cut (τ := List Int × Int) (fun (l83, x84) => ⟨[(0, cV w00), (3, cI x84), (4, cV (Y7j w00 1 (Int.toNat x47))), (5, cI x70)], [oA w00 2 kI64 1 l83]⟩) (fun (l83, x84) => Zh8 x70 l83 x84 = some y111) ?_ ?_
      ·
       refine zw ?_
       refine rD [0] [3,8] [] [0,4,8,13,16,20,24,28,33,36] ?_
       refine zw ?_
       refine ob' h fun e74 g75 h => ?_
       refine OpsD.v rfl rfl (Y7p (p := 0) Yaz.h rfl rfl rfl g75 rfl) ?_
       refine OpsD.v rfl rfl (Y3c (p := 0) ld_2.h rfl rfl (Y7q g75) rfl rfl) ?_
       refine zw ?_
       refine ob' h fun e76 g77 h => ?_
       refine OpsD.v rfl rfl (Y7p (p := 0) Yaz.h rfl rfl rfl g77 rfl) ?_
       refine OpsD.v rfl rfl (Y3c (p := 0) ld_2.h rfl rfl (Y7q g77) rfl rfl) ?_
       refine zw ?_
       refine cnd h (fun hb78 h => ?_) fun hb78 h => ?_
       ·
        refine AW.ct hb78 rfl ?_
        refine zw ?_
        refine ob' h fun e79 g80 h => ?_
        refine Ops.v rfl (Y7p (p := 0) Yaz.h rfl rfl rfl g80 rfl) ?_
        refine Ops.v rfl (Y3c (p := 0) ld_2.h rfl rfl (Y7q g80) rfl rfl) ?_
        refine oi h fun e81 g82 h => ?_
        refine Ops.hd (ns := [0]) rfl rfl (Y3f (e' := e79) ld_2.h rfl rfl (One.val rfl) (Y2f g82).2.2 rfl rfl) ?_
        refine zw ?_
        exact ⟨((List.set l68 (Int.toNat x69) e79), (IntKind.i64.wrap (x69 + 1))), h, Y25.both (ns := [0]) rfl rfl⟩
       refine AW.cf hb78 rfl ?_
       refine zw ?_
       exact ⟨(l68, x69), h, Y25.both (ns := [0]) rfl rfl⟩
      rintro ⟨l83, x84⟩ h
      replace h : Zh8 x70 l83 x84 = some y111 := h
      unfold Zh8 at h
      refine zw ?_
      obtain rfl := Wj h
      exact ⟨k109, (l83, x84, (IntKind.i64.wrap (x70 + 1))), hlt_k109, h112, Y25.both (ns := [0]) rfl rfl⟩
     refine AW.cf hb73 rfl ?_
     refine AW.exit ?_
     obtain rfl := Wj h
     obtain rfl := Wj h112
     replace h := q108
     exact ⟨(l68, x69), h, Y25.both (ns := [0]) rfl rfl⟩
    rintro ⟨l85, x86⟩ h
    replace h : Zh7 l85 x86 = some y104 := h
    unfold Zh7 at h
    refine zw ?_
    refine ob' h fun u88 c87 h => ?_
    refine Ops.v rfl (Y7m (p := 0) (l := (Int.toNat x86)) Yaz.h rfl rfl rfl (Wo (Y45 c87)) rfl rfl) ?_
    refine ob' h fun u90 c89 h => ?_
    refine Ops.hd (ns := [0]) rfl rfl (Y7u (z := 0) Ybg ze_2 (Y4e rfl rfl) rfl (Wo (Y45 c89))) ?_
    refine zw ?_
    refine ob' h fun u92 c91 h => ?_
    refine Ops.v rfl (Y7n (p := 0) (l := (Int.toNat x86)) Yaz.h rfl rfl rfl (Wo (Y45 c91)) rfl rfl) ?_
    refine zw ?_
    refine AW.ret ?_
    obtain rfl := Wj h
    obtain rfl := Wj h105
    replace h := q101
    rw [← Wj h]
    exact finI ⟨[cV (Y7k w00 (Int.toNat x86))], _, Y25.prefix (p := 0) (h := (Int.toNat x86)) rfl (Int.le_toNat_len c91), (.cons (.tmp rfl) .nil), [0], _, _, rfl, ⟨(Y7k w00 (Int.toNat x86)), rfl, rfl⟩⟩
   refine AW.cf hb53 rfl ?_
   refine zw ?_
   obtain rfl := Wj h
   exact ⟨k102, (IntKind.i64.wrap (x47 + 1)), hlt_k102, h105, Y25.both (ns := [0]) rfl rfl⟩
  refine AW.cf hb48 rfl ?_
  refine AW.exit ?_
  obtain rfl := Wj h
  obtain rfl := Wj h105
  replace h := q101
  exact ⟨(), h, Y25.both (ns := [0]) rfl rfl⟩
 rintro ⟨⟩ h
 replace h : Zh6 p0 = some r := h
 unfold Zh6 at h
 refine zw ?_
 refine AW.ret ?_
 rw [← Wj h]
 exact finI ⟨[cV w00], _, Y25.refl _, (.cons (.tmp rfl) .nil), [0], _, _, rfl, ⟨w00, rfl, rfl⟩⟩
instance Zhd (p0 : List Int) : SpO Tryz.prog 255 (Zhb p0) (.x fun (w00 : Value) => .d [cV w00] [oA w00 2 kI64 1 p0] fun r => .x fun (v93 : Value) => .d (cV v93) [oA v93 2 kI64 1 r]) := ⟨fun w00 r h => Zhc p0 r h⟩

def Zhe (p0 : List Int) : Option (List Int) := (chk (decide (p0.length < 4611686018427387904))).bind fun u2 => (Zhb (List.mergeSort p0 (fun x y => decide (x ≤ y)))).bind fun r3 => some r3
instance Zhf (p0 : List Int) : SpO Tryz.prog 244 (Zhe p0) (.x fun (w00 : Value) => .d [cV w00] [oA w00 2 kI64 1 p0] fun r => .x fun (v6 : Value) => .d (cV v6) [oA v6 2 kI64 1 r]) := ⟨fun w00 => so Tryz.func244 rfl rfl fun r X h => gh (.k .z)⟩
def Zhg (p0 : Int) (q0 : Y9z) : Option Bool := (Z97 q0.prev p0).bind fun r1 => some r1
instance Zhh (p0 : Int) (q0 : Y9z) : SpO Tryz.prog 246 (Zhg p0 q0) (.x fun (b00 : Nat) => .d [cI p0, pt b00] [oB b00 82 [cI q0.id, cI q0.room, cI q0.author, cI q0.kind, cI q0.key, cI q0.n, C.str q0.text, cM kI64 1 q0.prev, cI q0.time]] fun r => .d (C.bool r) [oB b00 82 [cI q0.id, cI q0.room, cI q0.author, cI q0.kind, cI q0.key, cI q0.n, C.str q0.text, cM kI64 1 q0.prev, cI q0.time]]) := ⟨fun b00 => so Tryz.func246 rfl rfl fun r X h => gh .z⟩

def Zhi : Option Int := some (-1)
def Zhj (p0 : List Int) (p1_0 : Y9z) (x7 : Int) : Option (Int ⊕ (Int ⊕ Unit)) := cond (decide (x7 < (p0.length : Int))) ((getI p0 x7).bind fun e9 => (Zhg e9 p1_0).bind fun r11 => cond r11 (some (.inr (.inl x7))) (some (.inl (IntKind.i64.wrap (x7 + 1))))) (some (.inr (.inr ())))
def Zhk (p0 : List Int) (p1_0 : Y9z) : Option Int := (iter (Zhj p0 p1_0) big 0).bind (fun z15 => match z15 with | .inl y14 => some y14 | .inr () => Zhi)
instance Zhl (p0 : List Int) (p1_0 : Y9z) : SpO Tryz.prog 122 (Zhk p0 p1_0) (.x fun (w00 : Value) => .x fun (b01 : Nat) => .d [cV w00, C.clo 246 [pt b01]] [oA w00 2 kI64 1 p0, oB b01 82 [cI p1_0.id, cI p1_0.room, cI p1_0.author, cI p1_0.kind, cI p1_0.key, cI p1_0.n, C.str p1_0.text, cM kI64 1 p1_0.prev, cI p1_0.time]] fun r => .d (cI r) [oA w00 2 kI64 1 p0, oB b01 82 [cI p1_0.id, cI p1_0.room, cI p1_0.author, cI p1_0.kind, cI p1_0.key, cI p1_0.n, C.str p1_0.text, cM kI64 1 p1_0.prev, cI p1_0.time]]) := ⟨fun w00 b01 => so Tryz.func122 rfl rfl fun r X h => gh (.q 1 (.c0 (.d [] []) [] [0,1] (.l1 (fun x7 => .d [(8, cI x7)] []) [0,1,7] [0,1] .z) .z))⟩

def Zhm (l27 : List Int) (x28 : Int) : Option (List Int) := (chk (decide ((0 : Int) ≤ x28 ∧ x28 ≤ (l27.length : Int)))).bind fun u30 => (chk (decide ((Int.toNat x28) ≤ l27.length))).bind fun u32 => (chk (decide ((0 : Int) ≤ x28 ∧ x28 ≤ ((List.take (Int.toNat x28) l27 ++ List.replicate (l27.length - (Int.toNat x28)) 0).length : Int)))).bind fun u34 => some (List.take (Int.toNat x28) (List.take (Int.toNat x28) l27 ++ List.replicate (l27.length - (Int.toNat x28)) 0))
def Zhn (x16 : Int) (l25 : List Int) (x26 : Int) : Option ((List Int × Int × Int) ⊕ ((List Int × Int))) := some (.inl (l25, x26, (IntKind.i64.wrap (x16 + 1))))
def Zho (p1_0 : Y9z) (l14 : List Int) (x15 : Int) (x16 : Int) : Option ((List Int × Int × Int) ⊕ ((List Int × Int))) := cond (decide (x16 < (l14.length : Int))) ((getI l14 x16).bind fun e18 => (Zhg e18 p1_0).bind fun r20 => cond r20 (Zhn x16 l14 x15) ((getI l14 x15).bind fun e23 => Zhn x16 (List.set l14 (Int.toNat x15) e18) (IntKind.i64.wrap (x15 + 1)))) (some (.inr (l14, x15)))
def Zhp (p0 : List Int) (p1_0 : Y9z) : Option (List Int) := (Zhk p0 p1_0).bind fun r1 => cond (r1 == (-1)) (some p0) ((iter (fun z36 => Zho p1_0 z36.1 z36.2.1 z36.2.2) big (p0, r1, (IntKind.i64.wrap (r1 + 1)))).bind fun (y37, y38) => Zhm y37 y38)
theorem Zhq {w00 : Value} {b01 : Nat} (p0 : List Int) (p1_0 : Y9z) (r : List Int) (h : Zhp p0 p1_0 = some r) : Ok Tryz.prog 245 [cV w00, C.clo 246 [pt b01]] [oA w00 2 kI64 1 p0, oB b01 82 [cI p1_0.id, cI p1_0.room, cI p1_0.author, cI p1_0.kind, cI p1_0.key, cI p1_0.n, C.str p1_0.text, cM kI64 1 p1_0.prev, cI p1_0.time]] (fun c qs => ∃ (v35 : Value), c = cV v35 ∧ qs = [oA v35 2 kI64 1 r, oB b01 82 [cI p1_0.id, cI p1_0.room, cI p1_0.author, cI p1_0.kind, cI p1_0.key, cI p1_0.n, C.str p1_0.text, cM kI64 1 p1_0.prev, cI p1_0.time]]) := by
 refine Ok.of_body (rs := [.tmp 4]) Tryz.func245 rfl rfl rfl rfl rfl fun X => ?_
 unfold Zhp at h
 refine zw ?_
 refine ob' h fun r1 g2 h => ?_
 refine Ops.hd (ns := [0, 0]) rfl rfl (Y28 ((Zhl p0 p1_0).h _ _ _ g2) rfl rfl) ?_
 refine zw ?_
 refine cnd h (fun hb3 h => ?_) fun hb3 h => ?_
 ·
  refine AW.ct hb3 rfl ?_
  refine zw ?_
  refine AW.ret ?_
  rw [← Wj h]
  exact finI ⟨[cV w00], _, Y25.refl _, (.cons (.tmp rfl) .nil), [0, 0], _, _, rfl, ⟨w00, rfl, rfl⟩⟩
 refine AW.cf hb3 rfl ?_
 refine AW.skip ?_
 refine AW.seq ?_
 refine AW.cut (τ := List Int × Int) (fun (l27, x28) => ⟨[(0, cV w00), (5, cI x28)], [oA w00 2 kI64 1 l27, oB b01 82 [cI p1_0.id, cI p1_0.room, cI p1_0.author, cI p1_0.kind, cI p1_0.key, cI p1_0.n, C.str p1_0.text, cM kI64 1 p1_0.prev, cI p1_0.time]]⟩) (fun (l27, x28) => Zhm l27 x28 = some r) ?_ ?_
 ·
  refine zw ?_
  refine ob' h fun o39 g40 q41 => ?_
  refine AW.loop (τ := List Int × Int × Int) (x := (p0, r1, (IntKind.i64.wrap (r1 + 1)))) (fun (l14, x15, x16) => ⟨[(0, cV w00), (1, C.clo 246 [pt b01]), (5, cI x15), (6, cI x16)], [oA w00 2 kI64 1 l14, oB b01 82 [cI p1_0.id, cI p1_0.room, cI p1_0.author, cI p1_0.kind, cI p1_0.key, cI p1_0.n, C.str p1_0.text, cM kI64 1 p1_0.prev, cI p1_0.time]]⟩) (fun k (l14, x15, x16) => iter (fun z36 => Zho p1_0 z36.1 z36.2.1 z36.2.2) k (l14, x15, x16) = some o39) g40 (Y25.both (ns := [0, 0]) rfl rfl) ?_
  rintro k ⟨l14, x15, x16⟩ i43
  refine Y4d (show iter (fun z36 => Zho p1_0 z36.1 z36.2.1 z36.2.2) k (l14, x15, x16) = some o39 from i43) fun k42 y44 hlt_k42 h h45 => ?_
  replace h : Zho p1_0 l14 x15 x16 = some y44 := h
  unfold Zho at h
  refine zw ?_
  refine cnd h (fun hb17 h => ?_) fun hb17 h => ?_
  ·
   refine AW.ct hb17 rfl ?_
   refine AW.skip ?_
   refine AW.seq ?_
   refine AW.cut (τ := List Int × Int) (fun (l25, x26) => ⟨[(0, cV w00), (1, C.clo 246 [pt b01]), (5, cI x26), (6, cI x16)], [oA w00 2 kI64 1 l25, oB b01 82 [cI p1_0.id, cI p1_0.room, cI p1_0.author, cI p1_0.kind, cI p1_0.key, cI p1_0.n, C.str p1_0.text, cM kI64 1 p1_0.prev, cI p1_0.time]]⟩) (fun (l25, x26) => Zhn x16 l25 x26 = some y44) ?_ ?_
   ·
    refine zw ?_
    refine oi h fun e18 g19 h => ?_
    refine zw ?_
    refine ob' h fun r20 g21 h => ?_
    refine Ops.hd (ns := [1]) rfl rfl (Y78 (cs := [_]) (ds := [_]) rfl ((Zhh e18 p1_0).h _ _ g21) rfl rfl) ?_
    refine zw ?_
    refine cnd h (fun hb22 h => ?_) fun hb22 h => ?_
    ·
     refine AW.cond rfl (fun hn => absurd ((Y46 hb22).symm.trans hn) (by decide)) (fun _ => ?_)
     refine zw ?_
     exact ⟨(l14, x15), h, Y25.both (ns := [1, 0]) rfl rfl⟩
    refine AW.cond rfl (fun _ => ?_) (fun hn => absurd ((Y47 hb22).symm.trans hn) (by decide))
    refine zw ?_
    refine ob' h fun e23 g24 h => ?_
    refine zw ?_
    refine Ops.hd (ns := [1]) rfl rfl (Y3f (e' := e18) ld_2.h rfl rfl (One.val rfl) (Y2f g24).2.2 rfl rfl) ?_
    refine zw ?_
    exact ⟨((List.set l14 (Int.toNat x15) e18), (IntKind.i64.wrap (x15 + 1))), h, Y25.both (ns := [0, 0]) rfl rfl⟩
   rintro ⟨l25, x26⟩ h
   replace h : Zhn x16 l25 x26 = some y44 := h
   unfold Zhn at h
   refine zw ?_
   obtain rfl := Wj h
   exact ⟨k42, (l25, x26, (IntKind.i64.wrap (x16 + 1))), hlt_k42, h45, Y25.both (ns := [0, 0]) rfl rfl⟩
  refine AW.cf hb17 rfl ?_
  refine AW.exit ?_
  obtain rfl := Wj h
  obtain rfl := Wj h45
  replace h := q41
  exact ⟨(l14, x15), h, Y25.both (ns := [0, 0]) rfl rfl⟩
 rintro ⟨l27, x28⟩ h
 replace h : Zhm l27 x28 = some r := h
 unfold Zhm at h
 refine zw ?_
 refine ob' h fun u30 c29 h => ?_
 refine Ops.v rfl (Y7m (p := 0) (l := (Int.toNat x28)) Yaz.h rfl rfl rfl (Wo (Y45 c29)) rfl rfl) ?_
 refine ob' h fun u32 c31 h => ?_
 refine Ops.hd (ns := [0]) rfl rfl (Y7u (z := 0) Ybg ze_2 (Y4e rfl rfl) rfl (Wo (Y45 c31))) ?_
 refine zw ?_
 refine ob' h fun u34 c33 h => ?_
 refine Ops.v rfl (Y7n (p := 0) (l := (Int.toNat x28)) Yaz.h rfl rfl rfl (Wo (Y45 c33)) rfl rfl) ?_
 refine zw ?_
 refine AW.ret ?_
 rw [← Wj h]
 exact finI ⟨[cV (Y7k w00 (Int.toNat x28))], _, Y25.prefix (p := 0) (h := (Int.toNat x28)) rfl (Int.le_toNat_len c33), (.cons (.tmp rfl) .nil), [0, 0], _, _, rfl, ⟨(Y7k w00 (Int.toNat x28)), rfl, rfl⟩⟩
instance Zhr (p0 : List Int) (p1_0 : Y9z) : SpO Tryz.prog 245 (Zhp p0 p1_0) (.x fun (w00 : Value) => .x fun (b01 : Nat) => .d [cV w00, C.clo 246 [pt b01]] [oA w00 2 kI64 1 p0, oB b01 82 [cI p1_0.id, cI p1_0.room, cI p1_0.author, cI p1_0.kind, cI p1_0.key, cI p1_0.n, C.str p1_0.text, cM kI64 1 p1_0.prev, cI p1_0.time]] fun r => .x fun (v35 : Value) => .d (cV v35) [oA v35 2 kI64 1 r, oB b01 82 [cI p1_0.id, cI p1_0.room, cI p1_0.author, cI p1_0.kind, cI p1_0.key, cI p1_0.n, C.str p1_0.text, cM kI64 1 p1_0.prev, cI p1_0.time]]) := ⟨fun w00 b01 r h => Zhq p0 p1_0 r h⟩

def Zhs (l29 : List Int) : Option (List Int) := some l29
def Zht (p0 : Ya9) (p1 : List Int) (l17 : List Int) (x18 : Int) : Option ((List Int × Int) ⊕ ((List Int))) := cond (decide (x18 < (p1.length : Int))) ((getI p1 x18).bind fun e20 => (Zct p0.graph e20).bind fun r22 => (Zhp l17 r22.1).bind fun r25 => some (.inl (r25, (IntKind.i64.wrap (x18 + 1))))) (some (.inr l17))
def Zhu (p0 : Ya9) (p1 : List Int) : Option (List Int) := (Zff p1).bind fun r1 => (Zhe r1).bind fun r4 => (iter (fun z31 => Zht p0 p1 z31.1 z31.2) big (r4, 0)).bind fun y32 => Zhs y32
instance Zhv (p0 : Ya9) (p1 : List Int) : SpO Tryz.prog 229 (Zhu p0 p1) (.d [C.ip [cI p0.graph.room, cM Yab 9 p0.graph.events, cM Yab 9 p0.graph.parked, C.imap .i64 Yap p0.depth, C.imap .i64 Yaq p0.before, C.imap .i64 Yaq p0.after, C.imap .i64 Yap p0.refused], cM kI64 1 p1] [] fun r => .x fun (v30 : Value) => .d (cV v30) [oA v30 2 kI64 1 r]) := ⟨so Tryz.func229 rfl rfl fun r X h => gh (.k (.k (.c1 (fun l29 => .x fun v28 => .d [(5, cV v28)] [oA v28 2 kI64 1 l29]) [] [] (.l2 (fun l17 x18 => .x fun v16 => .d [(5, cV v16), (15, cI x18)] [oA v16 2 kI64 1 l17]) [0,13,14] [] .z) .z)))⟩
instance Zhv' (p0 : Ya9) (p1 : List Int) : Sp Tryz.prog 229 [C.ip [cI p0.graph.room, cM Yab 9 p0.graph.events, cM Yab 9 p0.graph.parked, C.imap .i64 Yap p0.depth, C.imap .i64 Yaq p0.before, C.imap .i64 Yaq p0.after, C.imap .i64 Yap p0.refused], cM kI64 1 p1] (Zhu p0 p1) (fun r => cM kI64 1 r) := ⟨fun r h => Ok.freeze ((Zhv p0 p1).h r h) (by rintro c qs ⟨v30, rfl, rfl⟩; exact Frz.arr)⟩

def Zhw (p0 : Ya9) : Option (List Int) := (Zg1 p0).bind fun r1 => (Zhu p0 r1).bind fun r3 => some r3
instance Zhx (p0 : Ya9) : Sp Tryz.prog 205 [C.ip [cI p0.graph.room, cM Yab 9 p0.graph.events, cM Yab 9 p0.graph.parked, C.imap .i64 Yap p0.depth, C.imap .i64 Yaq p0.before, C.imap .i64 Yaq p0.after, C.imap .i64 Yap p0.refused]] (Zhw p0) (fun r => cM kI64 1 r) := Sp.of (so Tryz.func205 rfl rfl fun r X h => gh .z)

def Zhy (l20 : List (List Ya5)) : Option (List (List Ya5)) := some l20
def Zhz (p0 : Ya9) (p1 : List Int) (l10 : List (List Ya5)) (x11 : Int) : Option ((List (List Ya5) × Int) ⊕ ((List (List Ya5)))) := cond (decide (x11 < (p1.length : Int))) ((getI p1 x11).bind fun e13 => (chk (decide ((l10.length + [(Option.getD (mget p0.after e13) ([] : List Ya5))].length) * 24 ≤ 140737488355328))).bind fun u17 => some (.inl ((l10 ++ [(Option.getD (mget p0.after e13) ([] : List Ya5))]), (IntKind.i64.wrap (x11 + 1))))) (some (.inr l10))
def Zi0 (p0 : Ya9) (p1 : List Int) : Option (List (List Ya5)) := (iter (fun z22 => Zhz p0 p1 z22.1 z22.2) big (([] : List (List Ya5)), 0)).bind fun y23 => Zhy y23
instance Zi1 (p0 : Ya9) (p1 : List Int) : SpO Tryz.prog 152 (Zi0 p0 p1) (.d [C.ip [cI p0.graph.room, cM Yab 9 p0.graph.events, cM Yab 9 p0.graph.parked, C.imap .i64 Yap p0.depth, C.imap .i64 Yaq p0.before, C.imap .i64 Yaq p0.after, C.imap .i64 Yap p0.refused], cM kI64 1 p1] [] fun r => .x fun (v21 : Value) => .d (cV v21) [oA v21 159 Yak 1 r]) := ⟨so Tryz.func152 rfl rfl fun r X h => gh (.q 2 (.c1 (fun l20 => .x fun v19 => .d [(5, cV v19)] [oA v19 159 Yak 1 l20]) [] [] (.l2 (fun l10 x11 => .x fun v9 => .d [(5, cV v9), (11, cI x11)] [oA v9 159 Yak 1 l10]) [0,9,10] [] .z) .z))⟩
instance Zi1' (p0 : Ya9) (p1 : List Int) : Sp Tryz.prog 152 [C.ip [cI p0.graph.room, cM Yab 9 p0.graph.events, cM Yab 9 p0.graph.parked, C.imap .i64 Yap p0.depth, C.imap .i64 Yaq p0.before, C.imap .i64 Yaq p0.after, C.imap .i64 Yap p0.refused], cM kI64 1 p1] (Zi0 p0 p1) (fun r => cM Yak 1 r) := ⟨fun r h => Ok.freeze ((Zi1 p0 p1).h r h) (by rintro c qs ⟨v21, rfl, rfl⟩; exact Frz.arr)⟩

def Zi2 (l205 : List Ya5) : Option (List Ya5) := some l205
def Zi3 (x194 : Int) (l204 : List Ya5) : Option ((List Ya5 × Int) ⊕ ((List Ya5))) := some (.inl (l204, (IntKind.i64.wrap (x194 + 1))))
def Zi4 (p0 : Ya9) (r176 : List Y9z) (l193 : List Ya5) (x194 : Int) : Option ((List Ya5 × Int) ⊕ ((List Ya5))) := cond (decide (x194 < (r176.length : Int))) ((getI r176 x194).bind fun e196 => (Zeb p0.graph l193 e196).bind fun r199 => cond (r199 == 0) ((Zen l193 (Ya5.mk e196.kind e196.key e196.id)).bind fun r202 => Zi3 x194 r202) (Zi3 x194 l193)) (some (.inr l193))
def Zi5 (p0 : Ya9) (l37 : List Ya5) (l175 : List Y9z) : Option (List Ya5) := (Y8d (fun z1 z2 => Zex z1 z2 p0) l175).bind fun r176 => (iter (fun z206 => Zi4 p0 r176 z206.1 z206.2) big (l37, 0)).bind fun y207 => Zi2 y207
def Zi6 (x113 : Int) (l172 : List Y9z) (m173 : List (Int × Bool)) : Option ((List Y9z × (List (Int × Bool)) × Int) ⊕ ((List Y9z))) := some (.inl (l172, m173, (IntKind.i64.wrap (x113 + 1))))
def Zi7 (x145 : Int) (l169 : List Y9z) (m170 : List (Int × Bool)) : Option ((List Y9z × (List (Int × Bool)) × Int) ⊕ ((List Y9z × (List (Int × Bool))))) := some (.inl (l169, m170, (IntKind.i64.wrap (x145 + 1))))
def Zi8 (l143 : List Y9z) (m144 : List (Int × Bool)) (x145 : Int) (e147 : Ya5) (x155 : Int) (x156 : Int) (x157 : Int) (x158 : Int) (x159 : Int) (x160 : Int) (x161 : ByteArray) (l162 : List Int) (x163 : Int) : Option ((List Y9z × (List (Int × Bool)) × Int) ⊕ ((List Y9z × (List (Int × Bool))))) := (chk (decide ((l143.length + [(Y9z.mk x155 x156 x157 x158 x159 x160 x161 l162 x163)].length) * 96 ≤ 140737488355328))).bind fun u166 => Zi7 x145 (l143 ++ [(Y9z.mk x155 x156 x157 x158 x159 x160 x161 l162 x163)]) (mset m144 e147.id true)
def Zi9 (p0 : Ya9) (e115 : List Ya5) (l143 : List Y9z) (m144 : List (Int × Bool)) (x145 : Int) : Option ((List Y9z × (List (Int × Bool)) × Int) ⊕ ((List Y9z × (List (Int × Bool))))) := cond (decide (x145 < (e115.length : Int))) ((getI e115 x145).bind fun e147 => cond (Option.getD (mget m144 e147.id) false) (Zi7 x145 l143 m144) ((Zct p0.graph e147.id).bind fun r151 => Zi8 l143 m144 x145 e147 r151.1.id r151.1.room r151.1.author r151.1.kind r151.1.key r151.1.n r151.1.text r151.1.prev r151.1.time)) (some (.inr (l143, m144)))
def Zia (p0 : Ya9) (p1 : List (List Ya5)) (l111 : List Y9z) (m112 : List (Int × Bool)) (x113 : Int) : Option ((List Y9z × (List (Int × Bool)) × Int) ⊕ ((List Y9z))) := cond (decide (x113 < (p1.length : Int))) ((getI p1 x113).bind fun e115 => (iter (fun z208 => Zi9 p0 e115 z208.1 z208.2.1 z208.2.2) big (l111, m112, 0)).bind fun (y209, y210) => Zi6 x113 y209 y210) (some (.inr l111))
def Zib (p0 : Ya9) (p1 : List (List Ya5)) (l37 : List Ya5) (m49 : List (Int × Bool)) : Option (List Ya5) := (iter (fun z211 => Zia p0 p1 z211.1 z211.2.1 z211.2.2) big (([] : List Y9z), m49, 0)).bind fun y212 => Zi5 p0 l37 y212
def Zic (l37 : List Ya5) (m43 : List (Int × Bool)) (x44 : Int) : Option (((List (Int × Bool)) × Int) ⊕ ((List (Int × Bool)))) := cond (decide (x44 < (l37.length : Int))) ((getI l37 x44).bind fun e46 => some (.inl ((mset m43 e46.id true), (IntKind.i64.wrap (x44 + 1))))) (some (.inr m43))
def Zid (p0 : Ya9) (p1 : List (List Ya5)) (l37 : List Ya5) : Option (List Ya5) := (iter (fun z213 => Zic l37 z213.1 z213.2) big (([] : List (Int × Bool)), 0)).bind fun y214 => Zib p0 p1 l37 y214
def Zie (x22 : Int) (l35 : List Ya5) : Option ((List Ya5 × Int) ⊕ ((List Ya5))) := some (.inl (l35, (IntKind.i64.wrap (x22 + 1))))
def Zif (p1 : List (List Ya5)) (e5 : List Ya5) (l21 : List Ya5) (x22 : Int) : Option ((List Ya5 × Int) ⊕ ((List Ya5))) := cond (decide (x22 < (e5.length : Int))) ((getI e5 x22).bind fun e24 => (Zev p1 e24).bind fun r27 => cond r27 (Zie x22 l21) ((chk (decide ((l21.length + [e24].length) * 24 ≤ 140737488355328))).bind fun u32 => Zie x22 (l21 ++ [e24]))) (some (.inr l21))
def Zig (p0 : Ya9) (p1 : List (List Ya5)) : Option (List Ya5) := cond (decide ((p1.length : Int) > 0)) ((getI p1 0).bind fun e5 => (iter (fun z215 => Zif p1 e5 z215.1 z215.2) big (([] : List Ya5), 0)).bind fun y216 => Zid p0 p1 y216) (Zid p0 p1 ([] : List Ya5))
instance Zih (p0 : Ya9) (p1 : List (List Ya5)) : Sp Tryz.prog 151 [C.ip [cI p0.graph.room, cM Yab 9 p0.graph.events, cM Yab 9 p0.graph.parked, C.imap .i64 Yap p0.depth, C.imap .i64 Yaq p0.before, C.imap .i64 Yaq p0.after, C.imap .i64 Yap p0.refused], cM Yak 1 p1] (Zig p0 p1) (fun r => cM Yaj 3 r) := Sp.of (so Tryz.func151 rfl rfl fun r X h => gh (.q 2 (.c1 (fun l37 => .x fun v36 => .d [(5, cV v36)] [oA v36 194 Yaj 3 l37]) [1,2,6] [2,0] (.b (.l2 (fun l21 x22 => .x fun v20 => .d [(5, cV v20), (29, cI x22)] [oA v20 194 Yaj 3 l21]) [1,2,6,27,28] [2,0] (.b (.c1 (fun l35 => .x fun v34 => .d [(5, cV v34)] [oA v34 194 Yaj 3 l35]) [1,2,6,27,28,29] [1,2] .z .z) .z)) .z) (.q 1 (.o 0 fun b38 => .c1 (fun m49 => .d [] [Abs.Obj.map b38 .i64 Yar m49]) [1,2,5,6,9] [2,1,3] (.O 0 fun b38 => .l2 (fun m43 x44 => .d [(45, cI x44)] [Abs.Obj.map b38 .i64 Yar m43]) [1,2,5,6,9,43,44] [2,1,3] .z) (.c1 (fun l175 => .x fun v174 => .d [(6, cV v174)] [oA v174 82 Yab 9 l175]) [2,5] [1,2] (.O 0 fun b38 => .l3 (fun l111 m112 x113 => .x fun v110 => .d [(6, cV v110), (55, cI x113)] [oA v110 82 Yab 9 l111, Abs.Obj.map b38 .i64 Yar m112]) [2,5,9,53,54] [1,2] (.b (.o 1 fun b38 => .c2 (fun l172 m173 => .x fun v171 => .d [(6, cV v171)] [oA v171 82 Yab 9 l172, Abs.Obj.map b38 .i64 Yar m173]) [2,5,9,53,54,55] [2,3] (.O 1 fun b38 => .l3 (fun l143 m144 x145 => .x fun v142 => .d [(6, cV v142), (61, cI x145)] [oA v142 82 Yab 9 l143, Abs.Obj.map b38 .i64 Yar m144]) [2,5,9,53,54,55,59,60] [2,3] (.b (.o 1 fun b38 => .c2 (fun l169 m170 => .x fun v168 => .d [(6, cV v168)] [oA v168 82 Yab 9 l169, Abs.Obj.map b38 .i64 Yar m170]) [2,5,9,53,54,55,59,60,61] [2,3] (.b .z (.q 1 (.c9 (fun x155 x156 x157 x158 x159 x160 x161 l162 x163 => .x fun b154 => .d [(16, pt b154)] [oB b154 82 [cI x155, cI x156, cI x157, cI x158, cI x159, cI x160, C.str x161, cM kI64 1 l162, cI x163]]) [2,5,6,9,53,54,55,59,60,61] [3,4,2,0] (.R [0,0,0,0,0] [0,3,5] [11] (.light 0 true (.light 1 false (.light 2 false (.light 3 true (.light 4 false (.light 5 true (.two 6 10 (.light 7 false (.light 8 false (.light 9 false (.one 10 (.late 11 (.light 12 false .done)))))) (.one 6 (.light 7 false (.light 8 false (.light 9 false (.late 11 (.light 12 false .done))))))))))))) (.H 81 .z)) .z))) .z) .z)) .z) .z)) (.q 1 (.c1 (fun l205 => .d [(5, cM Yaj 3 l205)] []) [] [] (.l2 (fun l193 x194 => .d [(5, cM Yaj 3 l193), (94, cI x194)] []) [2,92,93] [1,0] (.b (.c1 (fun l204 => .d [(5, cM Yaj 3 l204)] []) [2,92,93,94] [0,1] (.r [0,0,0] [0,3,5] [] [1,4,8,13,16,21,26,28] .z) .z) .z)) .z))))))))

def Zii (p0 : Ya9) : Option (List Ya5) := (Zhw p0).bind fun r1 => (Zi0 p0 r1).bind fun r3 => (Zig p0 r3).bind fun r5 => some r5
instance Zij (p0 : Ya9) : Sp Tryz.prog 160 [C.ip [cI p0.graph.room, cM Yab 9 p0.graph.events, cM Yab 9 p0.graph.parked, C.imap .i64 Yap p0.depth, C.imap .i64 Yaq p0.before, C.imap .i64 Yaq p0.after, C.imap .i64 Yap p0.refused]] (Zii p0) (fun r => cM Yaj 3 r) := Sp.of (so Tryz.func160 rfl rfl fun r X h => gh .z)

def Zik (p0 : Y9z) : Option Y9z := (Zff p0.prev).bind fun r3 => some (Y9z.mk p0.id p0.room p0.author p0.kind p0.key p0.n p0.text r3 p0.time)
instance Zil (p0 : Y9z) : Sp Tryz.prog 127 [C.agg [cI p0.id, cI p0.room, cI p0.author, cI p0.kind, cI p0.key, cI p0.n, C.str p0.text, cM kI64 1 p0.prev, cI p0.time]] (Zik p0) (fun r => C.agg [cI r.id, cI r.room, cI r.author, cI r.kind, cI r.key, cI r.n, C.str r.text, cM kI64 1 r.prev, cI r.time]) := Sp.of (so Tryz.func127 rfl rfl fun r X h => gh .z)

end Go.Proofs.YtnoknphekhclcaaGreatDoor
