/- Printed by gen.py: plain functions for Go functions, and that the walks keep to them. -/
import Derived.Test.YtmaefakalikkiaaGreatAQ3
set_option autoImplicit false
set_option linter.unusedVariables false
set_option linter.unusedSimpArgs false
set_option maxHeartbeats 8000000
set_option maxRecDepth 100000
namespace Go.Proofs.YtmaefakalikkiaaGreat
open Go Go.Abs
attribute [local irreducible] AW Ops OpsD Y3z VoK HoK GhF UsC Go.Abs.Fin PkK LenT LenL Y9k BldK FzK FzLK
def Zf5 (p0 : Y9r) (p1 : Y9r) (q0 : Ya3) : Option Int := (Zde p0).bind fun r3 => (Zde p1).bind fun r5 => cond (r3 == r5) ((Za4 (Option.getD (mget q0.depth p0.id) 0) (Option.getD (mget q0.depth p1.id) 0)).bind fun r11 => (Za4 p0.time p1.time).bind fun r13 => (Za4 p0.id p1.id).bind fun r15 => (Zdi [r11, r13, r15]).bind fun r18 => some r18) ((Zde p0).bind fun r8 => cond r8 (some (-1)) (some 1))
instance Zf6 (p0 : Y9r) (p1 : Y9r) (q0 : Ya3) : Sp Tryz.prog 239 [C.agg [cI p0.id, cI p0.room, cI p0.author, cI p0.kind, cI p0.key, cI p0.n, C.str p0.text, cM kI64 1 p0.prev, cI p0.time], C.agg [cI p1.id, cI p1.room, cI p1.author, cI p1.kind, cI p1.key, cI p1.n, C.str p1.text, cM kI64 1 p1.prev, cI p1.time], C.ip [C.ip [cI q0.graph.room, cM Ya5 9 q0.graph.events, cM Ya5 9 q0.graph.parked, C.imap .i64 Yan q0.depth, C.imap .i64 Yao q0.before, C.imap .i64 Yao q0.after, C.imap .i64 Yan q0.refused]]] (Zf5 p0 p1 q0) (fun r => cI r) := Sp.of (so Tryz.func239 rfl rfl fun r X h => gh (.r [0,0] [0,2] [] [1,9,6,14,16] (.b (.r [0,0] [0,3,5,6,7,10,12,13,16,18,21,23] [] [1,4,8,13,16,21,25,29,32,36,41,44,49,53,60,65,68,73,80,85,88,93,58,78,98,102,106,108] .z) .z)))

def Zf7 (l205 : List Y9z) : Option (List Y9z) := some l205
def Zf8 (x194 : Int) (l204 : List Y9z) : Option ((List Y9z × Int) ⊕ ((List Y9z))) := some (.inl (l204, (IntKind.i64.wrap (x194 + 1))))
def Zf9 (p0 : Ya3) (r176 : List Y9r) (l193 : List Y9z) (x194 : Int) : Option ((List Y9z × Int) ⊕ ((List Y9z))) := cond (decide (x194 < (r176.length : Int))) ((getI r176 x194).bind fun e196 => (Zej p0.graph l193 e196).bind fun r199 => cond (r199 == 0) ((Zev l193 (Y9z.mk e196.kind e196.key e196.id)).bind fun r202 => Zf8 x194 r202) (Zf8 x194 l193)) (some (.inr l193))
def Zfa (p0 : Ya3) (l37 : List Y9z) (l175 : List Y9r) : Option (List Y9z) := (Y89 (fun z1 z2 => Zf5 z1 z2 p0) l175).bind fun r176 => (iter (fun z206 => Zf9 p0 r176 z206.1 z206.2) big (l37, 0)).bind fun y207 => Zf7 y207
def Zfb (x113 : Int) (l172 : List Y9r) (m173 : List (Int × Bool)) : Option ((List Y9r × (List (Int × Bool)) × Int) ⊕ ((List Y9r))) := some (.inl (l172, m173, (IntKind.i64.wrap (x113 + 1))))
def Zfc (x145 : Int) (l169 : List Y9r) (m170 : List (Int × Bool)) : Option ((List Y9r × (List (Int × Bool)) × Int) ⊕ ((List Y9r × (List (Int × Bool))))) := some (.inl (l169, m170, (IntKind.i64.wrap (x145 + 1))))
def Zfd (l143 : List Y9r) (m144 : List (Int × Bool)) (x145 : Int) (e147 : Y9z) (x155 : Int) (x156 : Int) (x157 : Int) (x158 : Int) (x159 : Int) (x160 : Int) (x161 : ByteArray) (l162 : List Int) (x163 : Int) : Option ((List Y9r × (List (Int × Bool)) × Int) ⊕ ((List Y9r × (List (Int × Bool))))) := (chk (decide ((l143.length + [(Y9r.mk x155 x156 x157 x158 x159 x160 x161 l162 x163)].length) * 96 ≤ 140737488355328))).bind fun u166 => Zfc x145 (l143 ++ [(Y9r.mk x155 x156 x157 x158 x159 x160 x161 l162 x163)]) (mset m144 e147.id true)
def Zfe (p0 : Ya3) (e115 : List Y9z) (l143 : List Y9r) (m144 : List (Int × Bool)) (x145 : Int) : Option ((List Y9r × (List (Int × Bool)) × Int) ⊕ ((List Y9r × (List (Int × Bool))))) := cond (decide (x145 < (e115.length : Int))) ((getI e115 x145).bind fun e147 => cond (Option.getD (mget m144 e147.id) false) (Zfc x145 l143 m144) ((Zd1 p0.graph e147.id).bind fun r151 => Zfd l143 m144 x145 e147 r151.1.id r151.1.room r151.1.author r151.1.kind r151.1.key r151.1.n r151.1.text r151.1.prev r151.1.time)) (some (.inr (l143, m144)))
def Zff (p0 : Ya3) (p1 : List (List Y9z)) (l111 : List Y9r) (m112 : List (Int × Bool)) (x113 : Int) : Option ((List Y9r × (List (Int × Bool)) × Int) ⊕ ((List Y9r))) := cond (decide (x113 < (p1.length : Int))) ((getI p1 x113).bind fun e115 => (iter (fun z208 => Zfe p0 e115 z208.1 z208.2.1 z208.2.2) big (l111, m112, 0)).bind fun (y209, y210) => Zfb x113 y209 y210) (some (.inr l111))
def Zfg (p0 : Ya3) (p1 : List (List Y9z)) (l37 : List Y9z) (m49 : List (Int × Bool)) : Option (List Y9z) := (iter (fun z211 => Zff p0 p1 z211.1 z211.2.1 z211.2.2) big (([] : List Y9r), m49, 0)).bind fun y212 => Zfa p0 l37 y212
def Zfh (l37 : List Y9z) (m43 : List (Int × Bool)) (x44 : Int) : Option (((List (Int × Bool)) × Int) ⊕ ((List (Int × Bool)))) := cond (decide (x44 < (l37.length : Int))) ((getI l37 x44).bind fun e46 => some (.inl ((mset m43 e46.id true), (IntKind.i64.wrap (x44 + 1))))) (some (.inr m43))
def Zfi (p0 : Ya3) (p1 : List (List Y9z)) (l37 : List Y9z) : Option (List Y9z) := (iter (fun z213 => Zfh l37 z213.1 z213.2) big (([] : List (Int × Bool)), 0)).bind fun y214 => Zfg p0 p1 l37 y214
def Zfj (x22 : Int) (l35 : List Y9z) : Option ((List Y9z × Int) ⊕ ((List Y9z))) := some (.inl (l35, (IntKind.i64.wrap (x22 + 1))))
def Zfk (p1 : List (List Y9z)) (e5 : List Y9z) (l21 : List Y9z) (x22 : Int) : Option ((List Y9z × Int) ⊕ ((List Y9z))) := cond (decide (x22 < (e5.length : Int))) ((getI e5 x22).bind fun e24 => (Zf3 p1 e24).bind fun r27 => cond r27 (Zfj x22 l21) ((chk (decide ((l21.length + [e24].length) * 24 ≤ 140737488355328))).bind fun u32 => Zfj x22 (l21 ++ [e24]))) (some (.inr l21))
def Zfl (p0 : Ya3) (p1 : List (List Y9z)) : Option (List Y9z) := cond (decide ((p1.length : Int) > 0)) ((getI p1 0).bind fun e5 => (iter (fun z215 => Zfk p1 e5 z215.1 z215.2) big (([] : List Y9z), 0)).bind fun y216 => Zfi p0 p1 y216) (Zfi p0 p1 ([] : List Y9z))
instance Zfm (p0 : Ya3) (p1 : List (List Y9z)) : SpO Tryz.prog 120 (Zfl p0 p1) (.x fun (b00 : Nat) => .x fun (b01 : Nat) => .x fun (b02 : Nat) => .x fun (b03 : Nat) => .x fun (b04 : Nat) => .d [pt b00, cM Yai 1 p1] [oB b00 140 [cI p0.graph.room, cM Ya5 9 p0.graph.events, cM Ya5 9 p0.graph.parked, mt b01, mt b02, mt b03, mt b04], Abs.Obj.map b01 .i64 Yan p0.depth, Abs.Obj.map b02 .i64 Yao p0.before, Abs.Obj.map b03 .i64 Yao p0.after, Abs.Obj.map b04 .i64 Yan p0.refused] fun r => .d (cM Yah 3 r) [oB b00 140 [cI p0.graph.room, cM Ya5 9 p0.graph.events, cM Ya5 9 p0.graph.parked, mt b01, mt b02, mt b03, mt b04], Abs.Obj.map b01 .i64 Yan p0.depth, Abs.Obj.map b02 .i64 Yao p0.before, Abs.Obj.map b03 .i64 Yao p0.after, Abs.Obj.map b04 .i64 Yan p0.refused]) := ⟨fun b00 b01 b02 b03 b04 => so Tryz.func120 rfl rfl fun r X h => gh (.q 2 (.c1 (fun l37 => .x fun v36 => .d [(5, cV v36)] [oA v36 136 Yah 3 l37]) [1,2,6] [2,3,4,5,6,7,0] (.b (.l2 (fun l21 x22 => .x fun v20 => .d [(5, cV v20), (29, cI x22)] [oA v20 136 Yah 3 l21]) [1,2,6,27,28] [2,3,4,5,6,7,0] (.b (.c1 (fun l35 => .x fun v34 => .d [(5, cV v34)] [oA v34 136 Yah 3 l35]) [1,2,6,27,28,29] [1,2,3,4,5,6,7] .z .z) .z)) .z) (.q 1 (.o 0 fun b38 => .c1 (fun m49 => .d [] [Abs.Obj.map b38 .i64 Yap m49]) [1,2,5,6,9] [2,3,4,5,6,7,1,8] (.O 0 fun b38 => .l2 (fun m43 x44 => .d [(45, cI x44)] [Abs.Obj.map b38 .i64 Yap m43]) [1,2,5,6,9,43,44] [2,3,4,5,6,7,1,8] .z) (.c1 (fun l175 => .x fun v174 => .d [(6, cV v174)] [oA v174 42 Ya5 9 l175]) [2,5] [1,2,3,4,5,6,7] (.O 0 fun b38 => .l3 (fun l111 m112 x113 => .x fun v110 => .d [(6, cV v110), (55, cI x113)] [oA v110 42 Ya5 9 l111, Abs.Obj.map b38 .i64 Yap m112]) [2,5,9,53,54] [1,2,3,4,5,6,7] (.b (.o 1 fun b38 => .c2 (fun l172 m173 => .x fun v171 => .d [(6, cV v171)] [oA v171 42 Ya5 9 l172, Abs.Obj.map b38 .i64 Yap m173]) [2,5,9,53,54,55] [2,3,4,5,6,7,8] (.O 1 fun b38 => .l3 (fun l143 m144 x145 => .x fun v142 => .d [(6, cV v142), (61, cI x145)] [oA v142 42 Ya5 9 l143, Abs.Obj.map b38 .i64 Yap m144]) [2,5,9,53,54,55,59,60] [2,3,4,5,6,7,8] (.b (.o 1 fun b38 => .c2 (fun l169 m170 => .x fun v168 => .d [(6, cV v168)] [oA v168 42 Ya5 9 l169, Abs.Obj.map b38 .i64 Yap m170]) [2,5,9,53,54,55,59,60,61] [2,3,4,5,6,7,8] (.b .z (.q 1 (.c9 (fun x155 x156 x157 x158 x159 x160 x161 l162 x163 => .x fun b154 => .d [(16, pt b154)] [oB b154 42 [cI x155, cI x156, cI x157, cI x158, cI x159, cI x160, C.str x161, cM kI64 1 l162, cI x163]]) [2,5,6,9,53,54,55,59,60,61] [3,4,5,6,7,8,9,2,0] (.R [0,0,0,0,0,0,0,0,0,0] [0,3,5] [11] (.light 0 true (.light 1 false (.light 2 false (.light 3 true (.light 4 false (.light 5 true (.two 6 10 (.light 7 false (.light 8 false (.light 9 false (.one 10 (.late 11 (.light 12 false .done)))))) (.one 6 (.light 7 false (.light 8 false (.light 9 false (.late 11 (.light 12 false .done))))))))))))) (.H 142 .z)) .z))) .z) .z)) .z) .z)) (.q 1 (.c1 (fun l205 => .d [(5, cM Yah 3 l205)] []) [] [2,3,4,5,6] (.l2 (fun l193 x194 => .d [(5, cM Yah 3 l193), (94, cI x194)] []) [2,92,93] [1,2,3,4,5,6,0] (.b (.c1 (fun l204 => .d [(5, cM Yah 3 l204)] []) [2,92,93,94] [0,1,2,3,4,5,6] (.r [0,0,0,0,0,0,0,0] [0,3,5] [] [1,4,8,13,16,21,26,28] .z) .z) .z)) .z)))))))⟩

def Zfn (p0 : List Int) : Option (List Int) := (chk (decide (p0.length * 8 ≤ 140737488355328))).bind fun _ => some p0
theorem Zfo (p0 : List Int) (r : List Int) (h : Zfn p0 = some r) : Ok Tryz.prog 339 [cM kI64 1 p0] [] (fun c qs => ∃ (v : Value), c = cV v ∧ qs = [oA v 2 kI64 1 r]) := by
 refine ob' h fun u hc h => ?_
 obtain rfl := Wj h
 have hc := Wo (Y45 hc)
 refine Ok.of_body (rs := [.tmp 2]) Tryz.func339 rfl rfl rfl rfl rfl fun X => ?_
 refine zw ?_
 refine Ops.h (ns := []) rfl rfl (Y60 Yaz.h rfl rfl) ?_
 rintro _ _ ⟨b, hb, rfl, rfl⟩
 refine zw ?_
 refine tf' b (fun hq => ?_) (fun hq => ?_)
 ·
  refine AW.cond rfl (fun _ => ?_) (fun hn => absurd (hq.symm.trans hn) (by decide))
  refine zw ?_
  refine AW.ret ?_
  obtain rfl := hb hq
  exact finI ⟨[cV s0], _, Y25.nil 2 kI64 1, .cons (.tmp rfl) .nil, [0], _, _, rfl, ⟨_, rfl, rfl⟩⟩
 refine AW.cond rfl (fun hn => absurd (hq.symm.trans hn) (by decide)) (fun _ => ?_)
 refine zw ?_
 refine Ops.h (ns := []) rfl rfl (Y3l (k := kI64) (ys := ([] : List Int)) Ybo .nil rfl rfl rfl) ?_
 rintro _ _ ⟨b1, rfl, rfl⟩
 refine zw ?_
 refine Ops.h (ns := [0]) rfl rfl (Y33 Ybo rfl rfl (by simpa using hc) (by simp; omega) rfl) ?_
 rintro _ _ ⟨v, rfl, rfl⟩
 refine zw ?_
 refine AW.ret ?_
 exact finI ⟨[cV v], _, Y25.refl _, .cons (.tmp rfl) .nil, [0], _, _, rfl, ⟨v, rfl, rfl⟩⟩
instance Zfo' (p0 : List Int) : Sp Tryz.prog 339 [cM kI64 1 p0] (Zfn p0) (fun r => cM kI64 1 r) := ⟨fun r h => Ok.freeze (Zfo p0 r h) (by rintro c qs ⟨v, rfl, rfl⟩; exact Frz.arr)⟩
instance Zfp (p0 : List Int) : SpO Tryz.prog 339 (Zfn p0) (.d [cM kI64 1 p0] [] fun r => .x fun (v : Value) => .d (cV v) [oA v 2 kI64 1 r]) := ⟨fun r h => Zfo p0 r h⟩

def Zfq : Option Bool := some false
def Zfr (x24 : Int) (m36 : List (Int × Bool)) (l38 : List Int) : Option (((List (Int × Bool)) × List Int × Int) ⊕ (Bool ⊕ Unit)) := some (.inl (m36, l38, (IntKind.i64.wrap (x24 + 1))))
def Zfs (p0 : Y9w) (p1 : Int) (m21 : List (Int × Bool)) (l23 : List Int) (x24 : Int) : Option (((List (Int × Bool)) × List Int × Int) ⊕ (Bool ⊕ Unit)) := cond (decide (x24 < (l23.length : Int))) ((getI l23 x24).bind fun e26 => cond (e26 == p1) (some (.inr (.inl true))) (cond (Option.getD (mget m21 e26) false) (Zfr x24 m21 l23) ((Zd1 p0 e26).bind fun r30 => (chk (decide ((l23.length + r30.1.prev.length) * 8 ≤ 140737488355328))).bind fun u34 => Zfr x24 (mset m21 e26 true) (l23 ++ r30.1.prev)))) (some (.inr (.inr ())))
def Zft (p0 : Y9w) (p1 : Int) (p2 : Y9r) : Option Bool := (Zfn p2.prev).bind fun r4 => (iter (fun z39 => Zfs p0 p1 z39.1 z39.2.1 z39.2.2) big (([] : List (Int × Bool)), r4, 0)).bind (fun z41 => match z41 with | .inl y40 => some y40 | .inr () => Zfq)
instance Zfu (p0 : Y9w) (p1 : Int) (p2 : Y9r) : Sp Tryz.prog 319 [C.agg [cI p0.room, cM Ya5 9 p0.events, cM Ya5 9 p0.parked], cI p1, C.agg [cI p2.id, cI p2.room, cI p2.author, cI p2.kind, cI p2.key, cI p2.n, C.str p2.text, cM kI64 1 p2.prev, cI p2.time]] (Zft p0 p1 p2) (fun r => C.bool r) := Sp.of (so Tryz.func319 rfl rfl fun r X h => gh (.k (.c0 (.d [] []) [] [] (.O 1 fun b3 => .l3 (fun m21 l23 x24 => .x fun v22 => .d [(8, cV v22), (9, cI x24)] [Abs.Obj.map b3 .i64 Yap m21, oA v22 2 kI64 1 l23]) [1,3,7] [3] (.b (.o 0 fun b3 => .c2 (fun m36 l38 => .x fun v37 => .d [(8, cV v37)] [Abs.Obj.map b3 .i64 Yap m36, oA v37 2 kI64 1 l38]) [1,3,7,9] [2] .z .z) .z)) .z)))

def Zfv (p0 : Ya3) (p1 : Y9r) (r5 : List Y9z) (x15 : Int) (x29 : Bool) : Option ((List (Int × List Y9z)) × (List (Int × List Y9z)) × (List (Int × Int))) := cond x29 ((Zev r5 (Y9z.mk p1.kind p1.key p1.id)).bind fun r31 => some ((mset p0.before p1.id r5), (mset (mset p0.after p1.id r5) p1.id r31), (mset p0.refused p1.id x15))) (some ((mset p0.before p1.id r5), (mset p0.after p1.id r5), (mset p0.refused p1.id x15)))
def Zfw (p0 : Ya3) (p1 : Y9r) (r5 : List Y9z) (x15 : Int) : Option ((List (Int × List Y9z)) × (List (Int × List Y9z)) × (List (Int × Int))) := cond (x15 == 0) (Zfv p0 p1 r5 x15 (decide (p1.kind ≤ 6))) (Zfv p0 p1 r5 x15 false)
def Zfx (p0 : Ya3) (p1 : Y9r) (r5 : List Y9z) (r7 : Int) (x13 : Bool) : Option ((List (Int × List Y9z)) × (List (Int × List Y9z)) × (List (Int × Int))) := cond x13 (Zfw p0 p1 r5 6) (Zfw p0 p1 r5 r7)
def Zfy (p0 : Ya3) (p1 : Y9r) : Option ((List (Int × List Y9z)) × (List (Int × List Y9z)) × (List (Int × Int))) := (Zd5 p0 p1.prev).bind fun r2 => (Zfl p0 r2).bind fun r5 => (Zej p0.graph r5 p1).bind fun r7 => cond (r7 == 0) (cond (p1.kind == 8) ((Zft p0.graph p1.key p1).bind fun r11 => Zfx p0 p1 r5 r7 (!r11)) (Zfx p0 p1 r5 r7 false)) (Zfx p0 p1 r5 r7 false)
instance Zfz (p0 : Ya3) (p1 : Y9r) : SpO Tryz.prog 235 (Zfy p0 p1) (.x fun (b00 : Nat) => .x fun (b01 : Nat) => .x fun (b02 : Nat) => .x fun (b03 : Nat) => .x fun (b04 : Nat) => .d [pt b00, C.agg [cI p1.id, cI p1.room, cI p1.author, cI p1.kind, cI p1.key, cI p1.n, C.str p1.text, cM kI64 1 p1.prev, cI p1.time]] [oB b00 140 [cI p0.graph.room, cM Ya5 9 p0.graph.events, cM Ya5 9 p0.graph.parked, mt b01, mt b02, mt b03, mt b04], Abs.Obj.map b01 .i64 Yan p0.depth, Abs.Obj.map b02 .i64 Yao p0.before, Abs.Obj.map b03 .i64 Yao p0.after, Abs.Obj.map b04 .i64 Yan p0.refused] fun r => .d (C.tup []) [oB b00 140 [cI p0.graph.room, cM Ya5 9 p0.graph.events, cM Ya5 9 p0.graph.parked, mt b01, mt b02, mt b03, mt b04], Abs.Obj.map b01 .i64 Yan p0.depth, Abs.Obj.map b02 .i64 Yao r.1, Abs.Obj.map b03 .i64 Yao r.2.1, Abs.Obj.map b04 .i64 Yan r.2.2]) := ⟨fun b00 b01 b02 b03 b04 => so Tryz.func235 rfl rfl fun r X h => gh (.f 10 [] (.r [0,0,0,0,0,0] [3,5] [] [0,4,8,13,16,21,26,28] (.c1 (fun x15 => .d [(5, cI x15)] []) [0,3,4] [0,1,2,3,4,5] (.c1 (fun x13 => .d [(36, C.bool x13)] []) [0,3,4,5] [0,1,2,3,4,5] (.r [0,0,0,0,0,0] [4,11,13,14] [] [0,4,8,12,17,20,24,28,32,36,40,45,48,53,57,62,64,68] .z) .z) (.r [0,0,3] [3,5,9,11,15,17] [29] [0,4,8,13,16,21,24,28,32,37,40,45,48,52,56,61,64,69,72,76,80,86,88,94,98,100,106,110,112,119] (.c1 (fun x29 => .d [(70, C.bool x29)] []) [0,3,4] [1,2,5,4,0,3] .z (.b (.r [0,0,0,0,0,0] [3,5,8,10,12] [15] [0,4,8,13,16,21,24,28,33,36,41,44,49,52,58,63] .z) .z))))))⟩

def Zg0 (p0 : Y9w) (m23 : List (Int × Int)) (m46 : List (Int × List Y9z)) (m47 : List (Int × List Y9z)) (m48 : List (Int × Int)) : Option Ya3 := some (Ya3.mk p0 m23 m46 m47 m48)
def Zg1 (p0 : Y9w) (m23 : List (Int × Int)) (r24 : List Int) (m34 : List (Int × List Y9z)) (m35 : List (Int × List Y9z)) (m36 : List (Int × Int)) (x37 : Int) : Option (((List (Int × List Y9z)) × (List (Int × List Y9z)) × (List (Int × Int)) × Int) ⊕ (((List (Int × List Y9z)) × (List (Int × List Y9z)) × (List (Int × Int))))) := cond (decide (x37 < (r24.length : Int))) ((getI r24 x37).bind fun e39 => (Zd1 p0 e39).bind fun r41 => (Zfy (Ya3.mk p0 m23 m34 m35 m36) r41.1).bind fun r44 => some (.inl (r44.1, r44.2.1, r44.2.2, (IntKind.i64.wrap (x37 + 1))))) (some (.inr (m34, m35, m36)))
def Zg2 (p0 : Y9w) (m23 : List (Int × Int)) : Option Ya3 := (Zcz p0).bind fun r24 => (iter (fun z54 => Zg1 p0 m23 r24 z54.1 z54.2.1 z54.2.2.1 z54.2.2.2) big (([] : List (Int × List Y9z)), ([] : List (Int × List Y9z)), ([] : List (Int × Int)), 0)).bind fun (y55, y56, y57) => Zg0 p0 m23 y55 y56 y57
def Zg3 (p0 : Y9w) (r7 : List Int × Bool) (m15 : List (Int × Int)) (x16 : Int) : Option (((List (Int × Int)) × Int) ⊕ ((List (Int × Int)))) := cond (decide (x16 < (p0.events.length : Int))) ((getI p0.events x16).bind fun e18 => (getI r7.1 x16).bind fun e21 => some (.inl ((mset m15 e18.id e21), (IntKind.i64.wrap (x16 + 1))))) (some (.inr m15))
def Zg4 (p0 : Y9w) : Option Ya3 := (Zay p0).bind fun r7 => (iter (fun z58 => Zg3 p0 r7 z58.1 z58.2) big (([] : List (Int × Int)), 0)).bind fun y59 => Zg2 p0 y59
instance Zg5 (p0 : Y9w) : SpO Tryz.prog 119 (Zg4 p0) (.d [C.agg [cI p0.room, cM Ya5 9 p0.events, cM Ya5 9 p0.parked]] [] fun r => .x fun (b49 : Nat) => .x fun (b50 : Nat) => .x fun (b51 : Nat) => .x fun (b52 : Nat) => .x fun (b53 : Nat) => .d (pt b49) [oB b49 140 [cI r.graph.room, cM Ya5 9 r.graph.events, cM Ya5 9 r.graph.parked, mt b50, mt b51, mt b52, mt b53], Abs.Obj.map b50 .i64 Yan r.depth, Abs.Obj.map b51 .i64 Yao r.before, Abs.Obj.map b52 .i64 Yao r.after, Abs.Obj.map b53 .i64 Yan r.refused]) := ⟨so Tryz.func119 rfl rfl fun r X h => gh (.q 3 (.o 4 fun b2 => .c1 (fun m23 => .d [] [Abs.Obj.map b2 .i64 Yan m23]) [1,3] [5,0,3,2,1] (.O 4 fun b2 => .l2 (fun m15 x16 => .d [(27, cI x16)] [Abs.Obj.map b2 .i64 Yan m15]) [1,3,4,25,26] [5,0,3,2,1] (.b (.r [0,0,0,0,0,0,0] [3,5,9] [10] [0,4,8,13,16,21,24,28,32,37,43] .z) .z)) (.o 3 fun b3 => .o 4 fun b4 => .o 5 fun b5 => .c3 (fun m46 m47 m48 => .d [] [Abs.Obj.map b3 .i64 Yao m46, Abs.Obj.map b4 .i64 Yao m47, Abs.Obj.map b5 .i64 Yan m48]) [3] [2,0] (.O 3 fun b3 => .O 4 fun b4 => .O 5 fun b5 => .l4 (fun m34 m35 m36 x37 => .d [(46, cI x37)] [Abs.Obj.map b3 .i64 Yao m34, Abs.Obj.map b4 .i64 Yao m35, Abs.Obj.map b5 .i64 Yan m36]) [1,3,44,45] [1,2,0] .z) .z)))⟩
instance Zg5' (p0 : Y9w) : Sp Tryz.prog 119 [C.agg [cI p0.room, cM Ya5 9 p0.events, cM Ya5 9 p0.parked]] (Zg4 p0) (fun r => C.ip [cI r.graph.room, cM Ya5 9 r.graph.events, cM Ya5 9 r.graph.parked, C.imap .i64 Yan r.depth, C.imap .i64 Yao r.before, C.imap .i64 Yao r.after, C.imap .i64 Yan r.refused]) := ⟨fun r h => Ok.freeze ((Zg5 p0).h r h) (by rintro c qs ⟨b49, b50, b51, b52, b53, rfl, rfl⟩; exact Frz.box (fS (fS (fS (FrzL.cons (os := [_]) (Frz.map) (FrzL.cons (os := [_]) (Frz.map) (FrzL.cons (os := [_]) (Frz.map) (FrzL.cons (os := [_]) (Frz.map) (FrzL.nil)))))))))⟩

def Zg6 (l28 : List Int) : Option (List Int) := some l28
def Zg7 (x15 : Int) (l26 : List Int) : Option ((List Int × Int) ⊕ ((List Int))) := some (.inl (l26, (IntKind.i64.wrap (x15 + 1))))
def Zg8 (p0 : Ya3) (l14 : List Int) (x15 : Int) : Option ((List Int × Int) ⊕ ((List Int))) := cond (decide (x15 < (p0.graph.events.length : Int))) ((getI p0.graph.events x15).bind fun e17 => cond ((Option.getD (mget p0.refused e17.id) 0) == 0) ((chk (decide ((l14.length + [e17.id].length) * 8 ≤ 140737488355328))).bind fun u23 => Zg7 x15 (l14 ++ [e17.id])) (Zg7 x15 l14)) (some (.inr l14))
def Zg9 (p0 : Ya3) : Option (List Int) := (iter (fun z30 => Zg8 p0 z30.1 z30.2) big (([] : List Int), 0)).bind fun y31 => Zg6 y31
instance Zga (p0 : Ya3) : SpO Tryz.prog 257 (Zg9 p0) (.d [C.ip [cI p0.graph.room, cM Ya5 9 p0.graph.events, cM Ya5 9 p0.graph.parked, C.imap .i64 Yan p0.depth, C.imap .i64 Yao p0.before, C.imap .i64 Yao p0.after, C.imap .i64 Yan p0.refused]] [] fun r => .x fun (v29 : Value) => .d (cV v29) [oA v29 2 kI64 1 r]) := ⟨so Tryz.func257 rfl rfl fun r X h => gh (.q 2 (.c1 (fun l28 => .x fun v27 => .d [(3, cV v27)] [oA v27 2 kI64 1 l28]) [] [] (.l2 (fun l14 x15 => .x fun v13 => .d [(3, cV v13), (13, cI x15)] [oA v13 2 kI64 1 l14]) [0,11,12] [] (.b (.c1 (fun l26 => .x fun v25 => .d [(3, cV v25)] [oA v25 2 kI64 1 l26]) [0,11,12,13] [] (.r [0,0] [3,5,6] [] [0,4,8,13,16,21,25,28] .z) .z) .z)) .z))⟩
instance Zga' (p0 : Ya3) : Sp Tryz.prog 257 [C.ip [cI p0.graph.room, cM Ya5 9 p0.graph.events, cM Ya5 9 p0.graph.parked, C.imap .i64 Yan p0.depth, C.imap .i64 Yao p0.before, C.imap .i64 Yao p0.after, C.imap .i64 Yan p0.refused]] (Zg9 p0) (fun r => cM kI64 1 r) := ⟨fun r h => Ok.freeze ((Zga p0).h r h) (by rintro c qs ⟨v29, rfl, rfl⟩; exact Frz.arr)⟩

def Zgb (p0 : Ya4) (p1 : Int) : Option Ya3 := (getI p0.rooms (IntKind.i64.wrap (p1 - 1))).bind fun e1 => some e1
instance Zgc (p0 : Ya4) (p1 : Int) : SpO Tryz.prog 287 (Zgb p0 p1) (.x fun (b00 : Nat) => .x fun (w01 : Value) => .d [pt b00, cI p1] [oB b00 199 [cM Yab 3 p0.hub.rooms, cM Ya7 2 p0.hub.stream, cV w01], oA w01 131 Yar 1 p0.rooms] fun r => .d (C.ip [cI r.graph.room, cM Ya5 9 r.graph.events, cM Ya5 9 r.graph.parked, C.imap .i64 Yan r.depth, C.imap .i64 Yao r.before, C.imap .i64 Yao r.after, C.imap .i64 Yan r.refused]) [oB b00 199 [cM Yab 3 p0.hub.rooms, cM Ya7 2 p0.hub.stream, cV w01], oA w01 131 Yar 1 p0.rooms]) := ⟨fun b00 w01 => so Tryz.func287 rfl rfl fun r X h => gh .z⟩

def Zgd (x2 : Bool) : Option Bool := some x2
def Zge (p0 : Int) (q0 : Ya3) (q1 : List ((Int × Int) × Bool)) (q2 : Y9t) : Option Bool := cond ((Option.getD (mget q0.refused p0) 0) == 0) (Zgd (!(Option.getD (pget q1 (q2.room, p0)) false))) (Zgd false)
instance Zgf (p0 : Int) (q0 : Ya3) (q1 : List ((Int × Int) × Bool)) (q2 : Y9t) : SpO Tryz.prog 289 (Zge p0 q0 q1 q2) (.x fun (b00 : Nat) => .x fun (b01 : Nat) => .x fun (b02 : Nat) => .x fun (b03 : Nat) => .d [cI p0, pt b00, pt b01, pt b03] [oB b00 131 [C.ip [cI q0.graph.room, cM Ya5 9 q0.graph.events, cM Ya5 9 q0.graph.parked, C.imap .i64 Yan q0.depth, C.imap .i64 Yao q0.before, C.imap .i64 Yao q0.after, C.imap .i64 Yan q0.refused]], oB b01 304 [mt b02], Abs.Obj.pmap b02 Yap q1, oB b03 187 [cI q2.room, cI q2.id]] fun r => .d (C.bool r) [oB b00 131 [C.ip [cI q0.graph.room, cM Ya5 9 q0.graph.events, cM Ya5 9 q0.graph.parked, C.imap .i64 Yan q0.depth, C.imap .i64 Yao q0.before, C.imap .i64 Yao q0.after, C.imap .i64 Yan q0.refused]], oB b01 304 [mt b02], Abs.Obj.pmap b02 Yap q1, oB b03 187 [cI q2.room, cI q2.id]]) := ⟨fun b00 b01 b02 b03 => so Tryz.func289 rfl rfl fun r X h => gh (.q 1 (.c1 (fun x2 => .d [(5, C.bool x2)] []) [] [0,1,2,3] .z .z))⟩

def Zgg : Option Int := some (-1)
def Zgh (p0 : List Int) (p1_0 : Ya3) (p1_1 : List ((Int × Int) × Bool)) (p1_2 : Y9t) (x7 : Int) : Option (Int ⊕ (Int ⊕ Unit)) := cond (decide (x7 < (p0.length : Int))) ((getI p0 x7).bind fun e9 => (Zge e9 p1_0 p1_1 p1_2).bind fun r11 => cond r11 (some (.inr (.inl x7))) (some (.inl (IntKind.i64.wrap (x7 + 1))))) (some (.inr (.inr ())))
def Zgi (p0 : List Int) (p1_0 : Ya3) (p1_1 : List ((Int × Int) × Bool)) (p1_2 : Y9t) : Option Int := (iter (Zgh p0 p1_0 p1_1 p1_2) big 0).bind (fun z15 => match z15 with | .inl y14 => some y14 | .inr () => Zgg)
instance Zgj (p0 : List Int) (p1_0 : Ya3) (p1_1 : List ((Int × Int) × Bool)) (p1_2 : Y9t) : SpO Tryz.prog 353 (Zgi p0 p1_0 p1_1 p1_2) (.x fun (b00 : Nat) => .x fun (b01 : Nat) => .x fun (b02 : Nat) => .x fun (b03 : Nat) => .d [cM kI64 1 p0, C.clo 289 [pt b00, pt b01, pt b03]] [oB b00 131 [C.ip [cI p1_0.graph.room, cM Ya5 9 p1_0.graph.events, cM Ya5 9 p1_0.graph.parked, C.imap .i64 Yan p1_0.depth, C.imap .i64 Yao p1_0.before, C.imap .i64 Yao p1_0.after, C.imap .i64 Yan p1_0.refused]], oB b01 304 [mt b02], Abs.Obj.pmap b02 Yap p1_1, oB b03 187 [cI p1_2.room, cI p1_2.id]] fun r => .d (cI r) [oB b00 131 [C.ip [cI p1_0.graph.room, cM Ya5 9 p1_0.graph.events, cM Ya5 9 p1_0.graph.parked, C.imap .i64 Yan p1_0.depth, C.imap .i64 Yao p1_0.before, C.imap .i64 Yao p1_0.after, C.imap .i64 Yan p1_0.refused]], oB b01 304 [mt b02], Abs.Obj.pmap b02 Yap p1_1, oB b03 187 [cI p1_2.room, cI p1_2.id]]) := ⟨fun b00 b01 b02 b03 => so Tryz.func353 rfl rfl fun r X h => gh (.q 1 (.c0 (.d [] []) [] [0,1,2,3] (.l1 (fun x7 => .d [(8, cI x7)] []) [0,1,7] [0,1,2,3] .z) .z))⟩

def Zgk (p0 : List Int) (p1_0 : Ya3) (p1_1 : List ((Int × Int) × Bool)) (p1_2 : Y9t) : Option Bool := (Zgi p0 p1_0 p1_1 p1_2).bind fun r1 => some (decide (r1 ≥ 0))
instance Zgl (p0 : List Int) (p1_0 : Ya3) (p1_1 : List ((Int × Int) × Bool)) (p1_2 : Y9t) : SpO Tryz.prog 288 (Zgk p0 p1_0 p1_1 p1_2) (.x fun (b00 : Nat) => .x fun (b01 : Nat) => .x fun (b02 : Nat) => .x fun (b03 : Nat) => .d [cM kI64 1 p0, C.clo 289 [pt b00, pt b01, pt b03]] [oB b00 131 [C.ip [cI p1_0.graph.room, cM Ya5 9 p1_0.graph.events, cM Ya5 9 p1_0.graph.parked, C.imap .i64 Yan p1_0.depth, C.imap .i64 Yao p1_0.before, C.imap .i64 Yao p1_0.after, C.imap .i64 Yan p1_0.refused]], oB b01 304 [mt b02], Abs.Obj.pmap b02 Yap p1_1, oB b03 187 [cI p1_2.room, cI p1_2.id]] fun r => .d (C.bool r) [oB b00 131 [C.ip [cI p1_0.graph.room, cM Ya5 9 p1_0.graph.events, cM Ya5 9 p1_0.graph.parked, C.imap .i64 Yan p1_0.depth, C.imap .i64 Yao p1_0.before, C.imap .i64 Yao p1_0.after, C.imap .i64 Yan p1_0.refused]], oB b01 304 [mt b02], Abs.Obj.pmap b02 Yap p1_1, oB b03 187 [cI p1_2.room, cI p1_2.id]]) := ⟨fun b00 b01 b02 b03 => so Tryz.func288 rfl rfl fun r X h => gh .z⟩

def Zgm (p0 : Y9x) (l100 : List Ya3) (x101 : Int) : Option (Ya4 × Bool) := cond (x101 == (p0.stream.length : Int)) (some ((Ya4.mk p0 l100), (x101 == (p0.stream.length : Int)))) (some ((Ya4.mk (Y9x.mk [] []) []), (x101 == (p0.stream.length : Int))))
def Zgn (m178 : List ((Int × Int) × Bool)) (x179 : Int) (e181 : Y9t) (x252 : Bool) : Option (((List ((Int × Int) × Bool)) × Int) ⊕ ((Ya4 × Bool) ⊕ Unit)) := cond x252 (some (.inr (.inl ((Ya4.mk (Y9x.mk [] []) []), false)))) (some (.inl ((pset m178 (e181.room, e181.id) true), (IntKind.i64.wrap (x179 + 1)))))
def Zgo (m178 : List ((Int × Int) × Bool)) (x179 : Int) (e181 : Y9t) (r189 : Ya3) (x196 : Int) (x197 : Int) (x198 : Int) (x199 : Int) (x200 : Int) (x201 : Int) (x202 : ByteArray) (l203 : List Int) (x204 : Int) (x205 : Bool) : Option (((List ((Int × Int) × Bool)) × Int) ⊕ ((Ya4 × Bool) ⊕ Unit)) := cond x205 (cond ((Option.getD (mget r189.refused e181.id) 0) != 0) (Zgn m178 x179 e181 true) ((Zgk l203 r189 m178 e181).bind fun r244 => Zgn m178 x179 e181 r244)) (Zgn m178 x179 e181 true)
def Zgp (p0 : Y9x) (l100 : List Ya3) (m178 : List ((Int × Int) × Bool)) (x179 : Int) (e181 : Y9t) (x187 : Bool) : Option (((List ((Int × Int) × Bool)) × Int) ⊕ ((Ya4 × Bool) ⊕ Unit)) := cond x187 (some (.inr (.inl ((Ya4.mk (Y9x.mk [] []) []), false)))) ((Zgb (Ya4.mk p0 l100) e181.room).bind fun r189 => (Zd1 r189.graph e181.id).bind fun r192 => Zgo m178 x179 e181 r189 r192.1.id r192.1.room r192.1.author r192.1.kind r192.1.key r192.1.n r192.1.text r192.1.prev r192.1.time r192.2)
def Zgq (p0 : Y9x) (l100 : List Ya3) (m178 : List ((Int × Int) × Bool)) (x179 : Int) : Option (((List ((Int × Int) × Bool)) × Int) ⊕ ((Ya4 × Bool) ⊕ Unit)) := cond (decide (x179 < (p0.stream.length : Int))) ((getI p0.stream x179).bind fun e181 => (Z8y e181.room).bind fun r184 => cond r184 (Zgp p0 l100 m178 x179 e181 (Option.getD (pget m178 (e181.room, e181.id)) false)) (Zgp p0 l100 m178 x179 e181 true)) (some (.inr (.inr ())))
def Zgr (p0 : Y9x) (l100 : List Ya3) (x101 : Int) : Option (Ya4 × Bool) := (iter (fun z255 => Zgq p0 l100 z255.1 z255.2) big (([] : List ((Int × Int) × Bool)), 0)).bind (fun z257 => match z257 with | .inl y256 => some y256 | .inr () => Zgm p0 l100 x101)
def Zgs (l57 : List Ya3) (x58 : Int) (x59 : Int) (e61 : Y9w) (x67 : Bool) : Option ((List Ya3 × Int × Int) ⊕ ((Ya4 × Bool) ⊕ (List Ya3 × Int))) := cond x67 (some (.inr (.inl ((Ya4.mk (Y9x.mk [] []) []), false)))) ((Zg4 e61).bind fun r83 => (chk (decide ((l57.length + [r83].length) * 8 ≤ 140737488355328))).bind fun u92 => (getI (l57 ++ [r83]) x59).bind fun e95 => (Zg9 e95).bind fun r97 => some (.inl ((l57 ++ [r83]), (IntKind.i64.wrap (x58 + (r97.length : Int))), (IntKind.i64.wrap (x59 + 1)))))
def Zgt (p0 : Y9x) (l57 : List Ya3) (x58 : Int) (x59 : Int) : Option ((List Ya3 × Int × Int) ⊕ ((Ya4 × Bool) ⊕ (List Ya3 × Int))) := cond (decide (x59 < (p0.rooms.length : Int))) ((getI p0.rooms x59).bind fun e61 => (Zbi e61).bind fun r64 => cond r64 (Zgs l57 x58 x59 e61 (e61.room != (IntKind.i64.wrap (x59 + 1)))) (Zgs l57 x58 x59 e61 true)) (some (.inr (.inr (l57, x58))))
def Zgu (p0 : Y9x) (x3 : Bool) : Option (Ya4 × Bool) := cond x3 (some ((Ya4.mk (Y9x.mk [] []) []), false)) ((iter (fun z258 => Zgt p0 z258.1 z258.2.1 z258.2.2) big ([], 0, 0)).bind (fun z262 => match z262 with | .inl y259 => some y259 | .inr (y260, y261) => Zgr p0 y260 y261))
def Zgv (p0 : Y9x) : Option (Ya4 × Bool) := cond ((p0.rooms.length : Int) != 3) (Zgu p0 true) (Zgu p0 (decide ((p0.stream.length : Int) > 120)))
instance Zgw (p0 : Y9x) : SpO Tryz.prog 176 (Zgv p0) (.d [C.agg [cM Yab 3 p0.rooms, cM Ya7 2 p0.stream]] [] fun r => .b r.2 (.d (C.tup [C.ip [cM Yab 3 r.1.hub.rooms, cM Ya7 2 r.1.hub.stream, cM Yar 1 r.1.rooms], C.bool r.2]) []) (.d (C.tup [C.any, C.bool r.2]) [])) := ⟨so Tryz.func176 rfl rfl fun r X h => gh (.q 2 (.c1 (fun x3 => .d [(23, C.bool x3)] []) [1] [0] .z (.b .z (.q 1 (.o 0 fun b5 => .c2 (fun l100 x101 => .x fun v99 => .d [(5, cI x101)] [oB b5 199 [cM Yab 3 p0.rooms, cM Ya7 2 p0.stream, cV v99], oA v99 131 Yar 1 l100]) [1,4] [1] (.O 0 fun b5 => .l3 (fun l57 x58 x59 => .x fun v56 => .d [(5, cI x58), (30, cI x59)] [oB b5 199 [cM Yab 3 p0.rooms, cM Ya7 2 p0.stream, cV v56], oA v56 131 Yar 1 l57]) [1,4,28,29] [1] (.b (.q 3 (.c1 (fun x67 => .d [(44, C.bool x67)] []) [1,4,5,6,7,28,29,30] [3,1,2,0] .z (.b .z (.r [0,0,1] [4,5] [11] [0,4,8,12,17,21,26,30,34,36,40,47] (.k (.f 51 [] .z)))))) .z)) (.q 1 (.c0 (.d [] []) [1,4,5] [4,2,3] (.O 1 fun b102 => .l2 (fun m178 x179 => .d [(72, cI x179)] [Abs.Obj.pmap b102 Yap m178]) [1,4,5,8,70,71] [4,2,3,0] (.b (.q 3 (.c1 (fun x187 => .d [(84, C.bool x187)] []) [1,4,5,8,10,70,71,72] [2,3,4,5,1,0] .z (.b .z (.q 1 (.c10 (fun x196 x197 x198 x199 x200 x201 x202 l203 x204 x205 => .x fun b195 => .d [(12, pt b195), (13, C.bool x205)] [oB b195 42 [cI x196, cI x197, cI x198, cI x199, cI x200, cI x201, C.str x202, cM kI64 1 l203, cI x204]]) [1,4,5,8,10,11,70,71,72] [3,1,2,4,5,6,0] (.R [0,0,0,0,0,0,0] [0,3,5] [11] (.light 0 true (.light 1 false (.light 2 false (.light 3 true (.light 4 false (.light 5 true (.two 6 10 (.light 7 false (.light 8 false (.light 9 false (.one 10 (.late 11 (.light 12 false .done)))))) (.one 6 (.light 7 false (.light 8 false (.light 9 false (.late 11 (.light 12 false .done))))))))))))) (.H 142 .z)) (.q 1 (.c1 (fun x252 => .d [(116, C.bool x252)] []) [1,4,5,8,10,70,71,72] [1,2,3,4,5,6] (.R [0,0,0,0] [3,6,8,9,14] [] (.light 0 false (.light 1 false (.light 2 false (.light 7 false (.two 3 8 (.light 4 false (.light 5 false (.two 6 8 (.one 8 (.one 9 (.light 10 false (.light 11 false (.light 12 false (.light 13 false (.light 15 false (.one 14 (.one 16 (.light 17 false .done)))))))))) (.one 6 (.one 9 (.light 10 false (.light 11 false (.light 12 false (.light 13 false (.light 15 false (.one 14 (.one 16 (.light 17 false .done))))))))))))) (.one 3 (.light 4 false (.light 5 false (.one 6 (.one 9 (.light 10 false (.light 11 false (.light 12 false (.light 13 false (.light 15 false (.one 14 (.one 16 (.light 17 false .done)))))))))))))))))) .z) .z))))))) .z)) (.r [0,0,0] [3] [] [0,4,8,13,16,20,24,28] .z))))))))⟩

def Zgx (p0 : TNet) (p1 : Int) : Option Bool := (Z8w p1 0 (IntKind.i64.wrap ((p0.servers.length : Int) - 1))).bind fun r1 => some r1
instance Zgy (p0 : TNet) (p1 : Int) : SpO Tryz.prog 382 (Zgx p0 p1) (.x fun (b00 : Nat) => .x fun (w01 : Value) => .x fun (w02 : Value) => .d [pt b00, cI p1] [oB b00 290 [cV w01, cV w02], oA w01 193 Yat 1 p0.servers, oA w02 167 Ya8 5 p0.letters] fun r => .d (C.bool r) [oB b00 290 [cV w01, cV w02], oA w01 193 Yat 1 p0.servers, oA w02 167 Ya8 5 p0.letters]) := ⟨fun b00 w01 w02 => so Tryz.func382 rfl rfl fun r X h => gh .z⟩

def Zgz (x7 : Bool) : Option Bool := some x7
def Zh0 (p0 : TNet) (p1 : Int) (p2 : Int) : Option Bool := (Zgx p0 p1).bind fun r1 => cond r1 ((Zgx p0 p2).bind fun r4 => cond r4 (Zgz (p1 != p2)) (Zgz false)) (Zgz false)
instance Zh1 (p0 : TNet) (p1 : Int) (p2 : Int) : SpO Tryz.prog 349 (Zh0 p0 p1 p2) (.x fun (b00 : Nat) => .x fun (w01 : Value) => .x fun (w02 : Value) => .d [pt b00, cI p1, cI p2] [oB b00 290 [cV w01, cV w02], oA w01 193 Yat 1 p0.servers, oA w02 167 Ya8 5 p0.letters] fun r => .d (C.bool r) [oB b00 290 [cV w01, cV w02], oA w01 193 Yat 1 p0.servers, oA w02 167 Ya8 5 p0.letters]) := ⟨fun b00 w01 w02 => so Tryz.func349 rfl rfl fun r X h => gh (.q 1 (.c1 (fun x7 => .d [(6, C.bool x7)] []) [] [0,1,2] .z .z))⟩

def Zh2 (x16 : Bool) : Option Bool := some x16
def Zh3 (p0 : Y9u) (q0 : TNet) : Option Bool := cond (p0.kind != 1) (cond (p0.kind != 2) (Zh2 true) ((Zh0 q0 p0.from_ p0.to_).bind fun r4 => cond r4 ((Z8y p0.room).bind fun r7 => cond r7 (Zh2 (decide ((p0.text.size : Int) > 8000))) (Zh2 true)) (Zh2 true))) ((Zh0 q0 p0.from_ p0.to_).bind fun r10 => cond r10 ((Z8y p0.room).bind fun r13 => cond r13 (Zh2 (decide ((p0.text.size : Int) > 8000))) (Zh2 true)) (Zh2 true))
instance Zh4 (p0 : Y9u) (q0 : TNet) : SpO Tryz.prog 348 (Zh3 p0 q0) (.x fun (b00 : Nat) => .x fun (b01 : Nat) => .x fun (w02 : Value) => .x fun (w03 : Value) => .d [C.agg [cI p0.kind, cI p0.from_, cI p0.to_, cI p0.room, C.str p0.text], pt b00] [oB b00 172 [pt b01], oB b01 290 [cV w02, cV w03], oA w02 193 Yat 1 q0.servers, oA w03 167 Ya8 5 q0.letters] fun r => .d (C.bool r) [oB b00 172 [pt b01], oB b01 290 [cV w02, cV w03], oA w02 193 Yat 1 q0.servers, oA w03 167 Ya8 5 q0.letters]) := ⟨fun b00 b01 w02 w03 => so Tryz.func348 rfl rfl fun r X h => gh (.q 1 (.c1 (fun x16 => .d [(3, C.bool x16)] []) [] [1,2,3,4] .z .z))⟩

def Zh5 : Option Int := some (-1)
def Zh6 (p0 : List Y9u) (p1_0 : TNet) (x7 : Int) : Option (Int ⊕ (Int ⊕ Unit)) := cond (decide (x7 < (p0.length : Int))) ((getI p0 x7).bind fun e9 => (Zh3 e9 p1_0).bind fun r11 => cond r11 (some (.inr (.inl x7))) (some (.inl (IntKind.i64.wrap (x7 + 1))))) (some (.inr (.inr ())))
def Zh7 (p0 : List Y9u) (p1_0 : TNet) : Option Int := (iter (Zh6 p0 p1_0) big 0).bind (fun z15 => match z15 with | .inl y14 => some y14 | .inr () => Zh5)
instance Zh8 (p0 : List Y9u) (p1_0 : TNet) : SpO Tryz.prog 381 (Zh7 p0 p1_0) (.x fun (b00 : Nat) => .x fun (b01 : Nat) => .x fun (w02 : Value) => .x fun (w03 : Value) => .d [cM Ya8 5 p0, C.clo 348 [pt b00]] [oB b00 172 [pt b01], oB b01 290 [cV w02, cV w03], oA w02 193 Yat 1 p1_0.servers, oA w03 167 Ya8 5 p1_0.letters] fun r => .d (cI r) [oB b00 172 [pt b01], oB b01 290 [cV w02, cV w03], oA w02 193 Yat 1 p1_0.servers, oA w03 167 Ya8 5 p1_0.letters]) := ⟨fun b00 b01 w02 w03 => so Tryz.func381 rfl rfl fun r X h => gh (.q 1 (.c0 (.d [] []) [] [0,1,2,3] (.l1 (fun x7 => .d [(8, cI x7)] []) [0,1,7] [0,1,2,3] .z) .z))⟩

def Zh9 (p0 : List Y9u) (p1_0 : TNet) : Option Bool := (Zh7 p0 p1_0).bind fun r1 => some (decide (r1 ≥ 0))
instance Zha (p0 : List Y9u) (p1_0 : TNet) : SpO Tryz.prog 347 (Zh9 p0 p1_0) (.x fun (b00 : Nat) => .x fun (b01 : Nat) => .x fun (w02 : Value) => .x fun (w03 : Value) => .d [cM Ya8 5 p0, C.clo 348 [pt b00]] [oB b00 172 [pt b01], oB b01 290 [cV w02, cV w03], oA w02 193 Yat 1 p1_0.servers, oA w03 167 Ya8 5 p1_0.letters] fun r => .d (C.bool r) [oB b00 172 [pt b01], oB b01 290 [cV w02, cV w03], oA w02 193 Yat 1 p1_0.servers, oA w03 167 Ya8 5 p1_0.letters]) := ⟨fun b00 b01 w02 w03 => so Tryz.func347 rfl rfl fun r X h => gh .z⟩

def Zhb (r2 : List Y9u) (l54 : List Ya4) (x61 : Bool) : Option (TNet × Bool) := cond x61 (some ((TNet.mk l54 r2), x61)) (some ((TNet.mk [] []), x61))
def Zhc (p0 : Y9y) (r2 : List Y9u) (l54 : List Ya4) : Option (TNet × Bool) := (Zh9 p0.letters (TNet.mk l54 r2)).bind fun r55 => (Z8w (p0.hubs.length : Int) 1 4).bind fun r57 => cond r57 (cond (decide ((p0.letters.length : Int) ≤ 60)) (Zhb r2 l54 (!r55)) (Zhb r2 l54 false)) (Zhb r2 l54 false)
def Zhd (p0 : Y9y) (l32 : List Ya4) (x33 : Int) : Option ((List Ya4 × Int) ⊕ ((TNet × Bool) ⊕ (List Ya4))) := cond (decide (x33 < (p0.hubs.length : Int))) ((getI p0.hubs x33).bind fun e35 => (Zgv e35).bind fun r38 => cond r38.2 ((chk (decide ((l32.length + [r38.1].length) * 8 ≤ 140737488355328))).bind fun u50 => some (.inl ((l32 ++ [r38.1]), (IntKind.i64.wrap (x33 + 1))))) (some (.inr (.inl ((TNet.mk [] []), false))))) (some (.inr (.inr l32)))
def Zhe (p0 : Y9y) : Option (TNet × Bool) := (Z8s p0.letters).bind fun r2 => (iter (fun z66 => Zhd p0 z66.1 z66.2) big ([], 0)).bind (fun z69 => match z69 with | .inl y67 => some y67 | .inr y68 => Zhc p0 r2 y68)
instance Zhf (p0 : Y9y) : SpO Tryz.prog 274 (Zhe p0) (.d [C.agg [cM Yae 2 p0.hubs, cM Ya8 5 p0.letters]] [] fun r => .b r.2 (.x fun (b63 : Nat) => .x fun (v64 : Value) => .x fun (v65 : Value) => .d (C.tup [pt b63, C.bool r.2]) [oB b63 290 [cV v64, cV v65], oA v64 193 Yat 1 r.1.servers, oA v65 167 Ya8 5 r.1.letters]) (.d (C.tup [C.any, C.bool r.2]) [])) := ⟨so Tryz.func274 rfl rfl fun r X h => gh (.k (.o 1 fun b6 => .e 12 cV fun v4 => .c1 (fun l54 => .x fun v53 => .d [] [oB b6 290 [cV v53, cV v4], oA v53 193 Yat 1 l54]) [1,4] [3,0,2] (.O 1 fun b6 => .E 12 cV fun v4 => .l2 (fun l32 x33 => .x fun v31 => .d [(18, cI x33)] [oB b6 290 [cV v31, cV v4], oA v31 193 Yat 1 l32]) [1,4,16,17] [3,0,2] (.b (.b (.r [0,0,1,1,1] [0,1,4] [10] [1,5,8,12,17,20,26,30,32,36,43] .z) .z) .z)) (.q 1 (.o 1 fun b6 => .c1 (fun x61 => .d [(2, pt b6), (3, C.bool x61)] []) [] [1,2,3] (.r [0,0,0,0,0] [0,2,7] [] [1,4,9,12,18,20,24,29,32,36,40,44,48,52,56,60,64] .z) .z))))⟩

def Zhg (p0 : TNet) (p1 : Int) : Option Bool := (Z8w p1 0 (IntKind.i64.wrap ((p0.letters.length : Int) - 1))).bind fun r1 => some r1
instance Zhh (p0 : TNet) (p1 : Int) : SpO Tryz.prog 275 (Zhg p0 p1) (.x fun (b00 : Nat) => .x fun (w01 : Value) => .x fun (w02 : Value) => .d [pt b00, cI p1] [oB b00 290 [cV w01, cV w02], oA w01 193 Yat 1 p0.servers, oA w02 167 Ya8 5 p0.letters] fun r => .d (C.bool r) [oB b00 290 [cV w01, cV w02], oA w01 193 Yat 1 p0.servers, oA w02 167 Ya8 5 p0.letters]) := ⟨fun b00 w01 w02 => so Tryz.func275 rfl rfl fun r X h => gh .z⟩

def Zhi (p0 : Y9y) (p1 : Int) : Option (TNet × Int) := (Zhe p0).bind fun r2 => cond r2.2 ((Zhg r2.1 p1).bind fun r8 => cond r8 (some (r2.1, 0)) (some ((TNet.mk [] []), 6))) (some ((TNet.mk [] []), 1))
instance Zhj (p0 : Y9y) (p1 : Int) : SpO Tryz.prog 160 (Zhi p0 p1) (.d [C.agg [cM Yae 2 p0.hubs, cM Ya8 5 p0.letters], cI p1] [] fun r => .b (r.2 != 0) (.d (C.tup [C.any, cI r.2]) []) (.x fun (b11 : Nat) => .x fun (v12 : Value) => .x fun (v13 : Value) => .d (C.tup [pt b11, cI r.2]) [oB b11 290 [cV v12, cV v13], oA v12 193 Yat 1 r.1.servers, oA v13 167 Ya8 5 r.1.letters])) := ⟨so Tryz.func160 rfl rfl fun r X h => gh .z⟩

def Zhk (p0 : List Y9u) (p1 : Int) (p2 : Int) : Option (List Y9u) := delI p0 p1 p2
theorem Zhl {w1 : Value} (p0 : List Y9u) (p1 : Int) (p2 : Int) (r : List Y9u) (h : Zhk p0 p1 p2 = some r) : Ok Tryz.prog 276 [cV w1, cI p1, cI p2] [oA w1 167 Ya8 5 p0] (fun c qs => ∃ (v : Value), c = cV v ∧ qs = [oA v 167 Ya8 5 r]) := by
 obtain ⟨a, b, rfl, rfl, hij, hj, rfl⟩ := Y7t h
 refine Ok.of_body (rs := [.tmp 6]) Tryz.func276 rfl rfl rfl rfl rfl fun X => ?_
 refine AW.learn (Sim.arr_cap (p := 0) rfl) fun hw => ?_
 obtain ⟨A, cap, rfl, hc, _, _⟩ := hw
 refine zw ?_
 refine Ops.v rfl (Y7u (p := 0) Ydm.h rfl rfl rfl rfl rfl hij hj rfl) ?_
 refine zw ?_
 refine tf' (((a : Nat) : Int) == ((b : Nat) : Int)) (fun hq => ?_) (fun hq => ?_)
 ·
  refine AW.cond rfl (fun _ => ?_) (fun hn => absurd (hq.symm.trans hn) (by decide))
  refine zw ?_
  refine AW.ret ?_
  obtain rfl : a = b := by have := eq_of_beq hq; omega
  rw [List.take_append_drop]
  exact finI ⟨[cV (.slice A p0.length cap)], _, Y25.refl _, .cons (.tmp rfl) .nil, [0], _, _, rfl, ⟨_, rfl, rfl⟩⟩
 refine AW.cond rfl (fun hn => absurd (hq.symm.trans hn) (by decide)) (fun _ => ?_)
 refine zw ?_
 refine rD [] [] [] [0,4,8,12,16,20,26,28] ?_
 refine zw ?_
 refine OpsD.v rfl rfl (Y7y Ydm.h rfl rfl (by omega) hc rfl) ?_
 refine zw ?_
 refine OpsD.v rfl rfl (Y7x Ydm.h rfl rfl hj hc rfl) ?_
 refine OpsD.one ?_
 refine Y3z.h (ns := [0]) rfl rfl rfl (Y7v (v := .slice A p0.length cap) Ydl rfl rfl hij hj rfl) ?_
 rintro _ _ ⟨rfl, rfl⟩
 refine zw ?_
 refine Ops.v rfl (Y2j Ydm.h rfl rfl) ?_
 refine zw ?_
 refine Ops.v rfl (Y7w (p := 0) (h := p0.length) (v := .slice A p0.length cap) (l := a + (p0.length - b)) Ydm.h rfl rfl rfl rfl (by omega) (by simp; omega) rfl) ?_
 refine Ops.h (ns := [0]) rfl rfl (Y7q (v := .slice A p0.length cap) (l := a + (p0.length - b)) (z := (Y9u.mk 0 0 0 0 ByteArray.empty)) Ydl Yda (Y4e rfl rfl) rfl (by simp <;> omega)) ?_
 rintro _ _ ⟨rfl, rfl⟩
 refine zw ?_
 refine AW.ret ?_
 exact finI ⟨[cV (Y7j (.slice A p0.length cap) (a + (p0.length - b)))], _, Y25.prefix (p := 0) (h := a + (p0.length - b)) rfl (by simp; omega), .cons (.tmp rfl) .nil, [0], _, _, rfl, ⟨_, rfl, by rw [Y7z hij hj]⟩⟩
instance Zhm (p0 : List Y9u) (p1 : Int) (p2 : Int) : SpO Tryz.prog 276 (Zhk p0 p1 p2) (.x fun (w1 : Value) => .d [cV w1, cI p1, cI p2] [oA w1 167 Ya8 5 p0] fun r => .x fun (v : Value) => .d (cV v) [oA v 167 Ya8 5 r]) := ⟨fun w1 r h => Zhl p0 p1 p2 r h⟩

def Zhn (p0 : List Y9t) : Option (List Y9t) := (chk (decide (p0.length * 16 ≤ 140737488355328))).bind fun _ => some p0
theorem Zho (p0 : List Y9t) (r : List Y9t) (h : Zhn p0 = some r) : Ok Tryz.prog 305 [cM Ya7 2 p0] [] (fun c qs => ∃ (v : Value), c = cV v ∧ qs = [oA v 187 Ya7 2 r]) := by
 refine ob' h fun u hc h => ?_
 obtain rfl := Wj h
 have hc := Wo (Y45 hc)
 refine Ok.of_body (rs := [.tmp 2]) Tryz.func305 rfl rfl rfl rfl rfl fun X => ?_
 refine zw ?_
 refine Ops.h (ns := []) rfl rfl (Y60 Ycx.h rfl rfl) ?_
 rintro _ _ ⟨b, hb, rfl, rfl⟩
 refine zw ?_
 refine tf' b (fun hq => ?_) (fun hq => ?_)
 ·
  refine AW.cond rfl (fun _ => ?_) (fun hn => absurd (hq.symm.trans hn) (by decide))
  refine zw ?_
  refine AW.ret ?_
  obtain rfl := hb hq
  exact finI ⟨[cV s0], _, Y25.nil 187 Ya7 2, .cons (.tmp rfl) .nil, [0], _, _, rfl, ⟨_, rfl, rfl⟩⟩
 refine AW.cond rfl (fun hn => absurd (hq.symm.trans hn) (by decide)) (fun _ => ?_)
 refine zw ?_
 refine Ops.h (ns := []) rfl rfl (Y3l (k := Ya7) (ys := ([] : List Y9t)) Ycv .nil rfl rfl rfl) ?_
 rintro _ _ ⟨b1, rfl, rfl⟩
 refine zw ?_
 refine Ops.h (ns := [0]) rfl rfl (Y33 Ycv rfl rfl (by simpa using hc) (by simp; omega) rfl) ?_
 rintro _ _ ⟨v, rfl, rfl⟩
 refine zw ?_
 refine AW.ret ?_
 exact finI ⟨[cV v], _, Y25.refl _, .cons (.tmp rfl) .nil, [0], _, _, rfl, ⟨v, rfl, rfl⟩⟩
instance Zho' (p0 : List Y9t) : Sp Tryz.prog 305 [cM Ya7 2 p0] (Zhn p0) (fun r => cM Ya7 2 r) := ⟨fun r h => Ok.freeze (Zho p0 r h) (by rintro c qs ⟨v, rfl, rfl⟩; exact Frz.arr)⟩
instance Zhp (p0 : List Y9t) : SpO Tryz.prog 305 (Zhn p0) (.d [cM Ya7 2 p0] [] fun r => .x fun (v : Value) => .d (cV v) [oA v 187 Ya7 2 r]) := ⟨fun r h => Zho p0 r h⟩

def Zhq (p0 : Y9r) : Option Y9r := (Zfn p0.prev).bind fun r3 => some (Y9r.mk p0.id p0.room p0.author p0.kind p0.key p0.n p0.text r3 p0.time)
instance Zhr (p0 : Y9r) : SpO Tryz.prog 290 (Zhq p0) (.d [C.agg [cI p0.id, cI p0.room, cI p0.author, cI p0.kind, cI p0.key, cI p0.n, C.str p0.text, cM kI64 1 p0.prev, cI p0.time]] [] fun r => .x fun (v7 : Value) => .d (C.agg [cI r.id, cI r.room, cI r.author, cI r.kind, cI r.key, cI r.n, C.str r.text, cV v7, cI r.time]) [oA v7 2 kI64 1 r.prev]) := ⟨so Tryz.func290 rfl rfl fun r X h => gh (.k .z)⟩
instance Zhr' (p0 : Y9r) : Sp Tryz.prog 290 [C.agg [cI p0.id, cI p0.room, cI p0.author, cI p0.kind, cI p0.key, cI p0.n, C.str p0.text, cM kI64 1 p0.prev, cI p0.time]] (Zhq p0) (fun r => C.agg [cI r.id, cI r.room, cI r.author, cI r.kind, cI r.key, cI r.n, C.str r.text, cM kI64 1 r.prev, cI r.time]) := ⟨fun r h => Ok.freeze ((Zhr p0).h r h) (by rintro c qs ⟨v7, rfl, rfl⟩; exact Frz.agg (fS (fS (fS (fS (fS (fS (fS (FrzL.cons (os := [_]) (Frz.arr) (fS (FrzL.nil)))))))))))⟩

def Zhs (l28 : List Y9r) : Option (List Y9r) := some l28
def Zht (p0 : List Y9r) (l14 : List Y9r) (x15 : Int) : Option ((List Y9r × Int) ⊕ ((List Y9r))) := cond (decide (x15 < (p0.length : Int))) ((getI p0 x15).bind fun e17 => (Zhq e17).bind fun r20 => (chk (decide ((l14.length + [r20].length) * 96 ≤ 140737488355328))).bind fun u25 => some (.inl ((l14 ++ [r20]), (IntKind.i64.wrap (x15 + 1))))) (some (.inr l14))
def Zhu (p0 : List Y9r) : Option (List Y9r) := (iter (fun z30 => Zht p0 z30.1 z30.2) big (([] : List Y9r), 0)).bind fun y31 => Zhs y31
theorem Zhv (p0 : List Y9r) (r : List Y9r) (h : Zhu p0 = some r) : Ok Tryz.prog 362 [cM Ya5 9 p0] [] (fun c qs => ∃ (v29 : Value), c = cV v29 ∧ qs = [Obj.deep v29 42 Ya9 Yaa 9 r]) := by
 refine Ok.of_body (rs := [.tmp 2]) Tryz.func362 rfl rfl rfl rfl rfl fun X => ?_
 unfold Zhu at h
 refine zw ?_
 refine Ops.h (ns := []) rfl rfl (Y93 (k := Ya9) (ob := Yaa) Yc7 rfl rfl rfl) ?_
 rintro _ _ ⟨b1, rfl, rfl⟩
 refine Ops.v rfl (Ys rfl rfl) ?_
 refine Ops.nil ?_
 refine AW.seq ?_
 refine AW.cut (τ := List Y9r × Value) (fun (l28, v27) => ⟨[(3, cV v27)], [Obj.deep v27 42 Ya9 Yaa 9 l28]⟩) (fun (l28, v27) => Zhs l28 = some r) ?_ ?_
 ·
  refine zw ?_
  refine ob' h fun o32 g33 q34 => ?_
  refine AW.loop (τ := List Y9r × Int × Value) (x := (([] : List Y9r), 0, (sv b1 0 0))) (fun (l14, x15, v13) => ⟨[(3, cV v13), (7, cM Ya5 9 p0), (8, cI (p0.length : Int)), (9, cI x15)], [Obj.deep v13 42 Ya9 Yaa 9 l14]⟩) (fun k (l14, x15, v13) => iter (fun z30 => Zht p0 z30.1 z30.2) k (l14, x15) = some o32) g33 (Y25.both (ns := [0]) rfl rfl) ?_
  rintro k ⟨l14, x15, v13⟩ i36
  refine Y4d (show iter (fun z30 => Zht p0 z30.1 z30.2) k (l14, x15) = some o32 from i36) fun k35 y37 hlt_k35 h h38 => ?_
  replace h : Zht p0 l14 x15 = some y37 := h
  unfold Zht at h
  refine zw ?_
  refine cnd h (fun hb16 h => ?_) fun hb16 h => ?_
  ·
   refine AW.ct hb16 rfl ?_
   refine zw ?_
   refine oi h fun e17 g18 h => ?_
   refine zw ?_
   refine al fun b19 => ?_
   refine zw ?_
   refine ob' h fun r20 g21 h => ?_
   refine Ops.h (ns := []) rfl rfl (Y27 ((Zhr _).h _ g21) rfl rfl) ?_
   rintro _ _ ⟨_, ⟨v22, rfl, rfl⟩, rfl⟩
   refine Ops.h (ns := [0]) rfl rfl (Y92 (k := Ya9) (ob := Yaa) (e := r20) (u := v22) Yc7 (.agg rfl rfl .nil) rfl rfl rfl) ?_
   rintro _ _ ⟨b23, rfl, rfl⟩
   refine ob' h fun u25 c24 h => ?_
   refine Ops.h (ns := [2, 0]) rfl rfl (Y94 Yc7 rfl rfl (Wo (Y45 c24)) (Y48 (by decide) c24) rfl) ?_
   rintro _ _ ⟨v26, rfl, rfl⟩
   refine zw ?_
   obtain rfl := Wj h
   exact ⟨k35, ((l14 ++ [r20]), (IntKind.i64.wrap (x15 + 1)), v26), hlt_k35, h38, Y25.both (ns := [0]) rfl rfl⟩
  refine AW.cf hb16 rfl ?_
  refine AW.exit ?_
  obtain rfl := Wj h
  obtain rfl := Wj h38
  replace h := q34
  exact ⟨(l14, v13), h, Y25.both (ns := [0]) rfl rfl⟩
 rintro ⟨l28, v27⟩ h
 replace h : Zhs l28 = some r := h
 unfold Zhs at h
 refine zw ?_
 refine AW.ret ?_
 rw [← Wj h]
 exact finI ⟨[cV v27], _, Y25.refl _, (.cons (.tmp rfl) .nil), [0], _, _, rfl, ⟨v27, rfl, rfl⟩⟩
instance Zhv' (p0 : List Y9r) : Sp Tryz.prog 362 [cM Ya5 9 p0] (Zhu p0) (fun r => cM Ya5 9 r) := ⟨fun r h => Ok.freeze (Zhv p0 r h) (by rintro c qs ⟨v29, rfl, rfl⟩; exact (Frz.deep Yc9))⟩
instance Zhw (p0 : List Y9r) : SpO Tryz.prog 362 (Zhu p0) (.d [cM Ya5 9 p0] [] fun r => .x fun (v29 : Value) => .d (cV v29) [Obj.deep v29 42 Ya9 Yaa 9 r]) := ⟨fun r h => Zhv p0 r h⟩

def Zhx (p0 : Y9w) : Option Y9w := (Zhu p0.events).bind fun r3 => (Zhu p0.parked).bind fun r6 => some (Y9w.mk p0.room r3 r6)
instance Zhy (p0 : Y9w) : SpO Tryz.prog 306 (Zhx p0) (.d [C.agg [cI p0.room, cM Ya5 9 p0.events, cM Ya5 9 p0.parked]] [] fun r => .x fun (v11 : Value) => .x fun (v12 : Value) => .d (C.agg [cI r.room, cV v11, cV v12]) [Obj.deep v11 42 Ya9 Yaa 9 r.events, Obj.deep v12 42 Ya9 Yaa 9 r.parked]) := ⟨so Tryz.func306 rfl rfl fun r X h => gh (.r [0,0] [1,3,6] [9] [0,5,8,13,20,25,18,30,32,39] (.k (.k .z)))⟩
instance Zhy' (p0 : Y9w) : Sp Tryz.prog 306 [C.agg [cI p0.room, cM Ya5 9 p0.events, cM Ya5 9 p0.parked]] (Zhx p0) (fun r => C.agg [cI r.room, cM Ya5 9 r.events, cM Ya5 9 r.parked]) := ⟨fun r h => Ok.freeze ((Zhy p0).h r h) (by rintro c qs ⟨v11, v12, rfl, rfl⟩; exact Frz.agg (fS (FrzL.cons (os := [_]) ((Frz.deep Yc9)) (FrzL.cons (os := [_]) ((Frz.deep Yc9)) (FrzL.nil)))))⟩

def Zhz (r3 : List Y9t) (l76 : List Y9w) (l78 : List Y9w) : Option Y9x := some (Y9x.mk l78 r3)
def Zi0 (p0 : Y9x) (l48 : List Y9w) (l50 : List Y9w) (x51 : Int) : Option ((List Y9w × List Y9w × Int) ⊕ ((List Y9w × List Y9w))) := cond (decide (x51 < (p0.rooms.length : Int))) ((getI p0.rooms x51).bind fun e53 => (Zhx e53).bind fun r67 => (chk (decide ((l50.length + [r67].length) * 56 ≤ 140737488355328))).bind fun u73 => some (.inl (l48, (l50 ++ [r67]), (IntKind.i64.wrap (x51 + 1))))) (some (.inr (l48, l50)))
def Zi1 (p0 : Y9x) : Option Y9x := (Zhn p0.stream).bind fun r3 => (iter (fun z81 => Zi0 p0 z81.1 z81.2.1 z81.2.2) big ([], [], 0)).bind fun (y82, y83) => Zhz r3 y82 y83
theorem Zi2 (p0 : Y9x) (r : Y9x) (h : Zi1 p0 = some r) : Ok Tryz.prog 206 [C.agg [cM Yab 3 p0.rooms, cM Ya7 2 p0.stream]] [] (fun c qs => ∃ (v79 : Value) (v80 : Value), c = C.agg [cV v79, cV v80] ∧ qs = [Obj.deep v79 25 Yac Yad 3 r.rooms, oA v80 187 Ya7 2 r.stream]) := by
 refine Ok.of_body (rs := [.cell 2 83]) Tryz.func206 rfl rfl rfl rfl rfl fun X => ?_
 unfold Zi1 at h
 refine zw ?_
 refine ox fun b1 => ?_
 refine al fun b2 => ?_
 refine zw ?_
 refine ob' h fun r3 g4 h => ?_
 refine Ops.h (ns := []) rfl rfl (Y27 (Zho _ _ g4) rfl rfl) ?_
 rintro _ _ ⟨_, ⟨v5, rfl, rfl⟩, rfl⟩
 refine Ops.learn (Sim.arr_one (p := 0) rfl) fun n6 => ?_
 refine Ops.v rfl (Y3k (ds := [cV s0, cV v5]) Yf1 Ycy (Y4e rfl rfl) (.one rfl (One.val n6) rfl rfl .nil) rfl) ?_
 refine al fun b7 => ?_
 refine Ops.sA Yd3.h rfl rfl rfl inferInstance rfl ?_
 refine Ops.nil ?_
 refine AW.seq ?_
 refine AW.cut (τ := List Y9w × List Y9w × Value) (fun (l76, l78, v77) => ⟨[(2, pt b2), (3, pt b7)], [Obj.deep s0 25 Yac Yad 3 l76, oB b7 83 [cV v77, cV v5], Obj.deep v77 25 Yac Yad 3 l78, oB b2 83 [cV s0, cV s0], oA v5 187 Ya7 2 r3]⟩) (fun (l76, l78, v77) => Zhz r3 l76 l78 = some r) ?_ ?_
 ·
  refine zw ?_
  refine ob' h fun o84 g85 q86 => ?_
  refine AW.loop (τ := List Y9w × List Y9w × Int × Value) (x := ([], [], 0, s0)) (fun (l48, l50, x51, v49) => ⟨[(2, pt b2), (3, pt b7), (11, cM Yab 3 p0.rooms), (12, cI (p0.rooms.length : Int)), (13, cI x51)], [Obj.deep s0 25 Yac Yad 3 l48, oB b7 83 [cV v49, cV v5], Obj.deep v49 25 Yac Yad 3 l50, oB b2 83 [cV s0, cV s0], oA v5 187 Ya7 2 r3]⟩) (fun k (l48, l50, x51, v49) => iter (fun z81 => Zi0 p0 z81.1 z81.2.1 z81.2.2) k (l48, l50, x51) = some o84) g85 ((Y25.nilD 25 Yac Yad 3).trans ((Y25.nilD 25 Yac Yad 3).trans (Y25.both (ns := [0, 1, 0, 1, 0]) rfl rfl))) ?_
  rintro k ⟨l48, l50, x51, v49⟩ i88
  refine Y4d (show iter (fun z81 => Zi0 p0 z81.1 z81.2.1 z81.2.2) k (l48, l50, x51) = some o84 from i88) fun k87 y89 hlt_k87 h h90 => ?_
  replace h : Zi0 p0 l48 l50 x51 = some y89 := h
  unfold Zi0 at h
  refine zw ?_
  refine cnd h (fun hb52 h => ?_) fun hb52 h => ?_
  ·
   refine AW.ct hb52 rfl ?_
   refine zw ?_
   refine oi h fun e53 g54 h => ?_
   refine zw ?_
   refine al fun b55 => ?_
   refine zw ?_
   refine rD [0,0,0,1,1] [1,2] [7] [0,5,9,14,18,22,24,31] ?_
   refine zw ?_
   refine ob' h fun r67 g68 h => ?_
   refine Y3z.h (ns := []) rfl rfl rfl (Y27 ((Zhy _).h _ g68) rfl rfl) ?_
   rintro _ _ ⟨_, ⟨v69, v70, rfl, rfl⟩, rfl⟩
   refine OpsD.one ?_
   refine Y3z.h (ns := [0, 0]) rfl rfl rfl (Y92 (k := Yac) (ob := Yad) (e := r67) (u := (v69, v70)) Yck (.agg rfl rfl .nil) rfl rfl rfl) ?_
   rintro _ _ ⟨b71, rfl, rfl⟩
   refine zw ?_
   refine ob' h fun u73 c72 h => ?_
   refine Y3z.h (ns := [1, 0]) rfl rfl rfl (Y94 Yck rfl rfl (Wo (Y45 c72)) (Y48 (by decide) c72) rfl) ?_
   rintro _ _ ⟨v74, rfl, rfl⟩
   refine OpsD.v rfl rfl (Y1f Ycz.h rfl rfl) ?_
   refine OpsD.learn (Sim.deep_one (p := 5) rfl) fun n75 => ?_
   refine zw ?_
   obtain rfl := Wj h
   exact ⟨k87, (l48, (l50 ++ [r67]), (IntKind.i64.wrap (x51 + 1)), v74), hlt_k87, h90, Y25.both (ns := [2, 0, 3, 1, 1]) rfl rfl⟩
  refine AW.cf hb52 rfl ?_
  refine AW.exit ?_
  obtain rfl := Wj h
  obtain rfl := Wj h90
  replace h := q86
  exact ⟨(l48, l50, v49), h, Y25.both (ns := [0, 0, 0, 0, 0]) rfl rfl⟩
 rintro ⟨l76, l78, v77⟩ h
 replace h : Zhz r3 l76 l78 = some r := h
 unfold Zhz at h
 refine zw ?_
 refine AW.ret ?_
 rw [← Wj h]
 exact finI ⟨[C.agg [cV v77, cV v5]], _, Y25.refl _, (.cons (.cell (p := 0) rfl rfl Yd3.h rfl) .nil), [3, 3], _, _, rfl, ⟨v77, v5, rfl, rfl⟩⟩
instance Zi2' (p0 : Y9x) : Sp Tryz.prog 206 [C.agg [cM Yab 3 p0.rooms, cM Ya7 2 p0.stream]] (Zi1 p0) (fun r => C.agg [cM Yab 3 r.rooms, cM Ya7 2 r.stream]) := ⟨fun r h => Ok.freeze (Zi2 p0 r h) (by rintro c qs ⟨v79, v80, rfl, rfl⟩; exact Frz.agg (FrzL.cons (os := [_]) ((Frz.deep Ycl)) (FrzL.cons (os := [_]) (Frz.arr) (FrzL.nil))))⟩
instance Zi3 (p0 : Y9x) : SpO Tryz.prog 206 (Zi1 p0) (.d [C.agg [cM Yab 3 p0.rooms, cM Ya7 2 p0.stream]] [] fun r => .x fun (v79 : Value) => .x fun (v80 : Value) => .d (C.agg [cV v79, cV v80]) [Obj.deep v79 25 Yac Yad 3 r.rooms, oA v80 187 Ya7 2 r.stream]) := ⟨fun r h => Zi2 p0 r h⟩

def Zi4 (p0 : TNet) (p1 : Int) : Option (Y9u × TNet) := (getI p0.letters p1).bind fun e2 => (Zhk p0.letters p1 (IntKind.i64.wrap (p1 + 1))).bind fun r5 => some (e2, (TNet.mk p0.servers r5))
instance Zi5 (p0 : TNet) (p1 : Int) : SpO Tryz.prog 161 (Zi4 p0 p1) (.x fun (b00 : Nat) => .x fun (w01 : Value) => .x fun (w02 : Value) => .d [pt b00, cI p1] [oB b00 290 [cV w01, cV w02], oA w01 193 Yat 1 p0.servers, oA w02 167 Ya8 5 p0.letters] fun r => .x fun (v9 : Value) => .d (C.agg [cI r.1.kind, cI r.1.from_, cI r.1.to_, cI r.1.room, C.str r.1.text]) [oB b00 290 [cV w01, cV v9], oA v9 167 Ya8 5 r.2.letters, oA w01 193 Yat 1 p0.servers]) := ⟨fun b00 w01 w02 => so Tryz.func161 rfl rfl fun r X h => gh (.k .z)⟩

def Zi6 (p0 : TNet) (l70 : List Y9x) (l72 : List Y9x) : Option Ya2 := some (Ya2.mk (Y9y.mk l72 p0.letters) 0 0)
def Zi7 (p0 : TNet) (l43 : List Y9x) (l45 : List Y9x) (x46 : Int) : Option ((List Y9x × List Y9x × Int) ⊕ ((List Y9x × List Y9x))) := cond (decide (x46 < (p0.servers.length : Int))) ((getI p0.servers x46).bind fun e48 => (Zi1 e48.hub).bind fun r61 => (chk (decide ((l45.length + [r61].length) * 48 ≤ 140737488355328))).bind fun u67 => some (.inl (l43, (l45 ++ [r61]), (IntKind.i64.wrap (x46 + 1))))) (some (.inr (l43, l45)))
def Zi8 (p0 : TNet) : Option Ya2 := (iter (fun z75 => Zi7 p0 z75.1 z75.2.1 z75.2.2) big ([], [], 0)).bind fun (y76, y77) => Zi6 p0 y76 y77
theorem Zi9 {b00 : Nat} {w01 : Value} {w02 : Value} (p0 : TNet) (r : Ya2) (h : Zi8 p0 = some r) : Ok Tryz.prog 162 [pt b00] [oB b00 290 [cV w01, cV w02], oA w01 193 Yat 1 p0.servers, oA w02 167 Ya8 5 p0.letters] (fun c qs => ∃ (v73 : Value) (v74 : Value), c = C.agg [cV v73, cV v74, cI r.id, cI r.code] ∧ qs = [Obj.deep v73 83 Yaf Yag 2 r.peers.hubs, oA v74 167 Ya8 5 r.peers.letters, oB b00 290 [cV w01, cV w02], oA w01 193 Yat 1 p0.servers]) := by
 refine Ok.of_body (rs := [.cell 2 66]) Tryz.func162 rfl rfl rfl rfl rfl fun X => ?_
 unfold Zi8 at h
 refine zw ?_
 refine al fun b1 => ?_
 refine Ops.nil ?_
 refine AW.seq ?_
 refine AW.region ?_
 refine Ops.v rfl (Yr rfl rfl) ?_
 refine Ops.v rfl (Y18 rfl rfl) ?_
 refine Ops.v rfl (Y1f Yg5.h rfl rfl) ?_
 refine Ops.v rfl (Y1o (p := 1) Ydr.h rfl rfl rfl rfl) ?_
 refine Ops.learn (Sim.arr_one (p := 3) rfl) fun n2 => ?_
 refine Ops.v rfl (Y3k (ds := [cV s0, cV w02]) Yf2 Ydn (Y4e rfl rfl) (.one rfl (One.val n2) rfl rfl .nil) rfl) ?_
 refine al fun b3 => ?_
 refine Ops.sA Yds.h rfl rfl rfl inferInstance rfl ?_
 refine Ops.nil ?_
 refine AW.seq ?_
 refine AW.cut (τ := List Y9x × List Y9x × Value) (fun (l70, l72, v71) => ⟨[(2, pt b1), (3, pt b3)], [Obj.deep s0 83 Yaf Yag 2 l70, oB b3 64 [cV v71, cV w02], Obj.deep v71 83 Yaf Yag 2 l72, oB b1 66 [cV s0, cV s0, cI 0, cI 0], oA w02 167 Ya8 5 p0.letters, oB b00 290 [cV w01, cV w02], oA w01 193 Yat 1 p0.servers]⟩) (fun (l70, l72, v71) => Zi6 p0 l70 l72 = some r) ?_ ?_
 ·
  refine zw ?_
  refine ob' h fun o78 g79 q80 => ?_
  refine AW.loop (τ := List Y9x × List Y9x × Int × Value) (x := ([], [], 0, s0)) (fun (l43, l45, x46, v44) => ⟨[(2, pt b1), (3, pt b3), (14, cV w01), (15, cI (p0.servers.length : Int)), (16, cI x46)], [Obj.deep s0 83 Yaf Yag 2 l43, oB b3 64 [cV v44, cV w02], Obj.deep v44 83 Yaf Yag 2 l45, oB b1 66 [cV s0, cV s0, cI 0, cI 0], oA w02 167 Ya8 5 p0.letters, oA w01 193 Yat 1 p0.servers, oB b00 290 [cV w01, cV w02]]⟩) (fun k (l43, l45, x46, v44) => iter (fun z75 => Zi7 p0 z75.1 z75.2.1 z75.2.2) k (l43, l45, x46) = some o78) g79 ((Y25.nilD 83 Yaf Yag 2).trans ((Y25.nilD 83 Yaf Yag 2).trans (Y25.both (ns := [0, 1, 0, 0, 2, 1, 0]) rfl rfl))) ?_
  rintro k ⟨l43, l45, x46, v44⟩ i82
  refine Y4d (show iter (fun z75 => Zi7 p0 z75.1 z75.2.1 z75.2.2) k (l43, l45, x46) = some o78 from i82) fun k81 y83 hlt_k81 h h84 => ?_
  replace h : Zi7 p0 l43 l45 x46 = some y83 := h
  unfold Zi7 at h
  refine zw ?_
  refine cnd h (fun hb47 h => ?_) fun hb47 h => ?_
  ·
   refine AW.ct hb47 rfl ?_
   refine zw ?_
   refine ob' h fun e48 g49 h => ?_
   refine zw ?_
   refine rD [0,0,1,1,1,1] [1,5] [10] [0,5,8,12,16,21,26,30,34,36,43] ?_
   refine zw ?_
   refine ob' h fun r61 g62 h => ?_
   refine Y3z.h (ns := []) rfl rfl rfl (Y27 (Zi2 _ _ g62) rfl rfl) ?_
   rintro _ _ ⟨_, ⟨v63, v64, rfl, rfl⟩, rfl⟩
   refine OpsD.one ?_
   refine Y3z.h (ns := [0, 0]) rfl rfl rfl (Y92 (k := Yaf) (ob := Yag) (e := r61) (u := (v63, v64)) Yd4 (.agg rfl rfl .nil) rfl rfl rfl) ?_
   rintro _ _ ⟨b65, rfl, rfl⟩
   refine zw ?_
   refine ob' h fun u67 c66 h => ?_
   refine Y3z.h (ns := [1, 0]) rfl rfl rfl (Y94 Yd4 rfl rfl (Wo (Y45 c66)) (Y48 (by decide) c66) rfl) ?_
   rintro _ _ ⟨v68, rfl, rfl⟩
   refine OpsD.v rfl rfl (Y1f Ydo.h rfl rfl) ?_
   refine OpsD.learn (Sim.deep_one (p := 6) rfl) fun n69 => ?_
   refine zw ?_
   obtain rfl := Wj h
   exact ⟨k81, (l43, (l45 ++ [r61]), (IntKind.i64.wrap (x46 + 1)), v68), hlt_k81, h84, Y25.both (ns := [1, 0, 4, 0, 0, 0, 0]) rfl rfl⟩
  refine AW.cf hb47 rfl ?_
  refine AW.exit ?_
  obtain rfl := Wj h
  obtain rfl := Wj h84
  replace h := q80
  exact ⟨(l43, l45, v44), h, Y25.both (ns := [0, 0, 0, 0, 0, 1, 0]) rfl rfl⟩
 rintro ⟨l70, l72, v71⟩ h
 replace h : Zi6 p0 l70 l72 = some r := h
 unfold Zi6 at h
 refine AW.seq ?_
 refine AW.region ?_
 refine Ops.v rfl (Y1p (p := 1) (ds := [cV v71, cV w02]) Yds.h rfl rfl rfl rfl rfl) ?_
 refine Ops.v rfl (Y3k (ds := [cV v71, cV w02, cI 0, cI 0]) Yey Yex (Y4e rfl rfl) (.agg rfl rfl rfl .nil) rfl) ?_
 refine zw ?_
 refine AW.ret ?_
 rw [← Wj h]
 exact finI ⟨[C.agg [cV v71, cV w02, cI 0, cI 0]], _, Y25.refl _, (.cons (.cell (p := 0) rfl rfl Yez.h rfl) .nil), [3, 3, 3, 3], _, _, rfl, ⟨v71, w02, rfl, rfl⟩⟩
instance Zia (p0 : TNet) : SpO Tryz.prog 162 (Zi8 p0) (.x fun (b00 : Nat) => .x fun (w01 : Value) => .x fun (w02 : Value) => .d [pt b00] [oB b00 290 [cV w01, cV w02], oA w01 193 Yat 1 p0.servers, oA w02 167 Ya8 5 p0.letters] fun r => .x fun (v73 : Value) => .x fun (v74 : Value) => .d (C.agg [cV v73, cV v74, cI r.id, cI r.code]) [Obj.deep v73 83 Yaf Yag 2 r.peers.hubs, oA v74 167 Ya8 5 r.peers.letters, oB b00 290 [cV w01, cV w02], oA w01 193 Yat 1 p0.servers]) := ⟨fun b00 w01 w02 r h => Zi9 p0 r h⟩

def Zib (p0 : Y9y) (p1 : Int) : Option Ya2 := (Zhi p0 p1).bind fun r3 => cond (r3.2 != 0) (some (Ya2.mk (Y9y.mk [] []) 0 r3.2)) ((Zi4 r3.1 p1).bind fun r9 => (Zi8 (TNet.mk r3.1.servers r9.2.letters)).bind fun r12 => some r12)
instance Zic (p0 : Y9y) (p1 : Int) : SpO Tryz.prog 47 (Zib p0 p1) (.d [C.agg [cM Yae 2 p0.hubs, cM Ya8 5 p0.letters], cI p1] [] fun r => .x fun (v16 : Value) => .x fun (v17 : Value) => .d (C.agg [cV v16, cV v17, cI r.id, cI r.code]) [Obj.deep v16 83 Yaf Yag 2 r.peers.hubs, oA v17 167 Ya8 5 r.peers.letters]) := ⟨so Tryz.func47 rfl rfl fun r X h => gh .z⟩
instance Zic' (p0 : Y9y) (p1 : Int) : Sp Tryz.prog 47 [C.agg [cM Yae 2 p0.hubs, cM Ya8 5 p0.letters], cI p1] (Zib p0 p1) (fun r => C.agg [cM Yae 2 r.peers.hubs, cM Ya8 5 r.peers.letters, cI r.id, cI r.code]) := ⟨fun r h => Ok.freeze ((Zic p0 p1).h r h) (by rintro c qs ⟨v16, v17, rfl, rfl⟩; exact Frz.agg (FrzL.cons (os := [_]) ((Frz.deep Yd6)) (FrzL.cons (os := [_]) (Frz.arr) (fS (fS (FrzL.nil))))))⟩

def Zid : Option Bool := some true
def Zie (p0 : List Int) (p1 : List Int) (x8 : Int) : Option (Int ⊕ (Bool ⊕ Unit)) := cond (decide (x8 < (p0.length : Int))) ((getI p0 x8).bind fun e10 => (getI p1 x8).bind fun e12 => cond (e10 != e12) (some (.inr (.inl false))) (some (.inl (IntKind.i64.wrap (x8 + 1))))) (some (.inr (.inr ())))
def Zif (p0 : List Int) (p1 : List Int) : Option Bool := cond ((p0.length : Int) != (p1.length : Int)) (some false) ((iter (Zie p0 p1) big 0).bind (fun z16 => match z16 with | .inl y15 => some y15 | .inr () => Zid))
instance Zig (p0 : List Int) (p1 : List Int) : Sp Tryz.prog 406 [cM kI64 1 p0, cM kI64 1 p1] (Zif p0 p1) (fun r => C.bool r) := Sp.of (so Tryz.func406 rfl rfl fun r X h => gh (.b .z (.c0 (.d [] []) [] [] (.l1 (fun x8 => .d [(5, cI x8)] []) [0,1] [] (.b (.r [] [3,7] [] [0,4,8,13,16,20,24,29,32] .z) .z)) .z)))

end Go.Proofs.YtmaefakalikkiaaGreat
