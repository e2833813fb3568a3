/- Printed by gen.py: plain functions for Go functions, and that the walks keep to them. -/
import Derived.Test.YtomachnjepgpbaaGreatAQ6
set_option autoImplicit false
set_option linter.unusedVariables false
set_option linter.unusedSimpArgs false
set_option maxHeartbeats 8000000
set_option maxRecDepth 100000
namespace Go.Proofs.YtomachnjepgpbaaGreat
open Go Go.Abs
attribute [local irreducible] AW Ops OpsD Y3z VoK HoK GhF UsC Go.Abs.Fin PkK LenT LenL Y98 BldK FzK FzLK
def Zfq (l205 : List Y9m) : Option (List Y9m) := some l205
def Zfr (x194 : Int) (l204 : List Y9m) : Option ((List Y9m × Int) ⊕ ((List Y9m))) := some (.inl (l204, (IntKind.i64.wrap (x194 + 1))))
def Zfs (p0 : Y9p) (r176 : List Y9j) (l193 : List Y9m) (x194 : Int) : Option ((List Y9m × Int) ⊕ ((List Y9m))) := cond (decide (x194 < (r176.length : Int))) ((getI r176 x194).bind fun e196 => (Zf2 p0.graph l193 e196).bind fun r199 => cond (r199 == 0) ((Zfe l193 (Y9m.mk e196.kind e196.key e196.id)).bind fun r202 => Zfr x194 r202) (Zfr x194 l193)) (some (.inr l193))
def Zft (p0 : Y9p) (l37 : List Y9m) (l175 : List Y9j) : Option (List Y9m) := (Y80 (fun z1 z2 => Zfo z1 z2 p0) l175).bind fun r176 => (iter (fun z206 => Zfs p0 r176 z206.1 z206.2) big (l37, 0)).bind fun y207 => Zfq y207
def Zfu (x113 : Int) (l172 : List Y9j) (m173 : List (Int × Bool)) : Option ((List Y9j × (List (Int × Bool)) × Int) ⊕ ((List Y9j))) := some (.inl (l172, m173, (IntKind.i64.wrap (x113 + 1))))
def Zfv (x145 : Int) (l169 : List Y9j) (m170 : List (Int × Bool)) : Option ((List Y9j × (List (Int × Bool)) × Int) ⊕ ((List Y9j × (List (Int × Bool))))) := some (.inl (l169, m170, (IntKind.i64.wrap (x145 + 1))))
def Zfw (l143 : List Y9j) (m144 : List (Int × Bool)) (x145 : Int) (e147 : Y9m) (x155 : Int) (x156 : Int) (x157 : Int) (x158 : Int) (x159 : Int) (x160 : Int) (x161 : ByteArray) (l162 : List Int) (x163 : Int) : Option ((List Y9j × (List (Int × Bool)) × Int) ⊕ ((List Y9j × (List (Int × Bool))))) := (chk (decide ((l143.length + [(Y9j.mk x155 x156 x157 x158 x159 x160 x161 l162 x163)].length) * 96 ≤ 140737488355328))).bind fun u166 => Zfv x145 (l143 ++ [(Y9j.mk x155 x156 x157 x158 x159 x160 x161 l162 x163)]) (mset m144 e147.id true)
def Zfx (p0 : Y9p) (e115 : List Y9m) (l143 : List Y9j) (m144 : List (Int × Bool)) (x145 : Int) : Option ((List Y9j × (List (Int × Bool)) × Int) ⊕ ((List Y9j × (List (Int × Bool))))) := cond (decide (x145 < (e115.length : Int))) ((getI e115 x145).bind fun e147 => cond (Option.getD (mget m144 e147.id) false) (Zfv x145 l143 m144) ((Zbx p0.graph e147.id).bind fun r151 => Zfw l143 m144 x145 e147 r151.1.id r151.1.room r151.1.author r151.1.kind r151.1.key r151.1.n r151.1.text r151.1.prev r151.1.time)) (some (.inr (l143, m144)))
def Zfy (p0 : Y9p) (p1 : List (List Y9m)) (l111 : List Y9j) (m112 : List (Int × Bool)) (x113 : Int) : Option ((List Y9j × (List (Int × Bool)) × Int) ⊕ ((List Y9j))) := cond (decide (x113 < (p1.length : Int))) ((getI p1 x113).bind fun e115 => (iter (fun z208 => Zfx p0 e115 z208.1 z208.2.1 z208.2.2) big (l111, m112, 0)).bind fun (y209, y210) => Zfu x113 y209 y210) (some (.inr l111))
def Zfz (p0 : Y9p) (p1 : List (List Y9m)) (l37 : List Y9m) (m49 : List (Int × Bool)) : Option (List Y9m) := (iter (fun z211 => Zfy p0 p1 z211.1 z211.2.1 z211.2.2) big (([] : List Y9j), m49, 0)).bind fun y212 => Zft p0 l37 y212
def Zg0 (l37 : List Y9m) (m43 : List (Int × Bool)) (x44 : Int) : Option (((List (Int × Bool)) × Int) ⊕ ((List (Int × Bool)))) := cond (decide (x44 < (l37.length : Int))) ((getI l37 x44).bind fun e46 => some (.inl ((mset m43 e46.id true), (IntKind.i64.wrap (x44 + 1))))) (some (.inr m43))
def Zg1 (p0 : Y9p) (p1 : List (List Y9m)) (l37 : List Y9m) : Option (List Y9m) := (iter (fun z213 => Zg0 l37 z213.1 z213.2) big (([] : List (Int × Bool)), 0)).bind fun y214 => Zfz p0 p1 l37 y214
def Zg2 (x22 : Int) (l35 : List Y9m) : Option ((List Y9m × Int) ⊕ ((List Y9m))) := some (.inl (l35, (IntKind.i64.wrap (x22 + 1))))
def Zg3 (p1 : List (List Y9m)) (e5 : List Y9m) (l21 : List Y9m) (x22 : Int) : Option ((List Y9m × Int) ⊕ ((List Y9m))) := cond (decide (x22 < (e5.length : Int))) ((getI e5 x22).bind fun e24 => (Zfm p1 e24).bind fun r27 => cond r27 (Zg2 x22 l21) ((chk (decide ((l21.length + [e24].length) * 24 ≤ 140737488355328))).bind fun u32 => Zg2 x22 (l21 ++ [e24]))) (some (.inr l21))
def Zg4 (p0 : Y9p) (p1 : List (List Y9m)) : Option (List Y9m) := cond (decide ((p1.length : Int) > 0)) ((getI p1 0).bind fun e5 => (iter (fun z215 => Zg3 p1 e5 z215.1 z215.2) big (([] : List Y9m), 0)).bind fun y216 => Zg1 p0 p1 y216) (Zg1 p0 p1 ([] : List Y9m))
instance Zg5 (p0 : Y9p) (p1 : List (List Y9m)) : SpO Tryz.prog 77 (Zg4 p0 p1) (.x fun (b00 : Nat) => .x fun (b01 : Nat) => .x fun (b02 : Nat) => .x fun (b03 : Nat) => .x fun (b04 : Nat) => .d [pt b00, cM Y9s 1 p1] [oB b00 100 [cI p0.graph.room, cM Y9q 9 p0.graph.events, cM Y9q 9 p0.graph.parked, mt b01, mt b02, mt b03, mt b04], Abs.Obj.map b01 .i64 Y9u p0.depth, Abs.Obj.map b02 .i64 Y9v p0.before, Abs.Obj.map b03 .i64 Y9v p0.after, Abs.Obj.map b04 .i64 Y9u p0.refused] fun r => .d (cM Y9r 3 r) [oB b00 100 [cI p0.graph.room, cM Y9q 9 p0.graph.events, cM Y9q 9 p0.graph.parked, mt b01, mt b02, mt b03, mt b04], Abs.Obj.map b01 .i64 Y9u p0.depth, Abs.Obj.map b02 .i64 Y9v p0.before, Abs.Obj.map b03 .i64 Y9v p0.after, Abs.Obj.map b04 .i64 Y9u p0.refused]) := ⟨fun b00 b01 b02 b03 b04 => so Tryz.func77 rfl rfl fun r X h => gh (.q 2 (.c1 (fun l37 => .x fun v36 => .d [(5, cV v36)] [oA v36 96 Y9r 3 l37]) [1,2,6] [2,3,4,5,6,7,0] (.b (.l2 (fun l21 x22 => .x fun v20 => .d [(5, cV v20), (29, cI x22)] [oA v20 96 Y9r 3 l21]) [1,2,6,27,28] [2,3,4,5,6,7,0] (.b (.c1 (fun l35 => .x fun v34 => .d [(5, cV v34)] [oA v34 96 Y9r 3 l35]) [1,2,6,27,28,29] [1,2,3,4,5,6,7] .z .z) .z)) .z) (.q 1 (.o 0 fun b38 => .c1 (fun m49 => .d [] [Abs.Obj.map b38 .i64 Y9w m49]) [1,2,5,6,9] [2,3,4,5,6,7,1,8] (.O 0 fun b38 => .l2 (fun m43 x44 => .d [(45, cI x44)] [Abs.Obj.map b38 .i64 Y9w m43]) [1,2,5,6,9,43,44] [2,3,4,5,6,7,1,8] .z) (.c1 (fun l175 => .x fun v174 => .d [(6, cV v174)] [oA v174 42 Y9q 9 l175]) [2,5] [1,2,3,4,5,6,7] (.O 0 fun b38 => .l3 (fun l111 m112 x113 => .x fun v110 => .d [(6, cV v110), (55, cI x113)] [oA v110 42 Y9q 9 l111, Abs.Obj.map b38 .i64 Y9w m112]) [2,5,9,53,54] [1,2,3,4,5,6,7] (.b (.o 1 fun b38 => .c2 (fun l172 m173 => .x fun v171 => .d [(6, cV v171)] [oA v171 42 Y9q 9 l172, Abs.Obj.map b38 .i64 Y9w m173]) [2,5,9,53,54,55] [2,3,4,5,6,7,8] (.O 1 fun b38 => .l3 (fun l143 m144 x145 => .x fun v142 => .d [(6, cV v142), (61, cI x145)] [oA v142 42 Y9q 9 l143, Abs.Obj.map b38 .i64 Y9w m144]) [2,5,9,53,54,55,59,60] [2,3,4,5,6,7,8] (.b (.o 1 fun b38 => .c2 (fun l169 m170 => .x fun v168 => .d [(6, cV v168)] [oA v168 42 Y9q 9 l169, Abs.Obj.map b38 .i64 Y9w m170]) [2,5,9,53,54,55,59,60,61] [2,3,4,5,6,7,8] (.b .z (.q 1 (.c9 (fun x155 x156 x157 x158 x159 x160 x161 l162 x163 => .x fun b154 => .d [(16, pt b154)] [oB b154 42 [cI x155, cI x156, cI x157, cI x158, cI x159, cI x160, C.str x161, cM kI64 1 l162, cI x163]]) [2,5,6,9,53,54,55,59,60,61] [3,4,5,6,7,8,9,2,0] (.R [0,0,0,0,0,0,0,0,0,0] [0,3,5] [11] (.light 0 true (.light 1 false (.light 2 false (.light 3 true (.light 4 false (.light 5 true (.two 6 10 (.light 7 false (.light 8 false (.light 9 false (.one 10 (.late 11 (.light 12 false .done)))))) (.one 6 (.light 7 false (.light 8 false (.light 9 false (.late 11 (.light 12 false .done))))))))))))) (.H 99 .z)) .z))) .z) .z)) .z) .z)) (.q 1 (.c1 (fun l205 => .d [(5, cM Y9r 3 l205)] []) [] [2,3,4,5,6] (.l2 (fun l193 x194 => .d [(5, cM Y9r 3 l193), (94, cI x194)] []) [2,92,93] [1,2,3,4,5,6,0] (.b (.c1 (fun l204 => .d [(5, cM Y9r 3 l204)] []) [2,92,93,94] [0,1,2,3,4,5,6] (.r [0,0,0,0,0,0,0,0] [0,3,5] [] [1,4,8,13,16,21,26,28] .z) .z) .z)) .z)))))))⟩

def Zg6 (p0 : List Int) : Option (List Int) := (chk (decide (p0.length * 8 ≤ 140737488355328))).bind fun _ => some p0
theorem Zg7 (p0 : List Int) (r : List Int) (h : Zg6 p0 = some r) : Ok Tryz.prog 229 [cM kI64 1 p0] [] (fun c qs => ∃ (v : Value), c = cV v ∧ qs = [oA v 2 kI64 1 r]) := by
 refine ob' h fun u hc h => ?_
 obtain rfl := Wj h
 have hc := Wo (Y45 hc)
 refine Ok.of_body (rs := [.tmp 2]) Tryz.func229 rfl rfl rfl rfl rfl fun X => ?_
 refine zw ?_
 refine Ops.h (ns := []) rfl rfl (Y63 Yaj.h rfl rfl) ?_
 rintro _ _ ⟨b, hb, rfl, rfl⟩
 refine zw ?_
 refine tf' b (fun hq => ?_) (fun hq => ?_)
 ·
  refine AW.cond rfl (fun _ => ?_) (fun hn => absurd (hq.symm.trans hn) (by decide))
  refine zw ?_
  refine AW.ret ?_
  obtain rfl := hb hq
  exact finI ⟨[cV s0], _, Y25.nil 2 kI64 1, .cons (.tmp rfl) .nil, [0], _, _, rfl, ⟨_, rfl, rfl⟩⟩
 refine AW.cond rfl (fun hn => absurd (hq.symm.trans hn) (by decide)) (fun _ => ?_)
 refine zw ?_
 refine Ops.h (ns := []) rfl rfl (Y3l (k := kI64) (ys := ([] : List Int)) Yai .nil rfl rfl rfl) ?_
 rintro _ _ ⟨b1, rfl, rfl⟩
 refine zw ?_
 refine Ops.h (ns := [0]) rfl rfl (Y33 Yai rfl rfl (by simpa using hc) (by simp; omega) rfl) ?_
 rintro _ _ ⟨v, rfl, rfl⟩
 refine zw ?_
 refine AW.ret ?_
 exact finI ⟨[cV v], _, Y25.refl _, .cons (.tmp rfl) .nil, [0], _, _, rfl, ⟨v, rfl, rfl⟩⟩
instance Zg7' (p0 : List Int) : Sp Tryz.prog 229 [cM kI64 1 p0] (Zg6 p0) (fun r => cM kI64 1 r) := ⟨fun r h => Ok.freeze (Zg7 p0 r h) (by rintro c qs ⟨v, rfl, rfl⟩; exact Frz.arr)⟩
instance Zg8 (p0 : List Int) : SpO Tryz.prog 229 (Zg6 p0) (.d [cM kI64 1 p0] [] fun r => .x fun (v : Value) => .d (cV v) [oA v 2 kI64 1 r]) := ⟨fun r h => Zg7 p0 r h⟩

def Zg9 : Option Bool := some false
def Zga (x24 : Int) (m36 : List (Int × Bool)) (l38 : List Int) : Option (((List (Int × Bool)) × List Int × Int) ⊕ (Bool ⊕ Unit)) := some (.inl (m36, l38, (IntKind.i64.wrap (x24 + 1))))
def Zgb (p0 : Y9k) (p1 : Int) (m21 : List (Int × Bool)) (l23 : List Int) (x24 : Int) : Option (((List (Int × Bool)) × List Int × Int) ⊕ (Bool ⊕ Unit)) := cond (decide (x24 < (l23.length : Int))) ((getI l23 x24).bind fun e26 => cond (e26 == p1) (some (.inr (.inl true))) (cond (Option.getD (mget m21 e26) false) (Zga x24 m21 l23) ((Zbx p0 e26).bind fun r30 => (chk (decide ((l23.length + r30.1.prev.length) * 8 ≤ 140737488355328))).bind fun u34 => Zga x24 (mset m21 e26 true) (l23 ++ r30.1.prev)))) (some (.inr (.inr ())))
def Zgc (p0 : Y9k) (p1 : Int) (p2 : Y9j) : Option Bool := (Zg6 p2.prev).bind fun r4 => (iter (fun z39 => Zgb p0 p1 z39.1 z39.2.1 z39.2.2) big (([] : List (Int × Bool)), r4, 0)).bind (fun z41 => match z41 with | .inl y40 => some y40 | .inr () => Zg9)
instance Zgd (p0 : Y9k) (p1 : Int) (p2 : Y9j) : Sp Tryz.prog 209 [C.agg [cI p0.room, cM Y9q 9 p0.events, cM Y9q 9 p0.parked], cI p1, C.agg [cI p2.id, cI p2.room, cI p2.author, cI p2.kind, cI p2.key, cI p2.n, C.str p2.text, cM kI64 1 p2.prev, cI p2.time]] (Zgc p0 p1 p2) (fun r => C.bool r) := Sp.of (so Tryz.func209 rfl rfl fun r X h => gh (.k (.c0 (.d [] []) [] [] (.O 1 fun b3 => .l3 (fun m21 l23 x24 => .x fun v22 => .d [(8, cV v22), (9, cI x24)] [Abs.Obj.map b3 .i64 Y9w m21, oA v22 2 kI64 1 l23]) [1,3,7] [3] (.b (.o 0 fun b3 => .c2 (fun m36 l38 => .x fun v37 => .d [(8, cV v37)] [Abs.Obj.map b3 .i64 Y9w m36, oA v37 2 kI64 1 l38]) [1,3,7,9] [2] .z .z) .z)) .z)))

def Zge (p0 : Y9p) (p1 : Y9j) (r5 : List Y9m) (x15 : Int) (x29 : Bool) : Option ((List (Int × List Y9m)) × (List (Int × List Y9m)) × (List (Int × Int))) := cond x29 ((Zfe r5 (Y9m.mk p1.kind p1.key p1.id)).bind fun r31 => some ((mset p0.before p1.id r5), (mset (mset p0.after p1.id r5) p1.id r31), (mset p0.refused p1.id x15))) (some ((mset p0.before p1.id r5), (mset p0.after p1.id r5), (mset p0.refused p1.id x15)))
def Zgf (p0 : Y9p) (p1 : Y9j) (r5 : List Y9m) (x15 : Int) : Option ((List (Int × List Y9m)) × (List (Int × List Y9m)) × (List (Int × Int))) := cond (x15 == 0) (Zge p0 p1 r5 x15 (decide (p1.kind ≤ 6))) (Zge p0 p1 r5 x15 false)
def Zgg (p0 : Y9p) (p1 : Y9j) (r5 : List Y9m) (r7 : Int) (x13 : Bool) : Option ((List (Int × List Y9m)) × (List (Int × List Y9m)) × (List (Int × Int))) := cond x13 (Zgf p0 p1 r5 6) (Zgf p0 p1 r5 r7)
def Zgh (p0 : Y9p) (p1 : Y9j) : Option ((List (Int × List Y9m)) × (List (Int × List Y9m)) × (List (Int × Int))) := (Zdu p0 p1.prev).bind fun r2 => (Zg4 p0 r2).bind fun r5 => (Zf2 p0.graph r5 p1).bind fun r7 => cond (r7 == 0) (cond (p1.kind == 8) ((Zgc p0.graph p1.key p1).bind fun r11 => Zgg p0 p1 r5 r7 (!r11)) (Zgg p0 p1 r5 r7 false)) (Zgg p0 p1 r5 r7 false)
instance Zgi (p0 : Y9p) (p1 : Y9j) : SpO Tryz.prog 149 (Zgh p0 p1) (.x fun (b00 : Nat) => .x fun (b01 : Nat) => .x fun (b02 : Nat) => .x fun (b03 : Nat) => .x fun (b04 : Nat) => .d [pt b00, C.agg [cI p1.id, cI p1.room, cI p1.author, cI p1.kind, cI p1.key, cI p1.n, C.str p1.text, cM kI64 1 p1.prev, cI p1.time]] [oB b00 100 [cI p0.graph.room, cM Y9q 9 p0.graph.events, cM Y9q 9 p0.graph.parked, mt b01, mt b02, mt b03, mt b04], Abs.Obj.map b01 .i64 Y9u p0.depth, Abs.Obj.map b02 .i64 Y9v p0.before, Abs.Obj.map b03 .i64 Y9v p0.after, Abs.Obj.map b04 .i64 Y9u p0.refused] fun r => .d (C.tup []) [oB b00 100 [cI p0.graph.room, cM Y9q 9 p0.graph.events, cM Y9q 9 p0.graph.parked, mt b01, mt b02, mt b03, mt b04], Abs.Obj.map b01 .i64 Y9u p0.depth, Abs.Obj.map b02 .i64 Y9v r.1, Abs.Obj.map b03 .i64 Y9v r.2.1, Abs.Obj.map b04 .i64 Y9u r.2.2]) := ⟨fun b00 b01 b02 b03 b04 => so Tryz.func149 rfl rfl fun r X h => gh (.f 10 [] (.r [0,0,0,0,0,0] [3,5] [] [0,4,8,13,16,21,26,28] (.c1 (fun x15 => .d [(5, cI x15)] []) [0,3,4] [0,1,2,3,4,5] (.c1 (fun x13 => .d [(36, C.bool x13)] []) [0,3,4,5] [0,1,2,3,4,5] (.r [0,0,0,0,0,0] [4,11,13,14] [] [0,4,8,12,17,20,24,28,32,36,40,45,48,53,57,62,64,68] .z) .z) (.r [0,0,3] [3,5,9,11,15,17] [29] [0,4,8,13,16,21,24,28,32,37,40,45,48,52,56,61,64,69,72,76,80,86,88,94,98,100,106,110,112,119] (.c1 (fun x29 => .d [(70, C.bool x29)] []) [0,3,4] [1,2,5,4,0,3] .z (.b (.r [0,0,0,0,0,0] [3,5,8,10,12] [15] [0,4,8,13,16,21,24,28,33,36,41,44,49,52,58,63] .z) .z))))))⟩

def Zgj (p0 : Y9k) (m23 : List (Int × Int)) (m46 : List (Int × List Y9m)) (m47 : List (Int × List Y9m)) (m48 : List (Int × Int)) : Option Y9p := some (Y9p.mk p0 m23 m46 m47 m48)
def Zgk (p0 : Y9k) (m23 : List (Int × Int)) (r24 : List Int) (m34 : List (Int × List Y9m)) (m35 : List (Int × List Y9m)) (m36 : List (Int × Int)) (x37 : Int) : Option (((List (Int × List Y9m)) × (List (Int × List Y9m)) × (List (Int × Int)) × Int) ⊕ (((List (Int × List Y9m)) × (List (Int × List Y9m)) × (List (Int × Int))))) := cond (decide (x37 < (r24.length : Int))) ((getI r24 x37).bind fun e39 => (Zbx p0 e39).bind fun r41 => (Zgh (Y9p.mk p0 m23 m34 m35 m36) r41.1).bind fun r44 => some (.inl (r44.1, r44.2.1, r44.2.2, (IntKind.i64.wrap (x37 + 1))))) (some (.inr (m34, m35, m36)))
def Zgl (p0 : Y9k) (m23 : List (Int × Int)) : Option Y9p := (Zdq p0).bind fun r24 => (iter (fun z54 => Zgk p0 m23 r24 z54.1 z54.2.1 z54.2.2.1 z54.2.2.2) big (([] : List (Int × List Y9m)), ([] : List (Int × List Y9m)), ([] : List (Int × Int)), 0)).bind fun (y55, y56, y57) => Zgj p0 m23 y55 y56 y57
def Zgm (p0 : Y9k) (r7 : List Int × Bool) (m15 : List (Int × Int)) (x16 : Int) : Option (((List (Int × Int)) × Int) ⊕ ((List (Int × Int)))) := cond (decide (x16 < (p0.events.length : Int))) ((getI p0.events x16).bind fun e18 => (getI r7.1 x16).bind fun e21 => some (.inl ((mset m15 e18.id e21), (IntKind.i64.wrap (x16 + 1))))) (some (.inr m15))
def Zgn (p0 : Y9k) : Option Y9p := (Zay p0).bind fun r7 => (iter (fun z58 => Zgm p0 r7 z58.1 z58.2) big (([] : List (Int × Int)), 0)).bind fun y59 => Zgl p0 y59
instance Zgo (p0 : Y9k) : SpO Tryz.prog 76 (Zgn p0) (.d [C.agg [cI p0.room, cM Y9q 9 p0.events, cM Y9q 9 p0.parked]] [] fun r => .x fun (b49 : Nat) => .x fun (b50 : Nat) => .x fun (b51 : Nat) => .x fun (b52 : Nat) => .x fun (b53 : Nat) => .d (pt b49) [oB b49 100 [cI r.graph.room, cM Y9q 9 r.graph.events, cM Y9q 9 r.graph.parked, mt b50, mt b51, mt b52, mt b53], Abs.Obj.map b50 .i64 Y9u r.depth, Abs.Obj.map b51 .i64 Y9v r.before, Abs.Obj.map b52 .i64 Y9v r.after, Abs.Obj.map b53 .i64 Y9u r.refused]) := ⟨so Tryz.func76 rfl rfl fun r X h => gh (.q 3 (.o 4 fun b2 => .c1 (fun m23 => .d [] [Abs.Obj.map b2 .i64 Y9u m23]) [1,3] [5,0,3,2,1] (.O 4 fun b2 => .l2 (fun m15 x16 => .d [(27, cI x16)] [Abs.Obj.map b2 .i64 Y9u m15]) [1,3,4,25,26] [5,0,3,2,1] (.b (.r [0,0,0,0,0,0,0] [3,5,9] [10] [0,4,8,13,16,21,24,28,32,37,43] .z) .z)) (.o 3 fun b3 => .o 4 fun b4 => .o 5 fun b5 => .c3 (fun m46 m47 m48 => .d [] [Abs.Obj.map b3 .i64 Y9v m46, Abs.Obj.map b4 .i64 Y9v m47, Abs.Obj.map b5 .i64 Y9u m48]) [3] [2,0] (.O 3 fun b3 => .O 4 fun b4 => .O 5 fun b5 => .l4 (fun m34 m35 m36 x37 => .d [(46, cI x37)] [Abs.Obj.map b3 .i64 Y9v m34, Abs.Obj.map b4 .i64 Y9v m35, Abs.Obj.map b5 .i64 Y9u m36]) [1,3,44,45] [1,2,0] .z) .z)))⟩
instance Zgo' (p0 : Y9k) : Sp Tryz.prog 76 [C.agg [cI p0.room, cM Y9q 9 p0.events, cM Y9q 9 p0.parked]] (Zgn p0) (fun r => C.ip [cI r.graph.room, cM Y9q 9 r.graph.events, cM Y9q 9 r.graph.parked, C.imap .i64 Y9u r.depth, C.imap .i64 Y9v r.before, C.imap .i64 Y9v r.after, C.imap .i64 Y9u r.refused]) := ⟨fun r h => Ok.freeze ((Zgo p0).h r h) (by rintro c qs ⟨b49, b50, b51, b52, b53, rfl, rfl⟩; exact Frz.box (fS (fS (fS (FrzL.cons (os := [_]) (Frz.map) (FrzL.cons (os := [_]) (Frz.map) (FrzL.cons (os := [_]) (Frz.map) (FrzL.cons (os := [_]) (Frz.map) (FrzL.nil)))))))))⟩

def Zgp (p0 : List Y9m) (q0 : Y9k) : Option Bool := (Zc9 q0 p0).bind fun r1 => some (!r1)
instance Zgq (p0 : List Y9m) (q0 : Y9k) : SpO Tryz.prog 74 (Zgp p0 q0) (.x fun (b00 : Nat) => .d [cM Y9r 3 p0, pt b00] [oB b00 25 [cI q0.room, cM Y9q 9 q0.events, cM Y9q 9 q0.parked]] fun r => .d (C.bool r) [oB b00 25 [cI q0.room, cM Y9q 9 q0.events, cM Y9q 9 q0.parked]]) := ⟨fun b00 => so Tryz.func74 rfl rfl fun r X h => gh .z⟩

def Zgr : Option Int := some (-1)
def Zgs (p0 : List (List Y9m)) (p1_0 : Y9k) (x7 : Int) : Option (Int ⊕ (Int ⊕ Unit)) := cond (decide (x7 < (p0.length : Int))) ((getI p0 x7).bind fun e9 => (Zgp e9 p1_0).bind fun r11 => cond r11 (some (.inr (.inl x7))) (some (.inl (IntKind.i64.wrap (x7 + 1))))) (some (.inr (.inr ())))
def Zgt (p0 : List (List Y9m)) (p1_0 : Y9k) : Option Int := (iter (Zgs p0 p1_0) big 0).bind (fun z15 => match z15 with | .inl y14 => some y14 | .inr () => Zgr)
instance Zgu (p0 : List (List Y9m)) (p1_0 : Y9k) : SpO Tryz.prog 145 (Zgt p0 p1_0) (.x fun (b00 : Nat) => .d [cM Y9s 1 p0, C.clo 74 [pt b00]] [oB b00 25 [cI p1_0.room, cM Y9q 9 p1_0.events, cM Y9q 9 p1_0.parked]] fun r => .d (cI r) [oB b00 25 [cI p1_0.room, cM Y9q 9 p1_0.events, cM Y9q 9 p1_0.parked]]) := ⟨fun b00 => so Tryz.func145 rfl rfl fun r X h => gh (.q 1 (.c0 (.d [] []) [] [0] (.l1 (fun x7 => .d [(8, cI x7)] []) [0,1,7] [0] .z) .z))⟩

def Zgv (p0 : List (List Y9m)) (p1_0 : Y9k) : Option Bool := (Zgt p0 p1_0).bind fun r1 => some (decide (r1 ≥ 0))
instance Zgw (p0 : List (List Y9m)) (p1_0 : Y9k) : SpO Tryz.prog 73 (Zgv p0 p1_0) (.x fun (b00 : Nat) => .d [cM Y9s 1 p0, C.clo 74 [pt b00]] [oB b00 25 [cI p1_0.room, cM Y9q 9 p1_0.events, cM Y9q 9 p1_0.parked]] fun r => .d (C.bool r) [oB b00 25 [cI p1_0.room, cM Y9q 9 p1_0.events, cM Y9q 9 p1_0.parked]]) := ⟨fun b00 => so Tryz.func73 rfl rfl fun r X h => gh .z⟩

def Zgx (p0 : Y9k) (p1 : List (List Y9m)) (x8 : Bool) : Option (List Y9m) := cond x8 (some []) ((Zgn p0).bind fun r10 => (Zg4 r10 p1).bind fun r17 => some r17)
def Zgy (p0 : Y9k) (p1 : List (List Y9m)) : Option (List Y9m) := cond (decide ((p1.length : Int) > 60)) (Zgx p0 p1 true) ((Zbi p0).bind fun r3 => cond r3 ((Zgv p1 p0).bind fun r6 => Zgx p0 p1 r6) (Zgx p0 p1 true))
instance Zgz (p0 : Y9k) (p1 : List (List Y9m)) : Sp Tryz.prog 8 [C.agg [cI p0.room, cM Y9q 9 p0.events, cM Y9q 9 p0.parked], cM Y9s 1 p1] (Zgy p0 p1) (fun r => cM Y9r 3 r) := Sp.of (so Tryz.func8 rfl rfl fun r X h => gh (.q 2 (.c1 (fun x8 => .d [(17, C.bool x8)] []) [1,2] [0] .z (.b .z (.k .z)))))

def Zh0 (p0 : List Int) : Option (Y9k × Int) := (Z5 p0).bind fun r2 => (Z51 r2).bind fun r5 => (Z55 r5.2 r5.1).bind fun r15 => some (r5.1, r15.1)
instance Zh1 (p0 : List Int) : Sp Tryz.prog 78 [cM kU8 1 p0] (Zh0 p0) (fun r => C.tup [C.agg [cI r.1.room, cM Y9q 9 r.1.events, cM Y9q 9 r.1.parked], cI r.2]) := sp Tryz.func78 rfl rfl fun r X h => by
 unfold Zh0 at h
 refine zw ?_
 refine al fun b1 => ?_
 refine zw ?_
 refine ob' h fun r2 g3 h => ?_
 refine Ops.h (ns := []) rfl rfl (Y27 (Z6 _ _ g3) rfl rfl) ?_
 rintro _ _ ⟨_, ⟨b4, rfl, rfl⟩, rfl⟩
 refine zw ?_
 refine ob' h fun r5 g6 h => ?_
 refine Ops.h (ns := [0]) rfl rfl (Y27 (Z52 r2 _ g6) rfl rfl) ?_
 rintro _ _ ⟨_, ⟨v7, rfl, rfl⟩, rfl⟩
 refine al fun b8 => ?_
 refine Ops.sA Yb8.h rfl rfl rfl inferInstance rfl ?_
 refine Ops.nil ?_
 refine AW.seq ?_
 refine AW.ghost (Y25.boxFrz (ns := [0, 0]) rfl (fS (fS (FrzL.cons (os := [_]) Frz.arr FrzL.nil)))) ?_
 refine rD [0] [0,2] [] [1,4,9,14,18,20] ?_
 refine zw ?_
 refine ob' h fun r15 g16 h => ?_
 refine Y3z.h (ns := [0]) rfl rfl rfl (Y28 ((Z56 r5.2 r5.1).h _ _ g16) rfl rfl) ?_
 rintro _ _ ⟨rfl, rfl⟩
 refine OpsD.one ?_
 refine Y3z.h (ns := [1]) rfl rfl rfl (Y1y (gs := [cI r5.1.room, cM Y9q 9 r5.1.events, cM Y9q 9 r5.1.parked]) Yb8.h rfl rfl rfl rfl rfl) ?_
 rintro _ _ ⟨rfl, rfl⟩
 refine zw ?_
 refine AW.ret ?_
 rw [← Wj h]
 exact finI ⟨[C.agg [cI r5.1.room, cM Y9q 9 r5.1.events, cM Y9q 9 r5.1.parked], cI r15.1], _, Y25.refl _, (.cons (.cell (p := 1) rfl rfl Yb8.h rfl) (.cons (.tmp rfl) .nil)), [], _, _, rfl, ⟨rfl, rfl⟩⟩

def Zh2 (p0 : List Int) : Option (Y9k × Int) := (Zh0 p0).bind fun r2 => some (r2.1, r2.2)
instance Zh3 (p0 : List Int) : Sp Tryz.prog 9 [cM kU8 1 p0] (Zh2 p0) (fun r => C.tup [C.agg [cI r.1.room, cM Y9q 9 r.1.events, cM Y9q 9 r.1.parked], cI r.2]) := Sp.of (so Tryz.func9 rfl rfl fun r X h => gh .z)

def Zh4 (p0 : Y9k) (p1 : Int) (x7 : Bool) : Option (List Y9m) := cond x7 (some []) ((Zgn p0).bind fun r9 => (Zf4 (Option.getD (mget r9.before p1) ([] : List Y9m))).bind fun r16 => some r16)
def Zh5 (p0 : Y9k) (p1 : Int) : Option (List Y9m) := (Zbi p0).bind fun r2 => cond r2 ((Zaf p0 p1).bind fun r5 => Zh4 p0 p1 (!r5)) (Zh4 p0 p1 true)
instance Zh6 (p0 : Y9k) (p1 : Int) : Sp Tryz.prog 10 [C.agg [cI p0.room, cM Y9q 9 p0.events, cM Y9q 9 p0.parked], cI p1] (Zh5 p0 p1) (fun r => cM Y9r 3 r) := Sp.of (so Tryz.func10 rfl rfl fun r X h => gh (.q 2 (.c1 (fun x7 => .d [(13, C.bool x7)] []) [1,2] [0] .z (.b .z (.k .z)))))

def Zh7 (p0 : Y9k) (p1 : Int) (x7 : Bool) : Option (List Y9m) := cond x7 (some []) ((Zgn p0).bind fun r9 => (Zf4 (Option.getD (mget r9.after p1) ([] : List Y9m))).bind fun r16 => some r16)
def Zh8 (p0 : Y9k) (p1 : Int) : Option (List Y9m) := (Zbi p0).bind fun r2 => cond r2 ((Zaf p0 p1).bind fun r5 => Zh7 p0 p1 (!r5)) (Zh7 p0 p1 true)
instance Zh9 (p0 : Y9k) (p1 : Int) : Sp Tryz.prog 11 [C.agg [cI p0.room, cM Y9q 9 p0.events, cM Y9q 9 p0.parked], cI p1] (Zh8 p0 p1) (fun r => cM Y9r 3 r) := Sp.of (so Tryz.func11 rfl rfl fun r X h => gh (.q 2 (.c1 (fun x7 => .d [(13, C.bool x7)] []) [1,2] [0] .z (.b .z (.k .z)))))

def Zha (p0 : Y9k) (p1 : Int) (x7 : Bool) : Option Int := cond x7 (some (-1)) ((Zgn p0).bind fun r9 => some (Option.getD (mget r9.refused p1) 0))
def Zhb (p0 : Y9k) (p1 : Int) : Option Int := (Zbi p0).bind fun r2 => cond r2 ((Zaf p0 p1).bind fun r5 => Zha p0 p1 (!r5)) (Zha p0 p1 true)
instance Zhc (p0 : Y9k) (p1 : Int) : Sp Tryz.prog 12 [C.agg [cI p0.room, cM Y9q 9 p0.events, cM Y9q 9 p0.parked], cI p1] (Zhb p0 p1) (fun r => cI r) := Sp.of (so Tryz.func12 rfl rfl fun r X h => gh (.q 2 (.c1 (fun x7 => .d [(13, C.bool x7)] []) [1,2] [0] .z (.b .z (.k .z)))))

def Zhd (p0 : List Int) : Option Y9k := (Z5 p0).bind fun r2 => (Z51 r2).bind fun r5 => some r5.1
instance Zhe (p0 : List Int) : SpO Tryz.prog 13 (Zhd p0) (.d [cM kU8 1 p0] [] fun r => .x fun (v8 : Value) => .d (C.agg [cI r.room, cM Y9q 9 r.events, cV v8]) [oA v8 42 Y9q 9 r.parked]) := ⟨so Tryz.func13 rfl rfl fun r X h => gh (.k .z)⟩
instance Zhe' (p0 : List Int) : Sp Tryz.prog 13 [cM kU8 1 p0] (Zhd p0) (fun r => C.agg [cI r.room, cM Y9q 9 r.events, cM Y9q 9 r.parked]) := ⟨fun r h => Ok.freeze ((Zhe p0).h r h) (by rintro c qs ⟨v8, rfl, rfl⟩; exact Frz.agg (fS (fS (FrzL.cons (os := [_]) (Frz.arr) (FrzL.nil)))))⟩

def Zhf : Option Bool := some true
def Zhg (x16 : Int) (x26 : Bool) : Option (Int ⊕ (Bool ⊕ Unit)) := cond x26 (some (.inr (.inl false))) (some (.inl (IntKind.i64.wrap (x16 + 1))))
def Zhh (p0 : Y9k) (p1 : List Y9m) (x16 : Int) : Option (Int ⊕ (Bool ⊕ Unit)) := cond (decide (x16 < (p1.length : Int))) ((getI p1 x16).bind fun e18 => (Zr p0.events e18.id).bind fun r20 => cond (decide (r20 < 0)) (Zhg x16 true) ((getI p0.events r20).bind fun e23 => cond (e23.kind != e18.kind) (Zhg x16 true) (Zhg x16 (e23.key != e18.key)))) (some (.inr (.inr ())))
def Zhi (p0 : Y9k) (p1 : List Y9m) : Option Bool := (Z8c p1).bind fun r2 => cond r2 ((iter (Zhh p0 p1) big 0).bind (fun z29 => match z29 with | .inl y28 => some y28 | .inr () => Zhf)) (some false)
instance Zhj (p0 : Y9k) (p1 : List Y9m) : Sp Tryz.prog 82 [C.agg [cI p0.room, cM Y9q 9 p0.events, cM Y9q 9 p0.parked], cM Y9r 3 p1] (Zhi p0 p1) (fun r => C.bool r) := Sp.of (so Tryz.func82 rfl rfl fun r X h => gh (.b (.c0 (.d [] []) [] [] (.l1 (fun x16 => .d [(5, cI x16)] []) [1,2] [0] (.b (.r [0] [1,6] [] [0,5,8,12,16,20,25,30,32] (.c1 (fun x26 => .d [(53, C.bool x26)] []) [1,2,5] [0] (.r [0] [4,8,13,18,22,27] [] [0,4,8,12,17,20,24,28,33,36,40,44,48,53,56,60,64,68,73,76,80,84,89,92,96,100,104,109,112,116] .z) .z)) .z)) .z) .z))

def Zhk (p0 : Y9k) (p1 : List (List Y9m)) : Option (List Y9m) := (Z2v p0.events).bind fun r23 => (Z7c p0 r23 p1).bind fun r26 => some r26
def Zhl (p0 : Y9k) (p1 : List (List Y9m)) (x15 : Int) : Option (Int ⊕ ((List Y9m) ⊕ Unit)) := cond (decide (x15 < (p1.length : Int))) ((getI p1 x15).bind fun e17 => (Zhi p0 e17).bind fun r19 => cond r19 (some (.inl (IntKind.i64.wrap (x15 + 1)))) (some (.inr (.inl ([] : List Y9m))))) (some (.inr (.inr ())))
def Zhm (p0 : Y9k) (p1 : List (List Y9m)) (x5 : Bool) : Option (List Y9m) := cond x5 (some ([] : List Y9m)) ((iter (Zhl p0 p1) big 0).bind (fun z32 => match z32 with | .inl y31 => some y31 | .inr () => Zhk p0 p1))
def Zhn (p0 : Y9k) (p1 : List (List Y9m)) : Option (List Y9m) := (Z35 p0).bind fun r2 => cond r2 (Zhm p0 p1 (decide ((p1.length : Int) > 60))) (Zhm p0 p1 true)
instance Zho (p0 : Y9k) (p1 : List (List Y9m)) : SpO Tryz.prog 15 (Zhn p0 p1) (.d [C.agg [cI p0.room, cM Y9q 9 p0.events, cM Y9q 9 p0.parked], cM Y9s 1 p1] [] fun r => .x fun (v30 : Value) => .d (cV v30) [oA v30 96 Y9r 3 r]) := ⟨so Tryz.func15 rfl rfl fun r X h => gh (.q 2 (.c1 (fun x5 => .d [(13, C.bool x5)] []) [1,2] [0] .z (.b .z (.c0 (.d [] []) [1,2] [0] (.l1 (fun x15 => .d [(5, cI x15)] []) [1,2] [0] (.b (.r [0] [0,4] [] [1,4,8,12,17,22,24] .z) .z)) (.r [0] [0,2] [] [1,4,9,16,14,22,24] (.k (.k .z)))))))⟩
instance Zho' (p0 : Y9k) (p1 : List (List Y9m)) : Sp Tryz.prog 15 [C.agg [cI p0.room, cM Y9q 9 p0.events, cM Y9q 9 p0.parked], cM Y9s 1 p1] (Zhn p0 p1) (fun r => cM Y9r 3 r) := ⟨fun r h => Ok.freeze ((Zho p0 p1).h r h) (by rintro c qs ⟨v30, rfl, rfl⟩; exact Frz.arr)⟩

def Zhp : Option Bool := some true
def Zhq (p0 : List Y9m) (p1 : List Y9m) (x8 : Int) : Option (Int ⊕ (Bool ⊕ Unit)) := cond (decide (x8 < (p0.length : Int))) ((getI p0 x8).bind fun e10 => (getI p1 x8).bind fun e12 => cond ((e10.kind == e12.kind) && ((e10.key == e12.key) && ((e10.id == e12.id) && true))) (some (.inl (IntKind.i64.wrap (x8 + 1)))) (some (.inr (.inl false)))) (some (.inr (.inr ())))
def Zhr (p0 : List Y9m) (p1 : List Y9m) : Option Bool := cond ((p0.length : Int) != (p1.length : Int)) (some false) ((iter (Zhq p0 p1) big 0).bind (fun z16 => match z16 with | .inl y15 => some y15 | .inr () => Zhp))
instance Zhs (p0 : List Y9m) (p1 : List Y9m) : Sp Tryz.prog 14 [cM Y9r 3 p0, cM Y9r 3 p1] (Zhr p0 p1) (fun r => C.bool r) := Sp.of (so Tryz.func14 rfl rfl fun r X h => gh (.b .z (.c0 (.d [] []) [] [] (.l1 (fun x8 => .d [(5, cI x8)] []) [0,1] [] (.b (.r [] [3,7] [] [0,4,8,13,16,20,24,29,32] .z) .z)) .z)))

def Zht (p0 : Y9k) (p1 : Int) : Option (List Y9m) := (Z58 p0 p1).bind fun r2 => cond r2 ((Z7u p0).bind fun r6 => (Zr p0.events p1).bind fun r12 => (getI r6.ahead r12).bind fun e14 => some e14) (some ([] : List Y9m))
instance Zhu (p0 : Y9k) (p1 : Int) : Sp Tryz.prog 16 [C.agg [cI p0.room, cM Y9q 9 p0.events, cM Y9q 9 p0.parked], cI p1] (Zht p0 p1) (fun r => cM Y9r 3 r) := Sp.of (so Tryz.func16 rfl rfl fun r X h => gh (.b (.r [0] [0,4,6,10] [] [1,20,25,28,6,8,12,17,34,36,41,44] (.k (.w 4 .z))) .z))

def Zhv (p0 : Y9k) (p1 : Int) : Option Int := (Z58 p0 p1).bind fun r2 => cond r2 ((Z7u p0).bind fun r5 => (Zr p0.events p1).bind fun r11 => (getI r5.code r11).bind fun e13 => some e13) (some (-1))
instance Zhw (p0 : Y9k) (p1 : Int) : Sp Tryz.prog 18 [C.agg [cI p0.room, cM Y9q 9 p0.events, cM Y9q 9 p0.parked], cI p1] (Zhv p0 p1) (fun r => cI r) := Sp.of (so Tryz.func18 rfl rfl fun r X h => gh (.b (.r [0] [0,4,6,10] [] [1,20,25,28,6,8,12,17,34,36,41,44] (.k (.w 4 .z))) .z))

def Zhx (l28 : List Int) : Option (List Int) := some l28
def Zhy (x15 : Int) (l26 : List Int) : Option ((List Int × Int) ⊕ ((List Int))) := some (.inl (l26, (IntKind.i64.wrap (x15 + 1))))
def Zhz (p0 : Y9p) (l14 : List Int) (x15 : Int) : Option ((List Int × Int) ⊕ ((List Int))) := cond (decide (x15 < (p0.graph.events.length : Int))) ((getI p0.graph.events x15).bind fun e17 => cond ((Option.getD (mget p0.refused e17.id) 0) == 0) ((chk (decide ((l14.length + [e17.id].length) * 8 ≤ 140737488355328))).bind fun u23 => Zhy x15 (l14 ++ [e17.id])) (Zhy x15 l14)) (some (.inr l14))
def Zi0 (p0 : Y9p) : Option (List Int) := (iter (fun z30 => Zhz p0 z30.1 z30.2) big (([] : List Int), 0)).bind fun y31 => Zhx y31
instance Zi1 (p0 : Y9p) : SpO Tryz.prog 172 (Zi0 p0) (.x fun (b00 : Nat) => .x fun (b01 : Nat) => .x fun (b02 : Nat) => .x fun (b03 : Nat) => .x fun (b04 : Nat) => .d [pt b00] [oB b00 100 [cI p0.graph.room, cM Y9q 9 p0.graph.events, cM Y9q 9 p0.graph.parked, mt b01, mt b02, mt b03, mt b04], Abs.Obj.map b01 .i64 Y9u p0.depth, Abs.Obj.map b02 .i64 Y9v p0.before, Abs.Obj.map b03 .i64 Y9v p0.after, Abs.Obj.map b04 .i64 Y9u p0.refused] fun r => .x fun (v29 : Value) => .d (cV v29) [oA v29 2 kI64 1 r, oB b00 100 [cI p0.graph.room, cM Y9q 9 p0.graph.events, cM Y9q 9 p0.graph.parked, mt b01, mt b02, mt b03, mt b04], Abs.Obj.map b01 .i64 Y9u p0.depth, Abs.Obj.map b02 .i64 Y9v p0.before, Abs.Obj.map b03 .i64 Y9v p0.after, Abs.Obj.map b04 .i64 Y9u p0.refused]) := ⟨fun b00 b01 b02 b03 b04 => so Tryz.func172 rfl rfl fun r X h => gh (.q 2 (.c1 (fun l28 => .x fun v27 => .d [(3, cV v27)] [oA v27 2 kI64 1 l28]) [] [1,2,3,4,5] (.l2 (fun l14 x15 => .x fun v13 => .d [(3, cV v13), (13, cI x15)] [oA v13 2 kI64 1 l14]) [0,11,12] [1,2,3,4,5] (.b (.c1 (fun l26 => .x fun v25 => .d [(3, cV v25)] [oA v25 2 kI64 1 l26]) [0,11,12,13] [1,2,3,4,5] (.r [0,0,0,0,0,0,0] [3,5,6] [] [0,4,8,13,16,21,25,28] .z) .z) .z)) .z))⟩

def Zi2 (p0 : List Int) : Option (List Int) := some p0
def Zi3 (l85 : List Int) (x86 : Int) : Option (Int ⊕ ((List Int) ⊕ Unit)) := (chk (decide ((0 : Int) ≤ x86 ∧ x86 ≤ (l85.length : Int)))).bind fun u88 => (chk (decide ((Int.toNat x86) ≤ l85.length))).bind fun u90 => (chk (decide ((0 : Int) ≤ x86 ∧ x86 ≤ ((List.take (Int.toNat x86) l85 ++ List.replicate (l85.length - (Int.toNat x86)) 0).length : Int)))).bind fun u92 => some (.inr (.inl (List.take (Int.toNat x86) (List.take (Int.toNat x86) l85 ++ List.replicate (l85.length - (Int.toNat x86)) 0))))
def Zi4 (x70 : Int) (l83 : List Int) (x84 : Int) : Option ((List Int × Int × Int) ⊕ ((List Int × Int))) := some (.inl (l83, x84, (IntKind.i64.wrap (x70 + 1))))
def Zi5 (x47 : Int) (l68 : List Int) (x69 : Int) (x70 : Int) : Option ((List Int × Int × Int) ⊕ ((List Int × Int))) := (chk (decide ((Int.toNat x47) ≤ l68.length))).bind fun u72 => cond (decide (x70 < ((List.drop (Int.toNat x47) l68).length : Int))) ((getI (List.drop (Int.toNat x47) l68) x70).bind fun e74 => (getI (List.drop (Int.toNat x47) l68) (IntKind.i64.wrap (x70 - 1))).bind fun e76 => cond (e74 != e76) ((getI (List.drop (Int.toNat x47) l68) x70).bind fun e79 => (getI l68 x69).bind fun e81 => Zi4 x70 (List.set l68 (Int.toNat x69) e79) (IntKind.i64.wrap (x69 + 1))) (Zi4 x70 l68 x69)) (some (.inr (l68, x69)))
def Zi6 (p0 : List Int) (x47 : Int) : Option (Int ⊕ ((List Int) ⊕ Unit)) := cond (decide (x47 < (p0.length : Int))) ((getI p0 x47).bind fun e49 => (getI p0 (IntKind.i64.wrap (x47 - 1))).bind fun e51 => cond (e49 == e51) ((chk (decide ((0 : Int) ≤ x47 ∧ x47 ≤ (p0.length : Int)))).bind fun u55 => (iter (fun z94 => Zi5 x47 z94.1 z94.2.1 z94.2.2) big (p0, x47, 1)).bind fun (y95, y96) => Zi3 y95 y96) (some (.inl (IntKind.i64.wrap (x47 + 1))))) (some (.inr (.inr ())))
def Zi7 (p0 : List Int) : Option (List Int) := cond (decide ((p0.length : Int) < 2)) (some p0) ((iter (Zi6 p0) big 1).bind (fun z98 => match z98 with | .inl y97 => some y97 | .inr () => Zi2 p0))
theorem Zi8 {w00 : Value} (p0 : List Int) (r : List Int) (h : Zi7 p0 = some r) : Ok Tryz.prog 257 [cV w00] [oA w00 2 kI64 1 p0] (fun c qs => ∃ (v93 : Value), c = cV v93 ∧ qs = [oA v93 2 kI64 1 r]) := by
 refine Ok.of_body (rs := [.tmp 2]) Tryz.func257 rfl rfl rfl rfl rfl fun X => ?_
 unfold Zi7 at h
 refine zw ?_
 refine cnd h (fun hb1 h => ?_) fun hb1 h => ?_
 ·
  refine AW.ct hb1 rfl ?_
  refine zw ?_
  refine AW.ret ?_
  rw [← Wj h]
  exact finI ⟨[cV w00], _, Y25.refl _, (.cons (.tmp rfl) .nil), [0], _, _, rfl, ⟨w00, rfl, rfl⟩⟩
 refine AW.cf hb1 rfl ?_
 refine AW.skip ?_
 refine AW.seq ?_
 refine AW.cut (τ := Unit) (fun (_ : Unit) => ⟨[(0, cV w00)], [oA w00 2 kI64 1 p0]⟩) (fun (_ : Unit) => Zi2 p0 = some r) ?_ ?_
 ·
  refine zw ?_
  refine ob' h fun o99 g100 q101 => ?_
  refine AW.loop (τ := Int) (x := 1) (fun x47 => ⟨[(0, cV w00), (3, cI x47)], [oA w00 2 kI64 1 p0]⟩) (fun k x47 => iter (Zi6 p0) k x47 = some o99) g100 (Y25.both (ns := [0]) rfl rfl) ?_
  intro k x47 i103
  refine Y4f (show iter (Zi6 p0) k x47 = some o99 from i103) fun k102 y104 hlt_k102 h h105 => ?_
  replace h : Zi6 p0 x47 = some y104 := h
  unfold Zi6 at h
  refine zw ?_
  refine cnd h (fun hb48 h => ?_) fun hb48 h => ?_
  ·
   refine AW.ct hb48 rfl ?_
   refine zw ?_
   refine rD [0] [3,8] [] [0,4,8,13,16,20,24,28,33,36] ?_
   refine zw ?_
   refine di h fun e49 g50 h => ?_
   refine zw ?_
   refine di h fun e51 g52 h => ?_
   refine zw ?_
   refine cnd h (fun hb53 h => ?_) fun hb53 h => ?_
   ·
    refine AW.ct hb53 rfl ?_
    refine zw ?_
    refine ob' h fun u55 c54 h => ?_
    refine Ops.v rfl (Y79 (p := 0) (l := (Int.toNat x47)) Yaj.h rfl rfl rfl (Wo (Y45 c54)) rfl rfl) ?_
    refine Ops.v rfl (Ys rfl rfl) ?_
    refine Ops.nil ?_
    refine AW.seq ?_
    refine AW.cut (τ := List Int × Int) (fun (l85, x86) => ⟨[(0, cV w00), (3, cI x86)], [oA w00 2 kI64 1 l85]⟩) (fun (l85, x86) => Zi3 l85 x86 = some y104) ?_ ?_
    ·
     refine zw ?_
     refine ob' h fun o106 g107 q108 => ?_
     refine AW.loop (τ := List Int × Int × Int) (x := (p0, x47, 1)) (fun (l68, x69, x70) => ⟨[(0, cV w00), (3, cI x69), (4, cV (dropV w00 1 (Int.toNat x47))), (5, cI x70)], [oA w00 2 kI64 1 l68]⟩) (fun k (l68, x69, x70) => iter (fun z94 => Zi5 x47 z94.1 z94.2.1 z94.2.2) k (l68, x69, x70) = some o106) g107 (Y25.both (ns := [0]) rfl rfl) ?_
     rintro k ⟨l68, x69, x70⟩ i110
     refine Y4f (show iter (fun z94 => Zi5 x47 z94.1 z94.2.1 z94.2.2) k (l68, x69, x70) = some o106 from i110) fun k109 y111 hlt_k109 h h112 => ?_
     replace h : Zi5 x47 l68 x69 x70 = some y111 := h
     unfold Zi5 at h
     refine zw ?_
     refine ob' h fun u72 c71 h => ?_
     refine Ops.v rfl (Y7b (p := 0) Yaj.h rfl rfl (Wo (Y45 c71)) rfl) ?_
     refine zw ?_
     refine cnd h (fun hb73 h => ?_) fun hb73 h => ?_
     ·
      refine AW.ct hb73 rfl ?_
      refine AW.skip ?_
      refine AW.seq ?_
      refine AW.cut (τ := List Int × Int) (fun (l83, x84) => ⟨[(0, cV w00), (3, cI x84), (4, cV (dropV w00 1 (Int.toNat x47))), (5, cI x70)], [oA w00 2 kI64 1 l83]⟩) (fun (l83, x84) => Zi4 x70 l83 x84 = some y111) ?_ ?_
      ·
       refine zw ?_
       refine rD [0] [3,8] [] [0,4,8,13,16,20,24,28,33,36] ?_
       refine zw ?_
       refine ob' h fun e74 g75 h => ?_
       refine OpsD.v rfl rfl (Y7c (p := 0) Yaj.h rfl rfl rfl g75 rfl) ?_
       refine OpsD.v rfl rfl (Y3c (p := 0) ld_2.h rfl rfl (Y7d g75) rfl rfl) ?_
       refine zw ?_
       refine ob' h fun e76 g77 h => ?_
       refine OpsD.v rfl rfl (Y7c (p := 0) Yaj.h rfl rfl rfl g77 rfl) ?_
       refine OpsD.v rfl rfl (Y3c (p := 0) ld_2.h rfl rfl (Y7d g77) rfl rfl) ?_
       refine zw ?_
       refine cnd h (fun hb78 h => ?_) fun hb78 h => ?_
       ·
        refine AW.ct hb78 rfl ?_
        refine zw ?_
        refine ob' h fun e79 g80 h => ?_
        refine Ops.v rfl (Y7c (p := 0) Yaj.h rfl rfl rfl g80 rfl) ?_
        refine Ops.v rfl (Y3c (p := 0) ld_2.h rfl rfl (Y7d g80) rfl rfl) ?_
        refine oi h fun e81 g82 h => ?_
        refine Ops.hd (ns := [0]) rfl rfl (Y3f (e' := e79) ld_2.h rfl rfl (One.val rfl) (Y2f g82).2.2 rfl rfl) ?_
        refine zw ?_
        exact ⟨((List.set l68 (Int.toNat x69) e79), (IntKind.i64.wrap (x69 + 1))), h, Y25.both (ns := [0]) rfl rfl⟩
       refine AW.cf hb78 rfl ?_
       refine zw ?_
       exact ⟨(l68, x69), h, Y25.both (ns := [0]) rfl rfl⟩
      rintro ⟨l83, x84⟩ h
      replace h : Zi4 x70 l83 x84 = some y111 := h
      unfold Zi4 at h
      refine zw ?_
      obtain rfl := Wj h
      exact ⟨k109, (l83, x84, (IntKind.i64.wrap (x70 + 1))), hlt_k109, h112, Y25.both (ns := [0]) rfl rfl⟩
     refine AW.cf hb73 rfl ?_
     refine AW.exit ?_
     obtain rfl := Wj h
     obtain rfl := Wj h112
     replace h := q108
     exact ⟨(l68, x69), h, Y25.both (ns := [0]) rfl rfl⟩
    rintro ⟨l85, x86⟩ h
    replace h : Zi3 l85 x86 = some y104 := h
    unfold Zi3 at h
    refine zw ?_
    refine ob' h fun u88 c87 h => ?_
    refine Ops.v rfl (Y79 (p := 0) (l := (Int.toNat x86)) Yaj.h rfl rfl rfl (Wo (Y45 c87)) rfl rfl) ?_
    refine ob' h fun u90 c89 h => ?_
    refine Ops.hd (ns := [0]) rfl rfl (Y7h (z := 0) Yai ze_2 (Y4g rfl rfl) rfl (Wo (Y45 c89))) ?_
    refine zw ?_
    refine ob' h fun u92 c91 h => ?_
    refine Ops.v rfl (Y7a (p := 0) (l := (Int.toNat x86)) Yaj.h rfl rfl rfl (Wo (Y45 c91)) rfl rfl) ?_
    refine zw ?_
    refine AW.ret ?_
    obtain rfl := Wj h
    obtain rfl := Wj h105
    replace h := q101
    rw [← Wj h]
    exact finI ⟨[cV (takeV w00 (Int.toNat x86))], _, Y25.prefix (p := 0) (h := (Int.toNat x86)) rfl (Int.le_toNat_len c91), (.cons (.tmp rfl) .nil), [0], _, _, rfl, ⟨(takeV w00 (Int.toNat x86)), rfl, rfl⟩⟩
   refine AW.cf hb53 rfl ?_
   refine zw ?_
   obtain rfl := Wj h
   exact ⟨k102, (IntKind.i64.wrap (x47 + 1)), hlt_k102, h105, Y25.both (ns := [0]) rfl rfl⟩
  refine AW.cf hb48 rfl ?_
  refine AW.exit ?_
  obtain rfl := Wj h
  obtain rfl := Wj h105
  replace h := q101
  exact ⟨(), h, Y25.both (ns := [0]) rfl rfl⟩
 rintro ⟨⟩ h
 replace h : Zi2 p0 = some r := h
 unfold Zi2 at h
 refine zw ?_
 refine AW.ret ?_
 rw [← Wj h]
 exact finI ⟨[cV w00], _, Y25.refl _, (.cons (.tmp rfl) .nil), [0], _, _, rfl, ⟨w00, rfl, rfl⟩⟩
instance Zi9 (p0 : List Int) : SpO Tryz.prog 257 (Zi7 p0) (.x fun (w00 : Value) => .d [cV w00] [oA w00 2 kI64 1 p0] fun r => .x fun (v93 : Value) => .d (cV v93) [oA v93 2 kI64 1 r]) := ⟨fun w00 r h => Zi8 p0 r h⟩

def Zia (p0 : List Int) : Option (List Int) := (chk (decide (p0.length < 4611686018427387904))).bind fun u2 => (Zi7 (List.mergeSort p0 (fun x y => decide (x ≤ y)))).bind fun r3 => some r3
instance Zib (p0 : List Int) : SpO Tryz.prog 228 (Zia p0) (.x fun (w00 : Value) => .d [cV w00] [oA w00 2 kI64 1 p0] fun r => .x fun (v6 : Value) => .d (cV v6) [oA v6 2 kI64 1 r]) := ⟨fun w00 => so Tryz.func228 rfl rfl fun r X h => gh (.k .z)⟩
def Zic (p0 : Int) (q0 : Y9j) : Option Bool := (Z9f q0.prev p0).bind fun r1 => some r1
instance Zid (p0 : Int) (q0 : Y9j) : SpO Tryz.prog 231 (Zic p0 q0) (.x fun (b00 : Nat) => .d [cI p0, pt b00] [oB b00 42 [cI q0.id, cI q0.room, cI q0.author, cI q0.kind, cI q0.key, cI q0.n, C.str q0.text, cM kI64 1 q0.prev, cI q0.time]] fun r => .d (C.bool r) [oB b00 42 [cI q0.id, cI q0.room, cI q0.author, cI q0.kind, cI q0.key, cI q0.n, C.str q0.text, cM kI64 1 q0.prev, cI q0.time]]) := ⟨fun b00 => so Tryz.func231 rfl rfl fun r X h => gh .z⟩

def Zie : Option Int := some (-1)
def Zif (p0 : List Int) (p1_0 : Y9j) (x7 : Int) : Option (Int ⊕ (Int ⊕ Unit)) := cond (decide (x7 < (p0.length : Int))) ((getI p0 x7).bind fun e9 => (Zic e9 p1_0).bind fun r11 => cond r11 (some (.inr (.inl x7))) (some (.inl (IntKind.i64.wrap (x7 + 1))))) (some (.inr (.inr ())))
def Zig (p0 : List Int) (p1_0 : Y9j) : Option Int := (iter (Zif p0 p1_0) big 0).bind (fun z15 => match z15 with | .inl y14 => some y14 | .inr () => Zie)
instance Zih (p0 : List Int) (p1_0 : Y9j) : SpO Tryz.prog 237 (Zig p0 p1_0) (.x fun (w00 : Value) => .x fun (b01 : Nat) => .d [cV w00, C.clo 231 [pt b01]] [oA w00 2 kI64 1 p0, oB b01 42 [cI p1_0.id, cI p1_0.room, cI p1_0.author, cI p1_0.kind, cI p1_0.key, cI p1_0.n, C.str p1_0.text, cM kI64 1 p1_0.prev, cI p1_0.time]] fun r => .d (cI r) [oA w00 2 kI64 1 p0, oB b01 42 [cI p1_0.id, cI p1_0.room, cI p1_0.author, cI p1_0.kind, cI p1_0.key, cI p1_0.n, C.str p1_0.text, cM kI64 1 p1_0.prev, cI p1_0.time]]) := ⟨fun w00 b01 => so Tryz.func237 rfl rfl fun r X h => gh (.q 1 (.c0 (.d [] []) [] [0,1] (.l1 (fun x7 => .d [(8, cI x7)] []) [0,1,7] [0,1] .z) .z))⟩

def Zii (l27 : List Int) (x28 : Int) : Option (List Int) := (chk (decide ((0 : Int) ≤ x28 ∧ x28 ≤ (l27.length : Int)))).bind fun u30 => (chk (decide ((Int.toNat x28) ≤ l27.length))).bind fun u32 => (chk (decide ((0 : Int) ≤ x28 ∧ x28 ≤ ((List.take (Int.toNat x28) l27 ++ List.replicate (l27.length - (Int.toNat x28)) 0).length : Int)))).bind fun u34 => some (List.take (Int.toNat x28) (List.take (Int.toNat x28) l27 ++ List.replicate (l27.length - (Int.toNat x28)) 0))
def Zij (x16 : Int) (l25 : List Int) (x26 : Int) : Option ((List Int × Int × Int) ⊕ ((List Int × Int))) := some (.inl (l25, x26, (IntKind.i64.wrap (x16 + 1))))
def Zik (p1_0 : Y9j) (l14 : List Int) (x15 : Int) (x16 : Int) : Option ((List Int × Int × Int) ⊕ ((List Int × Int))) := cond (decide (x16 < (l14.length : Int))) ((getI l14 x16).bind fun e18 => (Zic e18 p1_0).bind fun r20 => cond r20 (Zij x16 l14 x15) ((getI l14 x15).bind fun e23 => Zij x16 (List.set l14 (Int.toNat x15) e18) (IntKind.i64.wrap (x15 + 1)))) (some (.inr (l14, x15)))
def Zil (p0 : List Int) (p1_0 : Y9j) : Option (List Int) := (Zig p0 p1_0).bind fun r1 => cond (r1 == (-1)) (some p0) ((iter (fun z36 => Zik p1_0 z36.1 z36.2.1 z36.2.2) big (p0, r1, (IntKind.i64.wrap (r1 + 1)))).bind fun (y37, y38) => Zii y37 y38)
theorem Zim {w00 : Value} {b01 : Nat} (p0 : List Int) (p1_0 : Y9j) (r : List Int) (h : Zil p0 p1_0 = some r) : Ok Tryz.prog 230 [cV w00, C.clo 231 [pt b01]] [oA w00 2 kI64 1 p0, oB b01 42 [cI p1_0.id, cI p1_0.room, cI p1_0.author, cI p1_0.kind, cI p1_0.key, cI p1_0.n, C.str p1_0.text, cM kI64 1 p1_0.prev, cI p1_0.time]] (fun c qs => ∃ (v35 : Value), c = cV v35 ∧ qs = [oA v35 2 kI64 1 r, oB b01 42 [cI p1_0.id, cI p1_0.room, cI p1_0.author, cI p1_0.kind, cI p1_0.key, cI p1_0.n, C.str p1_0.text, cM kI64 1 p1_0.prev, cI p1_0.time]]) := by
 refine Ok.of_body (rs := [.tmp 4]) Tryz.func230 rfl rfl rfl rfl rfl fun X => ?_
 unfold Zil at h
 refine zw ?_
 refine ob' h fun r1 g2 h => ?_
 refine Ops.hd (ns := [0, 0]) rfl rfl (Y28 ((Zih p0 p1_0).h _ _ _ g2) rfl rfl) ?_
 refine zw ?_
 refine cnd h (fun hb3 h => ?_) fun hb3 h => ?_
 ·
  refine AW.ct hb3 rfl ?_
  refine zw ?_
  refine AW.ret ?_
  rw [← Wj h]
  exact finI ⟨[cV w00], _, Y25.refl _, (.cons (.tmp rfl) .nil), [0, 0], _, _, rfl, ⟨w00, rfl, rfl⟩⟩
 refine AW.cf hb3 rfl ?_
 refine AW.skip ?_
 refine AW.seq ?_
 refine AW.cut (τ := List Int × Int) (fun (l27, x28) => ⟨[(0, cV w00), (5, cI x28)], [oA w00 2 kI64 1 l27, oB b01 42 [cI p1_0.id, cI p1_0.room, cI p1_0.author, cI p1_0.kind, cI p1_0.key, cI p1_0.n, C.str p1_0.text, cM kI64 1 p1_0.prev, cI p1_0.time]]⟩) (fun (l27, x28) => Zii l27 x28 = some r) ?_ ?_
 ·
  refine zw ?_
  refine ob' h fun o39 g40 q41 => ?_
  refine AW.loop (τ := List Int × Int × Int) (x := (p0, r1, (IntKind.i64.wrap (r1 + 1)))) (fun (l14, x15, x16) => ⟨[(0, cV w00), (1, C.clo 231 [pt b01]), (5, cI x15), (6, cI x16)], [oA w00 2 kI64 1 l14, oB b01 42 [cI p1_0.id, cI p1_0.room, cI p1_0.author, cI p1_0.kind, cI p1_0.key, cI p1_0.n, C.str p1_0.text, cM kI64 1 p1_0.prev, cI p1_0.time]]⟩) (fun k (l14, x15, x16) => iter (fun z36 => Zik p1_0 z36.1 z36.2.1 z36.2.2) k (l14, x15, x16) = some o39) g40 (Y25.both (ns := [0, 0]) rfl rfl) ?_
  rintro k ⟨l14, x15, x16⟩ i43
  refine Y4f (show iter (fun z36 => Zik p1_0 z36.1 z36.2.1 z36.2.2) k (l14, x15, x16) = some o39 from i43) fun k42 y44 hlt_k42 h h45 => ?_
  replace h : Zik p1_0 l14 x15 x16 = some y44 := h
  unfold Zik at h
  refine zw ?_
  refine cnd h (fun hb17 h => ?_) fun hb17 h => ?_
  ·
   refine AW.ct hb17 rfl ?_
   refine AW.skip ?_
   refine AW.seq ?_
   refine AW.cut (τ := List Int × Int) (fun (l25, x26) => ⟨[(0, cV w00), (1, C.clo 231 [pt b01]), (5, cI x26), (6, cI x16)], [oA w00 2 kI64 1 l25, oB b01 42 [cI p1_0.id, cI p1_0.room, cI p1_0.author, cI p1_0.kind, cI p1_0.key, cI p1_0.n, C.str p1_0.text, cM kI64 1 p1_0.prev, cI p1_0.time]]⟩) (fun (l25, x26) => Zij x16 l25 x26 = some y44) ?_ ?_
   ·
    refine zw ?_
    refine oi h fun e18 g19 h => ?_
    refine zw ?_
    refine ob' h fun r20 g21 h => ?_
    refine Ops.hd (ns := [1]) rfl rfl (Y6x (cs := [_]) (ds := [_]) rfl ((Zid e18 p1_0).h _ _ g21) rfl rfl) ?_
    refine zw ?_
    refine cnd h (fun hb22 h => ?_) fun hb22 h => ?_
    ·
     refine AW.cond rfl (fun hn => absurd ((Y46 hb22).symm.trans hn) (by decide)) (fun _ => ?_)
     refine zw ?_
     exact ⟨(l14, x15), h, Y25.both (ns := [1, 0]) rfl rfl⟩
    refine AW.cond rfl (fun _ => ?_) (fun hn => absurd ((Y47 hb22).symm.trans hn) (by decide))
    refine zw ?_
    refine ob' h fun e23 g24 h => ?_
    refine zw ?_
    refine Ops.hd (ns := [1]) rfl rfl (Y3f (e' := e18) ld_2.h rfl rfl (One.val rfl) (Y2f g24).2.2 rfl rfl) ?_
    refine zw ?_
    exact ⟨((List.set l14 (Int.toNat x15) e18), (IntKind.i64.wrap (x15 + 1))), h, Y25.both (ns := [0, 0]) rfl rfl⟩
   rintro ⟨l25, x26⟩ h
   replace h : Zij x16 l25 x26 = some y44 := h
   unfold Zij at h
   refine zw ?_
   obtain rfl := Wj h
   exact ⟨k42, (l25, x26, (IntKind.i64.wrap (x16 + 1))), hlt_k42, h45, Y25.both (ns := [0, 0]) rfl rfl⟩
  refine AW.cf hb17 rfl ?_
  refine AW.exit ?_
  obtain rfl := Wj h
  obtain rfl := Wj h45
  replace h := q41
  exact ⟨(l14, x15), h, Y25.both (ns := [0, 0]) rfl rfl⟩
 rintro ⟨l27, x28⟩ h
 replace h : Zii l27 x28 = some r := h
 unfold Zii at h
 refine zw ?_
 refine ob' h fun u30 c29 h => ?_
 refine Ops.v rfl (Y79 (p := 0) (l := (Int.toNat x28)) Yaj.h rfl rfl rfl (Wo (Y45 c29)) rfl rfl) ?_
 refine ob' h fun u32 c31 h => ?_
 refine Ops.hd (ns := [0]) rfl rfl (Y7h (z := 0) Yai ze_2 (Y4g rfl rfl) rfl (Wo (Y45 c31))) ?_
 refine zw ?_
 refine ob' h fun u34 c33 h => ?_
 refine Ops.v rfl (Y7a (p := 0) (l := (Int.toNat x28)) Yaj.h rfl rfl rfl (Wo (Y45 c33)) rfl rfl) ?_
 refine zw ?_
 refine AW.ret ?_
 rw [← Wj h]
 exact finI ⟨[cV (takeV w00 (Int.toNat x28))], _, Y25.prefix (p := 0) (h := (Int.toNat x28)) rfl (Int.le_toNat_len c33), (.cons (.tmp rfl) .nil), [0, 0], _, _, rfl, ⟨(takeV w00 (Int.toNat x28)), rfl, rfl⟩⟩
instance Zin (p0 : List Int) (p1_0 : Y9j) : SpO Tryz.prog 230 (Zil p0 p1_0) (.x fun (w00 : Value) => .x fun (b01 : Nat) => .d [cV w00, C.clo 231 [pt b01]] [oA w00 2 kI64 1 p0, oB b01 42 [cI p1_0.id, cI p1_0.room, cI p1_0.author, cI p1_0.kind, cI p1_0.key, cI p1_0.n, C.str p1_0.text, cM kI64 1 p1_0.prev, cI p1_0.time]] fun r => .x fun (v35 : Value) => .d (cV v35) [oA v35 2 kI64 1 r, oB b01 42 [cI p1_0.id, cI p1_0.room, cI p1_0.author, cI p1_0.kind, cI p1_0.key, cI p1_0.n, C.str p1_0.text, cM kI64 1 p1_0.prev, cI p1_0.time]]) := ⟨fun w00 b01 r h => Zim p0 p1_0 r h⟩

def Zio (l29 : List Int) : Option (List Int) := some l29
def Zip (p0 : Y9p) (p1 : List Int) (l17 : List Int) (x18 : Int) : Option ((List Int × Int) ⊕ ((List Int))) := cond (decide (x18 < (p1.length : Int))) ((getI p1 x18).bind fun e20 => (Zbx p0.graph e20).bind fun r22 => (Zil l17 r22.1).bind fun r25 => some (.inl (r25, (IntKind.i64.wrap (x18 + 1))))) (some (.inr l17))
def Ziq (p0 : Y9p) (p1 : List Int) : Option (List Int) := (Zg6 p1).bind fun r1 => (Zia r1).bind fun r4 => (iter (fun z31 => Zip p0 p1 z31.1 z31.2) big (r4, 0)).bind fun y32 => Zio y32
instance Zir (p0 : Y9p) (p1 : List Int) : SpO Tryz.prog 171 (Ziq p0 p1) (.x fun (b00 : Nat) => .x fun (b01 : Nat) => .x fun (b02 : Nat) => .x fun (b03 : Nat) => .x fun (b04 : Nat) => .d [pt b00, cM kI64 1 p1] [oB b00 100 [cI p0.graph.room, cM Y9q 9 p0.graph.events, cM Y9q 9 p0.graph.parked, mt b01, mt b02, mt b03, mt b04], Abs.Obj.map b01 .i64 Y9u p0.depth, Abs.Obj.map b02 .i64 Y9v p0.before, Abs.Obj.map b03 .i64 Y9v p0.after, Abs.Obj.map b04 .i64 Y9u p0.refused] fun r => .x fun (v30 : Value) => .d (cV v30) [oA v30 2 kI64 1 r, oB b00 100 [cI p0.graph.room, cM Y9q 9 p0.graph.events, cM Y9q 9 p0.graph.parked, mt b01, mt b02, mt b03, mt b04], Abs.Obj.map b01 .i64 Y9u p0.depth, Abs.Obj.map b02 .i64 Y9v p0.before, Abs.Obj.map b03 .i64 Y9v p0.after, Abs.Obj.map b04 .i64 Y9u p0.refused]) := ⟨fun b00 b01 b02 b03 b04 => so Tryz.func171 rfl rfl fun r X h => gh (.k (.k (.c1 (fun l29 => .x fun v28 => .d [(5, cV v28)] [oA v28 2 kI64 1 l29]) [] [1,2,3,4,5] (.l2 (fun l17 x18 => .x fun v16 => .d [(5, cV v16), (15, cI x18)] [oA v16 2 kI64 1 l17]) [0,13,14] [1,2,3,4,5] .z) .z)))⟩

def Zis (p0 : Y9p) : Option (List Int) := (Zi0 p0).bind fun r1 => (Ziq p0 r1).bind fun r4 => some r4
instance Zit (p0 : Y9p) : SpO Tryz.prog 91 (Zis p0) (.x fun (b00 : Nat) => .x fun (b01 : Nat) => .x fun (b02 : Nat) => .x fun (b03 : Nat) => .x fun (b04 : Nat) => .d [pt b00] [oB b00 100 [cI p0.graph.room, cM Y9q 9 p0.graph.events, cM Y9q 9 p0.graph.parked, mt b01, mt b02, mt b03, mt b04], Abs.Obj.map b01 .i64 Y9u p0.depth, Abs.Obj.map b02 .i64 Y9v p0.before, Abs.Obj.map b03 .i64 Y9v p0.after, Abs.Obj.map b04 .i64 Y9u p0.refused] fun r => .x fun (v7 : Value) => .d (cV v7) [oA v7 2 kI64 1 r, oB b00 100 [cI p0.graph.room, cM Y9q 9 p0.graph.events, cM Y9q 9 p0.graph.parked, mt b01, mt b02, mt b03, mt b04], Abs.Obj.map b01 .i64 Y9u p0.depth, Abs.Obj.map b02 .i64 Y9v p0.before, Abs.Obj.map b03 .i64 Y9v p0.after, Abs.Obj.map b04 .i64 Y9u p0.refused]) := ⟨fun b00 b01 b02 b03 b04 => so Tryz.func91 rfl rfl fun r X h => gh (.f 5 [] .z)⟩

def Ziu (p0 : Y9p) : Option (List Y9m) := (Zis p0).bind fun r1 => (Zdu p0 r1).bind fun r4 => (Zg4 p0 r4).bind fun r7 => some r7
instance Ziv (p0 : Y9p) : SpO Tryz.prog 88 (Ziu p0) (.x fun (b00 : Nat) => .x fun (b01 : Nat) => .x fun (b02 : Nat) => .x fun (b03 : Nat) => .x fun (b04 : Nat) => .d [pt b00] [oB b00 100 [cI p0.graph.room, cM Y9q 9 p0.graph.events, cM Y9q 9 p0.graph.parked, mt b01, mt b02, mt b03, mt b04], Abs.Obj.map b01 .i64 Y9u p0.depth, Abs.Obj.map b02 .i64 Y9v p0.before, Abs.Obj.map b03 .i64 Y9v p0.after, Abs.Obj.map b04 .i64 Y9u p0.refused] fun r => .d (cM Y9r 3 r) [oB b00 100 [cI p0.graph.room, cM Y9q 9 p0.graph.events, cM Y9q 9 p0.graph.parked, mt b01, mt b02, mt b03, mt b04], Abs.Obj.map b01 .i64 Y9u p0.depth, Abs.Obj.map b02 .i64 Y9v p0.before, Abs.Obj.map b03 .i64 Y9v p0.after, Abs.Obj.map b04 .i64 Y9u p0.refused]) := ⟨fun b00 b01 b02 b03 b04 => so Tryz.func88 rfl rfl fun r X h => gh (.f 6 [] (.f 7 [] .z))⟩

def Ziw (p0 : Y9k) : Option (List Y9m) := (Zbi p0).bind fun r2 => cond r2 ((Zgn p0).bind fun r5 => (Ziu r5).bind fun r12 => some r12) (some [])
instance Zix (p0 : Y9k) : Sp Tryz.prog 19 [C.agg [cI p0.room, cM Y9q 9 p0.events, cM Y9q 9 p0.parked]] (Ziw p0) (fun r => cM Y9r 3 r) := Sp.of (so Tryz.func19 rfl rfl fun r X h => gh (.b (.k .z) .z))

def Ziy (l164 : List Int) : Option (List Int) := some l164
def Ziz (x79 : Int) (l162 : List Int) : Option ((List Int × Int) ⊕ ((List Int))) := some (.inl (l162, (IntKind.i64.wrap (x79 + 1))))
def Zj0 (p0 : Y9k) (l78 : List Int) (x79 : Int) (x153 : Bool) : Option ((List Int × Int) ⊕ ((List Int))) := cond x153 ((getI p0.events x79).bind fun e155 => (chk (decide ((l78.length + [e155.id].length) * 8 ≤ 140737488355328))).bind fun u159 => Ziz x79 (l78 ++ [e155.id])) (Ziz x79 l78)
def Zj1 (x118 : Int) (x152 : Bool) : Option ((Bool × Int) ⊕ (Bool)) := some (.inl (x152, (IntKind.i64.wrap (x118 + 1))))
def Zj2 (x136 : Int) (x151 : Bool) : Option ((Bool × Int) ⊕ (Bool)) := some (.inl (x151, (IntKind.i64.wrap (x136 + 1))))
def Zj3 (p0 : Y9k) (x79 : Int) (x118 : Int) (x135 : Bool) (x136 : Int) (x142 : Bool) : Option ((Bool × Int) ⊕ (Bool)) := cond x142 (cond x135 ((getI p0.events x118).bind fun e145 => (getI e145.prev x136).bind fun e147 => (getI p0.events x79).bind fun e149 => Zj2 x136 (e147 != e149.id)) (Zj2 x136 false)) (some (.inr x135))
def Zj4 (p0 : Y9k) (p1 : List Bool) (x79 : Int) (x118 : Int) (x135 : Bool) (x136 : Int) : Option ((Bool × Int) ⊕ (Bool)) := (getI p1 x118).bind fun e137 => cond e137 ((getI p0.events x118).bind fun e140 => Zj3 p0 x79 x118 x135 x136 (decide (x136 < (e140.prev.length : Int)))) (Zj3 p0 x79 x118 x135 x136 false)
def Zj5 (p0 : Y9k) (p1 : List Bool) (x79 : Int) (x117 : Bool) (x118 : Int) : Option ((Bool × Int) ⊕ (Bool)) := cond (decide (x118 < (p0.events.length : Int))) ((iter (fun z166 => Zj4 p0 p1 x79 x118 z166.1 z166.2) big (x117, 0)).bind fun y167 => Zj1 x118 y167) (some (.inr x117))
def Zj6 (p0 : Y9k) (p1 : List Bool) (l78 : List Int) (x79 : Int) : Option ((List Int × Int) ⊕ ((List Int))) := cond (decide (x79 < (p0.events.length : Int))) ((getI p1 x79).bind fun e81 => (iter (fun z168 => Zj5 p0 p1 x79 z168.1 z168.2) big (e81, 0)).bind fun y169 => Zj0 p0 l78 x79 y169) (some (.inr l78))
def Zj7 (p0 : Y9k) (p1 : List Bool) : Option (List Int) := (iter (fun z170 => Zj6 p0 p1 z170.1 z170.2) big (([] : List Int), 0)).bind fun y171 => Ziy y171
instance Zj8 (p0 : Y9k) (p1 : List Bool) : SpO Tryz.prog 92 (Zj7 p0 p1) (.d [C.agg [cI p0.room, cM Y9q 9 p0.events, cM Y9q 9 p0.parked], cM Y9t 1 p1] [] fun r => .x fun (v165 : Value) => .d (cV v165) [oA v165 2 kI64 1 r]) := ⟨so Tryz.func92 rfl rfl fun r X h => gh (.q 2 (.c1 (fun l164 => .x fun v163 => .d [(5, cV v163)] [oA v163 2 kI64 1 l164]) [] [] (.l2 (fun l78 x79 => .x fun v77 => .d [(5, cV v77), (6, cI x79)] [oA v77 2 kI64 1 l78]) [1,2] [1] (.b (.c1 (fun l162 => .x fun v161 => .d [(5, cV v161)] [oA v161 2 kI64 1 l162]) [1,2,6] [1] (.q 1 (.c1 (fun x153 => .d [(7, C.bool x153)] []) [1,2,5,6] [1,0] (.l2 (fun x117 x118 => .d [(7, C.bool x117), (8, cI x118)] []) [1,2,5,6] [1,0] (.b (.c1 (fun x152 => .d [(7, C.bool x152)] []) [1,2,5,6,8] [0,1] (.l2 (fun x135 x136 => .d [(7, C.bool x135), (9, cI x136)] []) [1,2,5,6,8] [0,1] (.q 1 (.c1 (fun x142 => .d [(43, C.bool x142)] []) [1,2,5,6,7,8,9] [0,1] .z (.b (.c1 (fun x151 => .d [(7, C.bool x151)] []) [1,2,5,6,8,9] [0,1] (.r [0,0] [3,7,10,12,16] [] [0,4,8,13,16,20,24,29,32,36,41,44,49,52,56,60,65,68,72,76] .z) .z) .z)))) .z) .z)) .z)) .z) .z)) .z))⟩
instance Zj8' (p0 : Y9k) (p1 : List Bool) : Sp Tryz.prog 92 [C.agg [cI p0.room, cM Y9q 9 p0.events, cM Y9q 9 p0.parked], cM Y9t 1 p1] (Zj7 p0 p1) (fun r => cM kI64 1 r) := ⟨fun r h => Ok.freeze ((Zj8 p0 p1).h r h) (by rintro c qs ⟨v165, rfl, rfl⟩; exact Frz.arr)⟩

def Zj9 (l16 : List Bool) : Option (List Bool) := some l16
def Zja (p0 : Y9n) (l9 : List Bool) (x10 : Int) : Option ((List Bool × Int) ⊕ ((List Bool))) := cond (decide (x10 < (l9.length : Int))) ((getI p0.code x10).bind fun e12 => (getI l9 x10).bind fun e14 => some (.inl ((List.set l9 (Int.toNat x10) (e12 == 0)), (IntKind.i64.wrap (x10 + 1))))) (some (.inr l9))
def Zjb (p0 : Y9n) : Option (List Bool) := (chk (decide (0 ≤ (p0.code.length : Int) ∧ (p0.code.length : Int) * 1 ≤ 140737488355328))).bind fun u2 => (iter (fun z18 => Zja p0 z18.1 z18.2) big ((List.replicate (Int.toNat (p0.code.length : Int)) false), 0)).bind fun y19 => Zj9 y19
instance Zjc (p0 : Y9n) : SpO Tryz.prog 90 (Zjb p0) (.x fun (b00 : Nat) => .x fun (w01 : Value) => .x fun (w02 : Value) => .x fun (w03 : Value) => .d [pt b00] [oB b00 106 [cM kI64 1 p0.depths, cV w01, cV w02, cV w03], oA w01 29 Y9s 1 p0.ahead, oA w02 29 Y9s 1 p0.behind, oA w03 2 kI64 1 p0.code] fun r => .x fun (v17 : Value) => .d (cV v17) [oA v17 4 Y9t 1 r, oB b00 106 [cM kI64 1 p0.depths, cV w01, cV w02, cV w03], oA w01 29 Y9s 1 p0.ahead, oA w02 29 Y9s 1 p0.behind, oA w03 2 kI64 1 p0.code]) := ⟨fun b00 w01 w02 w03 => so Tryz.func90 rfl rfl fun r X h => gh (.q 2 (.a 0 fun w0 => .c1 (fun l16 => .d [] [oA w0 4 Y9t 1 l16]) [3] [1,2,3,4] (.A 0 fun w0 => .l2 (fun l9 x10 => .d [(4, cI x10)] [oA w0 4 Y9t 1 l9]) [0,3] [1,2,3,4] .z) .z))⟩

def Zjd (p0 : Y9k) (p1 : Y9n) (l57 : List (List Y9m)) : Option (List Y9m) := (Z7c p0 p1.depths l57).bind fun r63 => some r63
def Zje (p0 : Y9k) (p1 : Y9n) (r2 : List Int) (l30 : List (List Y9m)) (x31 : Int) : Option ((List (List Y9m) × Int) ⊕ ((List (List Y9m)))) := cond (decide (x31 < (r2.length : Int))) ((getI r2 x31).bind fun e46 => (Zr p0.events e46).bind fun r48 => (getI p1.behind r48).bind fun e50 => (chk (decide ((l30.length + [e50].length) * 24 ≤ 140737488355328))).bind fun u54 => some (.inl ((l30 ++ [e50]), (IntKind.i64.wrap (x31 + 1))))) (some (.inr l30))
def Zjf (p0 : Y9k) (p1 : Y9n) (p2 : List Bool) : Option (List Y9m) := (Zj7 p0 p2).bind fun r2 => (iter (fun z66 => Zje p0 p1 r2 z66.1 z66.2) big (([] : List (List Y9m)), 0)).bind fun y67 => Zjd p0 p1 y67
instance Zjg (p0 : Y9k) (p1 : Y9n) (p2 : List Bool) : SpO Tryz.prog 89 (Zjf p0 p1 p2) (.x fun (b00 : Nat) => .x fun (w01 : Value) => .x fun (w02 : Value) => .x fun (w03 : Value) => .d [C.agg [cI p0.room, cM Y9q 9 p0.events, cM Y9q 9 p0.parked], pt b00, cM Y9t 1 p2] [oB b00 106 [cM kI64 1 p1.depths, cV w01, cV w02, cV w03], oA w01 29 Y9s 1 p1.ahead, oA w02 29 Y9s 1 p1.behind, oA w03 2 kI64 1 p1.code] fun r => .d (cM Y9r 3 r) [oB b00 106 [cM kI64 1 p1.depths, cV w01, cV w02, cV w03], oA w01 29 Y9s 1 p1.ahead, oA w02 29 Y9s 1 p1.behind, oA w03 2 kI64 1 p1.code]) := ⟨fun b00 w01 w02 w03 => so Tryz.func89 rfl rfl fun r X h => gh (.q 3 (.c1 (fun l57 => .x fun v56 => .d [(8, cV v56)] [oA v56 29 Y9s 1 l57]) [1,3] [2,3,4,5,1] (.l2 (fun l30 x31 => .x fun v29 => .d [(8, cV v29), (9, cI x31)] [oA v29 29 Y9s 1 l30]) [1,3,7] [2,3,4,5,1] (.b (.r [1,1,1,1,1] [4,6,10,13] [] [0,4,8,12,17,20,25,28,32,36,41,46,48,53,58,62,64] .z) .z)) (.r [1,1,1,1,1] [0,4] [] [1,4,8,12,17,20,26,28] (.k (.g 42 [] .z)))))⟩

def Zjh (p0 : Y9k) : Option (List Y9m) := (Z35 p0).bind fun r2 => cond r2 ((Z7u p0).bind fun r6 => (Zjb r6).bind fun r36 => (Zjf p0 r6 r36).bind fun r39 => some r39) (some ([] : List Y9m))
instance Zji (p0 : Y9k) : Sp Tryz.prog 20 [C.agg [cI p0.room, cM Y9q 9 p0.events, cM Y9q 9 p0.parked]] (Zjh p0) (fun r => cM Y9r 3 r) := Sp.of (so Tryz.func20 rfl rfl fun r X h => gh (.b (.k (.r [4] [0] [] [1,4,8,14,18,20] (.f 13 [] .z))) .z))

def Zjj (p0 : Y9k) : Option (List Int) := (Zbi p0).bind fun r2 => cond r2 ((Zgn p0).bind fun r5 => (Zis r5).bind fun r12 => some r12) (some [])
instance Zjk (p0 : Y9k) : SpO Tryz.prog 22 (Zjj p0) (.d [C.agg [cI p0.room, cM Y9q 9 p0.events, cM Y9q 9 p0.parked]] [] fun r => .x fun (v15 : Value) => .d (cV v15) [oA v15 2 kI64 1 r]) := ⟨so Tryz.func22 rfl rfl fun r X h => gh (.b (.k .z) .z)⟩
instance Zjk' (p0 : Y9k) : Sp Tryz.prog 22 [C.agg [cI p0.room, cM Y9q 9 p0.events, cM Y9q 9 p0.parked]] (Zjj p0) (fun r => cM kI64 1 r) := ⟨fun r h => Ok.freeze ((Zjk p0).h r h) (by rintro c qs ⟨v15, rfl, rfl⟩; exact Frz.arr)⟩

def Zjl (p0 : Y9k) : Option (List Int) := (Z35 p0).bind fun r2 => cond r2 ((Z7u p0).bind fun r6 => (Zjb r6).bind fun r12 => (Zj7 p0 r12).bind fun r15 => some r15) (some ([] : List Int))
instance Zjm (p0 : Y9k) : SpO Tryz.prog 23 (Zjl p0) (.d [C.agg [cI p0.room, cM Y9q 9 p0.events, cM Y9q 9 p0.parked]] [] fun r => .x fun (v19 : Value) => .d (cV v19) [oA v19 2 kI64 1 r]) := ⟨so Tryz.func23 rfl rfl fun r X h => gh (.b (.r [0] [0,1] [] [1,5,10,14,18,20] (.k (.k .z))) .z)⟩
instance Zjm' (p0 : Y9k) : Sp Tryz.prog 23 [C.agg [cI p0.room, cM Y9q 9 p0.events, cM Y9q 9 p0.parked]] (Zjl p0) (fun r => cM kI64 1 r) := ⟨fun r h => Ok.freeze ((Zjm p0).h r h) (by rintro c qs ⟨v19, rfl, rfl⟩; exact Frz.arr)⟩

def Zjn : Option Bool := some true
def Zjo (p0 : List Int) (p1 : List Int) (x8 : Int) : Option (Int ⊕ (Bool ⊕ Unit)) := cond (decide (x8 < (p0.length : Int))) ((getI p0 x8).bind fun e10 => (getI p1 x8).bind fun e12 => cond (e10 != e12) (some (.inr (.inl false))) (some (.inl (IntKind.i64.wrap (x8 + 1))))) (some (.inr (.inr ())))
def Zjp (p0 : List Int) (p1 : List Int) : Option Bool := cond ((p0.length : Int) != (p1.length : Int)) (some false) ((iter (Zjo p0 p1) big 0).bind (fun z16 => match z16 with | .inl y15 => some y15 | .inr () => Zjn))
instance Zjq (p0 : List Int) (p1 : List Int) : Sp Tryz.prog 21 [cM kI64 1 p0, cM kI64 1 p1] (Zjp p0 p1) (fun r => C.bool r) := Sp.of (so Tryz.func21 rfl rfl fun r X h => gh (.b .z (.c0 (.d [] []) [] [] (.l1 (fun x8 => .d [(5, cI x8)] []) [0,1] [] (.b (.r [] [3,7] [] [0,4,8,13,16,20,24,29,32] .z) .z)) .z)))

def Zjr (p0 : Y9k) (p1 : Int) : Option Y9j := (Z35 p0).bind fun r3 => cond r3 ((Z7e p0 p1).bind fun r6 => some r6) (some (Y9j.mk 0 0 0 0 0 0 ByteArray.empty [] 0))
instance Zjs (p0 : Y9k) (p1 : Int) : Sp Tryz.prog 24 [C.agg [cI p0.room, cM Y9q 9 p0.events, cM Y9q 9 p0.parked], cI p1] (Zjr p0 p1) (fun r => C.agg [cI r.id, cI r.room, cI r.author, cI r.kind, cI r.key, cI r.n, C.str r.text, cM kI64 1 r.prev, cI r.time]) := Sp.of (so Tryz.func24 rfl rfl fun r X h => gh .z)

def Zjt (p0 : List Y9m) (p1 : Int) (p2 : Int) : Option Int := (Zbv p0).bind fun r1 => cond r1 ((Zec p0 p1 p2).bind fun r4 => some r4) (some 0)
instance Zju (p0 : List Y9m) (p1 : Int) (p2 : Int) : Sp Tryz.prog 25 [cM Y9r 3 p0, cI p1, cI p2] (Zjt p0 p1 p2) (fun r => cI r) := Sp.of (so Tryz.func25 rfl rfl fun r X h => gh .z)

def Zjv (x5 : Bool) : Option Bool := some x5
def Zjw (p0 : Y9k) : Option Bool := (Z35 p0).bind fun r2 => cond r2 (Zjv (decide ((p0.events.length : Int) ≤ 30))) (Zjv false)
instance Zjx (p0 : Y9k) : Sp Tryz.prog 26 [C.agg [cI p0.room, cM Y9q 9 p0.events, cM Y9q 9 p0.parked]] (Zjw p0) (fun r => C.bool r) := Sp.of (so Tryz.func26 rfl rfl fun r X h => gh (.q 1 (.c1 (fun x5 => .d [(2, C.bool x5)] []) [] [] .z .z)))

def Zjy (x135 : Bool) : Option Bool := some x135
def Zjz (r4 : Y9k × List (List Y9m)) (r7 : List Y9m) (l105 : List (List Y9m)) (x109 : Bool) : Option Bool := cond x109 (some true) ((Zgy r4.1 l105).bind fun r113 => (Zhr r113 r7).bind fun r115 => cond r115 (cond ((r4.2.length : Int) == 0) (some true) ((Y2d r4.2 0 1).bind fun s119 => (Zhn r4.1 s119).bind fun r121 => (Y2d r4.2 0 1).bind fun s123 => (Zgy r4.1 s123).bind fun r125 => (Zhr r125 r121).bind fun r127 => cond r127 (cond ((r121.length : Int) == 0) (Zjy true) ((getI r4.2 0).bind fun e131 => (Zhr r121 e131).bind fun r133 => Zjy r133)) (Zjy false))) (some false))
def Zk0 (r4 : Y9k × List (List Y9m)) (r7 : List Y9m) (l105 : List (List Y9m)) : Option Bool := (Zjw r4.1).bind fun r106 => cond r106 (Zjz r4 r7 l105 (decide ((l105.length : Int) > 60))) (Zjz r4 r7 l105 true)
def Zk1 (r4 : Y9k × List (List Y9m)) (l86 : List (List Y9m)) (x87 : Int) : Option ((List (List Y9m) × Int) ⊕ ((List (List Y9m)))) := cond (decide (x87 ≥ 0)) ((getI r4.2 x87).bind fun e98 => (chk (decide ((l86.length + [e98, e98].length) * 24 ≤ 140737488355328))).bind fun u102 => some (.inl ((l86 ++ [e98, e98]), (IntKind.i64.wrap (x87 - 1))))) (some (.inr l86))
def Zk2 (r4 : Y9k × List (List Y9m)) (r7 : List Y9m) (x66 : Bool) : Option Bool := cond x66 (some false) ((iter (fun z136 => Zk1 r4 z136.1 z136.2) big (([] : List (List Y9m)), (IntKind.i64.wrap ((r4.2.length : Int) - 1)))).bind fun y137 => Zk0 r4 r7 y137)
def Zk3 (r4 : Y9k × List (List Y9m)) (r7 : List Y9m) (r9 : Y9k × Int) (r14 : List Y9m) (r16 : Int) (x57 : Bool) : Option Bool := cond x57 (some false) ((Zjr r9.1 r9.2).bind fun r59 => cond (r16 == 0) (cond (decide (r59.kind ≤ 6)) ((Zjt r14 r59.kind r59.key).bind fun r64 => Zk2 r4 r7 (r64 != r9.2)) (Zk2 r4 r7 false)) (Zk2 r4 r7 false))
def Zk4 (r4 : Y9k × List (List Y9m)) (r7 : List Y9m) (r9 : Y9k × Int) (r12 : List Y9m) (r14 : List Y9m) (r16 : Int) (x52 : Bool) : Option Bool := cond x52 (some false) (cond (decide (r16 > 0)) ((Zhr r12 r14).bind fun r55 => Zk3 r4 r7 r9 r14 r16 (!r55)) (Zk3 r4 r7 r9 r14 r16 false))
def Zk5 (p0 : List Int) (p1 : List Int) (x2 : Bool) : Option Bool := cond x2 (some true) ((Z8s p0).bind fun r4 => (Zgy r4.1 r4.2).bind fun r7 => (Zh2 p1).bind fun r9 => (Zh5 r9.1 r9.2).bind fun r12 => (Zh8 r9.1 r9.2).bind fun r14 => (Zhb r9.1 r9.2).bind fun r16 => (Zhd p1).bind fun r18 => (Zhn r4.1 r4.2).bind fun r21 => (Zhr r7 r21).bind fun r23 => cond r23 ((Zht r9.1 r9.2).bind fun r26 => (Zhr r12 r26).bind fun r28 => cond r28 ((Z7w r9.1 r9.2).bind fun r31 => (Zhr r14 r31).bind fun r33 => cond r33 ((Zhv r9.1 r9.2).bind fun r36 => cond (r16 != r36) (Zk4 r4 r7 r9 r12 r14 r16 true) ((Ziw r18).bind fun r39 => (Zjh r18).bind fun r41 => (Zhr r39 r41).bind fun r43 => cond r43 ((Zjj r18).bind fun r46 => (Zjl r18).bind fun r48 => (Zjp r46 r48).bind fun r50 => Zk4 r4 r7 r9 r12 r14 r16 (!r50)) (Zk4 r4 r7 r9 r12 r14 r16 true))) (Zk4 r4 r7 r9 r12 r14 r16 true)) (Zk4 r4 r7 r9 r12 r14 r16 true)) (Zk4 r4 r7 r9 r12 r14 r16 true))
def Zk6 (p0 : List Int) (p1 : List Int) : Option Bool := cond (decide ((p0.length : Int) > 1048576)) (Zk5 p0 p1 true) (Zk5 p0 p1 (decide ((p1.length : Int) > 1048576)))
instance Zk7 (p0 : List Int) (p1 : List Int) : Sp Tryz.prog 3 [cM kU8 1 p0, cM kU8 1 p1] (Zk6 p0 p1) (fun r => C.bool r) := Sp.of (so Tryz.func3 rfl rfl fun r X h => gh (.q 2 (.c1 (fun x2 => .d [(25, C.bool x2)] []) [0,1] [] .z (.b .z (.r [0,0] [0,3,6] [] [1,4,13,16,25,28,10,22,34,36,40,44] (.q 2 (.c1 (fun x52 => .d [(94, C.bool x52)] []) [5,6,7,8,9,10,11,12] [2,1] (.r [0,0,0] [1,8,16,24,30,32,38,40] [] [0,5,8,14,18,20,24,28,33,36,42,46,48,52,56,60,65,68,74,78,80,84,88,92,97,100,106,108,112,116,121,129,126,134,138,140,144,148,153,161,158,166,170,172,176] .z) (.b .z (.q 1 (.c1 (fun x57 => .d [(102, C.bool x57)] []) [5,6,7,8,9,11,12] [0,1] .z (.b .z (.q 2 (.c1 (fun x66 => .d [(122, C.bool x66)] []) [5,6,7] [1] .z (.b .z (.q 1 (.c1 (fun l105 => .x fun v104 => .d [(15, cV v104)] [oA v104 29 Y9s 1 l105]) [5,6,7] [1] (.l2 (fun l86 x87 => .x fun v85 => .d [(15, cV v85), (16, cI x87)] [oA v85 29 Y9s 1 l86]) [5,6,7] [1] (.b (.r [1] [4,8] [] [0,4,8,12,17,20,24,28,33,38,42,44] .z) .z)) (.q 1 (.c1 (fun x109 => .d [(149, C.bool x109)] []) [5,6,7,15] [1,0] .z (.b .z (.f 151 [] (.b (.b .z (.r [0] [0] [] [1,4,8,14,16] (.c1 (fun x135 => .d [(4, C.bool x135)] []) [] [] (.r [0] [0,14] [] [1,4,8,16,14,22,24,28,32,36,40,44,48,52,57,62,64,68,72] .z) .z))) .z)))))))))))))))))))))

end Go.Proofs.YtomachnjepgpbaaGreat
