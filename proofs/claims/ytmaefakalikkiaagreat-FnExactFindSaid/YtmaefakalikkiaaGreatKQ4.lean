/- Printed by gen.py: plain functions for Go functions, and that the walks keep to them. -/
import Derived.Test.YtmaefakalikkiaaGreatKQ3
set_option autoImplicit false
set_option linter.unusedVariables false
set_option linter.unusedSimpArgs false
set_option maxHeartbeats 8000000
set_option maxRecDepth 100000
namespace Go.Proofs.YtmaefakalikkiaaGreat
open Go Go.Abs
attribute [local irreducible] AW Ops OpsD Y3z VoK HoK GhF UsC Go.Abs.Fin PkK LenT LenL Y9k BldK FzK FzLK
def Zet (p0 : Ya4) (p1 : Y9v) (r5 : List Ya0) (x15 : Int) (x29 : Bool) : Option ((List (Int × List Ya0)) × (List (Int × List Ya0)) × (List (Int × Int))) := cond x29 ((Zdt r5 (Ya0.mk p1.kind p1.key p1.id)).bind fun r31 => some ((mset p0.before p1.id r5), (mset (mset p0.after p1.id r5) p1.id r31), (mset p0.refused p1.id x15))) (some ((mset p0.before p1.id r5), (mset p0.after p1.id r5), (mset p0.refused p1.id x15)))
def Zeu (p0 : Ya4) (p1 : Y9v) (r5 : List Ya0) (x15 : Int) : Option ((List (Int × List Ya0)) × (List (Int × List Ya0)) × (List (Int × Int))) := cond (x15 == 0) (Zet p0 p1 r5 x15 (decide (p1.kind ≤ 6))) (Zet p0 p1 r5 x15 false)
def Zev (p0 : Ya4) (p1 : Y9v) (r5 : List Ya0) (r7 : Int) (x13 : Bool) : Option ((List (Int × List Ya0)) × (List (Int × List Ya0)) × (List (Int × Int))) := cond x13 (Zeu p0 p1 r5 6) (Zeu p0 p1 r5 r7)
def Zew (p0 : Ya4) (p1 : Y9v) : Option ((List (Int × List Ya0)) × (List (Int × List Ya0)) × (List (Int × Int))) := (Zc3 p0 p1.prev).bind fun r2 => (Zej p0 r2).bind fun r5 => (Zdh p0.graph r5 p1).bind fun r7 => cond (r7 == 0) (cond (p1.kind == 8) ((Zer p0.graph p1.key p1).bind fun r11 => Zev p0 p1 r5 r7 (!r11)) (Zev p0 p1 r5 r7 false)) (Zev p0 p1 r5 r7 false)
instance Zex (p0 : Ya4) (p1 : Y9v) : SpO Tryz.prog 235 (Zew p0 p1) (.x fun (b00 : Nat) => .x fun (b01 : Nat) => .x fun (b02 : Nat) => .x fun (b03 : Nat) => .x fun (b04 : Nat) => .d [pt b00, C.agg [cI p1.id, cI p1.room, cI p1.author, cI p1.kind, cI p1.key, cI p1.n, C.str p1.text, cM kI64 1 p1.prev, cI p1.time]] [oB b00 140 [cI p0.graph.room, cM Ya6 9 p0.graph.events, cM Ya6 9 p0.graph.parked, mt b01, mt b02, mt b03, mt b04], Abs.Obj.map b01 .i64 Yak p0.depth, Abs.Obj.map b02 .i64 Yal p0.before, Abs.Obj.map b03 .i64 Yal p0.after, Abs.Obj.map b04 .i64 Yak p0.refused] fun r => .d (C.tup []) [oB b00 140 [cI p0.graph.room, cM Ya6 9 p0.graph.events, cM Ya6 9 p0.graph.parked, mt b01, mt b02, mt b03, mt b04], Abs.Obj.map b01 .i64 Yak p0.depth, Abs.Obj.map b02 .i64 Yal r.1, Abs.Obj.map b03 .i64 Yal r.2.1, Abs.Obj.map b04 .i64 Yak r.2.2]) := ⟨fun b00 b01 b02 b03 b04 => so Tryz.func235 rfl rfl fun r X h => gh (.f 10 [] (.r [0,0,0,0,0,0] [3,5] [] [0,4,8,13,16,21,26,28] (.c1 (fun x15 => .d [(5, cI x15)] []) [0,3,4] [0,1,2,3,4,5] (.c1 (fun x13 => .d [(36, C.bool x13)] []) [0,3,4,5] [0,1,2,3,4,5] (.r [0,0,0,0,0,0] [4,11,13,14] [] [0,4,8,12,17,20,24,28,32,36,40,45,48,53,57,62,64,68] .z) .z) (.r [0,0,3] [3,5,9,11,15,17] [29] [0,4,8,13,16,21,24,28,32,37,40,45,48,52,56,61,64,69,72,76,80,86,88,94,98,100,106,110,112,119] (.c1 (fun x29 => .d [(70, C.bool x29)] []) [0,3,4] [1,2,5,4,0,3] .z (.b (.r [0,0,0,0,0,0] [3,5,8,10,12] [15] [0,4,8,13,16,21,24,28,33,36,41,44,49,52,58,63] .z) .z))))))⟩

def Zey (p0 : Y9y) (m23 : List (Int × Int)) (m46 : List (Int × List Ya0)) (m47 : List (Int × List Ya0)) (m48 : List (Int × Int)) : Option Ya4 := some (Ya4.mk p0 m23 m46 m47 m48)
def Zez (p0 : Y9y) (m23 : List (Int × Int)) (r24 : List Int) (m34 : List (Int × List Ya0)) (m35 : List (Int × List Ya0)) (m36 : List (Int × Int)) (x37 : Int) : Option (((List (Int × List Ya0)) × (List (Int × List Ya0)) × (List (Int × Int)) × Int) ⊕ (((List (Int × List Ya0)) × (List (Int × List Ya0)) × (List (Int × Int))))) := cond (decide (x37 < (r24.length : Int))) ((getI r24 x37).bind fun e39 => (Zbz p0 e39).bind fun r41 => (Zew (Ya4.mk p0 m23 m34 m35 m36) r41.1).bind fun r44 => some (.inl (r44.1, r44.2.1, r44.2.2, (IntKind.i64.wrap (x37 + 1))))) (some (.inr (m34, m35, m36)))
def Zf0 (p0 : Y9y) (m23 : List (Int × Int)) : Option Ya4 := (Zbx p0).bind fun r24 => (iter (fun z54 => Zez p0 m23 r24 z54.1 z54.2.1 z54.2.2.1 z54.2.2.2) big (([] : List (Int × List Ya0)), ([] : List (Int × List Ya0)), ([] : List (Int × Int)), 0)).bind fun (y55, y56, y57) => Zey p0 m23 y55 y56 y57
def Zf1 (p0 : Y9y) (r7 : List Int × Bool) (m15 : List (Int × Int)) (x16 : Int) : Option (((List (Int × Int)) × Int) ⊕ ((List (Int × Int)))) := cond (decide (x16 < (p0.events.length : Int))) ((getI p0.events x16).bind fun e18 => (getI r7.1 x16).bind fun e21 => some (.inl ((mset m15 e18.id e21), (IntKind.i64.wrap (x16 + 1))))) (some (.inr m15))
def Zf2 (p0 : Y9y) : Option Ya4 := (Z9w p0).bind fun r7 => (iter (fun z58 => Zf1 p0 r7 z58.1 z58.2) big (([] : List (Int × Int)), 0)).bind fun y59 => Zf0 p0 y59
instance Zf3 (p0 : Y9y) : SpO Tryz.prog 119 (Zf2 p0) (.d [C.agg [cI p0.room, cM Ya6 9 p0.events, cM Ya6 9 p0.parked]] [] fun r => .x fun (b49 : Nat) => .x fun (b50 : Nat) => .x fun (b51 : Nat) => .x fun (b52 : Nat) => .x fun (b53 : Nat) => .d (pt b49) [oB b49 140 [cI r.graph.room, cM Ya6 9 r.graph.events, cM Ya6 9 r.graph.parked, mt b50, mt b51, mt b52, mt b53], Abs.Obj.map b50 .i64 Yak r.depth, Abs.Obj.map b51 .i64 Yal r.before, Abs.Obj.map b52 .i64 Yal r.after, Abs.Obj.map b53 .i64 Yak r.refused]) := ⟨so Tryz.func119 rfl rfl fun r X h => gh (.q 3 (.o 4 fun b2 => .c1 (fun m23 => .d [] [Abs.Obj.map b2 .i64 Yak m23]) [1,3] [5,0,3,2,1] (.O 4 fun b2 => .l2 (fun m15 x16 => .d [(27, cI x16)] [Abs.Obj.map b2 .i64 Yak m15]) [1,3,4,25,26] [5,0,3,2,1] (.b (.r [0,0,0,0,0,0,0] [3,5,9] [10] [0,4,8,13,16,21,24,28,32,37,43] .z) .z)) (.o 3 fun b3 => .o 4 fun b4 => .o 5 fun b5 => .c3 (fun m46 m47 m48 => .d [] [Abs.Obj.map b3 .i64 Yal m46, Abs.Obj.map b4 .i64 Yal m47, Abs.Obj.map b5 .i64 Yak m48]) [3] [2,0] (.O 3 fun b3 => .O 4 fun b4 => .O 5 fun b5 => .l4 (fun m34 m35 m36 x37 => .d [(46, cI x37)] [Abs.Obj.map b3 .i64 Yal m34, Abs.Obj.map b4 .i64 Yal m35, Abs.Obj.map b5 .i64 Yak m36]) [1,3,44,45] [1,2,0] .z) .z)))⟩
instance Zf3' (p0 : Y9y) : Sp Tryz.prog 119 [C.agg [cI p0.room, cM Ya6 9 p0.events, cM Ya6 9 p0.parked]] (Zf2 p0) (fun r => C.ip [cI r.graph.room, cM Ya6 9 r.graph.events, cM Ya6 9 r.graph.parked, C.imap .i64 Yak r.depth, C.imap .i64 Yal r.before, C.imap .i64 Yal r.after, C.imap .i64 Yak r.refused]) := ⟨fun r h => Ok.freeze ((Zf3 p0).h r h) (by rintro c qs ⟨b49, b50, b51, b52, b53, rfl, rfl⟩; exact Frz.box (fS (fS (fS (FrzL.cons (os := [_]) (Frz.map) (FrzL.cons (os := [_]) (Frz.map) (FrzL.cons (os := [_]) (Frz.map) (FrzL.cons (os := [_]) (Frz.map) (FrzL.nil)))))))))⟩

def Zf4 (l28 : List Int) : Option (List Int) := some l28
def Zf5 (x15 : Int) (l26 : List Int) : Option ((List Int × Int) ⊕ ((List Int))) := some (.inl (l26, (IntKind.i64.wrap (x15 + 1))))
def Zf6 (p0 : Ya4) (l14 : List Int) (x15 : Int) : Option ((List Int × Int) ⊕ ((List Int))) := cond (decide (x15 < (p0.graph.events.length : Int))) ((getI p0.graph.events x15).bind fun e17 => cond ((Option.getD (mget p0.refused e17.id) 0) == 0) ((chk (decide ((l14.length + [e17.id].length) * 8 ≤ 140737488355328))).bind fun u23 => Zf5 x15 (l14 ++ [e17.id])) (Zf5 x15 l14)) (some (.inr l14))
def Zf7 (p0 : Ya4) : Option (List Int) := (iter (fun z30 => Zf6 p0 z30.1 z30.2) big (([] : List Int), 0)).bind fun y31 => Zf4 y31
instance Zf8 (p0 : Ya4) : SpO Tryz.prog 257 (Zf7 p0) (.d [C.ip [cI p0.graph.room, cM Ya6 9 p0.graph.events, cM Ya6 9 p0.graph.parked, C.imap .i64 Yak p0.depth, C.imap .i64 Yal p0.before, C.imap .i64 Yal p0.after, C.imap .i64 Yak p0.refused]] [] fun r => .x fun (v29 : Value) => .d (cV v29) [oA v29 2 kI64 1 r]) := ⟨so Tryz.func257 rfl rfl fun r X h => gh (.q 2 (.c1 (fun l28 => .x fun v27 => .d [(3, cV v27)] [oA v27 2 kI64 1 l28]) [] [] (.l2 (fun l14 x15 => .x fun v13 => .d [(3, cV v13), (13, cI x15)] [oA v13 2 kI64 1 l14]) [0,11,12] [] (.b (.c1 (fun l26 => .x fun v25 => .d [(3, cV v25)] [oA v25 2 kI64 1 l26]) [0,11,12,13] [] (.r [0,0] [3,5,6] [] [0,4,8,13,16,21,25,28] .z) .z) .z)) .z))⟩
instance Zf8' (p0 : Ya4) : Sp Tryz.prog 257 [C.ip [cI p0.graph.room, cM Ya6 9 p0.graph.events, cM Ya6 9 p0.graph.parked, C.imap .i64 Yak p0.depth, C.imap .i64 Yal p0.before, C.imap .i64 Yal p0.after, C.imap .i64 Yak p0.refused]] (Zf7 p0) (fun r => cM kI64 1 r) := ⟨fun r h => Ok.freeze ((Zf8 p0).h r h) (by rintro c qs ⟨v29, rfl, rfl⟩; exact Frz.arr)⟩

def Zf9 (p0 : Ya5) (p1 : Int) : Option Ya4 := (getI p0.rooms (IntKind.i64.wrap (p1 - 1))).bind fun e1 => some e1
instance Zfa (p0 : Ya5) (p1 : Int) : SpO Tryz.prog 287 (Zf9 p0 p1) (.x fun (b00 : Nat) => .x fun (w01 : Value) => .d [pt b00, cI p1] [oB b00 199 [cM Yab 3 p0.hub.rooms, cM Ya8 2 p0.hub.stream, cV w01], oA w01 131 Yao 1 p0.rooms] fun r => .d (C.ip [cI r.graph.room, cM Ya6 9 r.graph.events, cM Ya6 9 r.graph.parked, C.imap .i64 Yak r.depth, C.imap .i64 Yal r.before, C.imap .i64 Yal r.after, C.imap .i64 Yak r.refused]) [oB b00 199 [cM Yab 3 p0.hub.rooms, cM Ya8 2 p0.hub.stream, cV w01], oA w01 131 Yao 1 p0.rooms]) := ⟨fun b00 w01 => so Tryz.func287 rfl rfl fun r X h => gh .z⟩

def Zfb (x2 : Bool) : Option Bool := some x2
def Zfc (p0 : Int) (q0 : Ya4) (q1 : List ((Int × Int) × Bool)) (q2 : Y9x) : Option Bool := cond ((Option.getD (mget q0.refused p0) 0) == 0) (Zfb (!(Option.getD (pget q1 (q2.room, p0)) false))) (Zfb false)
instance Zfd (p0 : Int) (q0 : Ya4) (q1 : List ((Int × Int) × Bool)) (q2 : Y9x) : SpO Tryz.prog 289 (Zfc p0 q0 q1 q2) (.x fun (b00 : Nat) => .x fun (b01 : Nat) => .x fun (b02 : Nat) => .x fun (b03 : Nat) => .d [cI p0, pt b00, pt b01, pt b03] [oB b00 131 [C.ip [cI q0.graph.room, cM Ya6 9 q0.graph.events, cM Ya6 9 q0.graph.parked, C.imap .i64 Yak q0.depth, C.imap .i64 Yal q0.before, C.imap .i64 Yal q0.after, C.imap .i64 Yak q0.refused]], oB b01 304 [mt b02], Abs.Obj.pmap b02 Yam q1, oB b03 187 [cI q2.room, cI q2.id]] fun r => .d (C.bool r) [oB b00 131 [C.ip [cI q0.graph.room, cM Ya6 9 q0.graph.events, cM Ya6 9 q0.graph.parked, C.imap .i64 Yak q0.depth, C.imap .i64 Yal q0.before, C.imap .i64 Yal q0.after, C.imap .i64 Yak q0.refused]], oB b01 304 [mt b02], Abs.Obj.pmap b02 Yam q1, oB b03 187 [cI q2.room, cI q2.id]]) := ⟨fun b00 b01 b02 b03 => so Tryz.func289 rfl rfl fun r X h => gh (.q 1 (.c1 (fun x2 => .d [(5, C.bool x2)] []) [] [0,1,2,3] .z .z))⟩

def Zfe : Option Int := some (-1)
def Zff (p0 : List Int) (p1_0 : Ya4) (p1_1 : List ((Int × Int) × Bool)) (p1_2 : Y9x) (x7 : Int) : Option (Int ⊕ (Int ⊕ Unit)) := cond (decide (x7 < (p0.length : Int))) ((getI p0 x7).bind fun e9 => (Zfc e9 p1_0 p1_1 p1_2).bind fun r11 => cond r11 (some (.inr (.inl x7))) (some (.inl (IntKind.i64.wrap (x7 + 1))))) (some (.inr (.inr ())))
def Zfg (p0 : List Int) (p1_0 : Ya4) (p1_1 : List ((Int × Int) × Bool)) (p1_2 : Y9x) : Option Int := (iter (Zff p0 p1_0 p1_1 p1_2) big 0).bind (fun z15 => match z15 with | .inl y14 => some y14 | .inr () => Zfe)
instance Zfh (p0 : List Int) (p1_0 : Ya4) (p1_1 : List ((Int × Int) × Bool)) (p1_2 : Y9x) : SpO Tryz.prog 353 (Zfg p0 p1_0 p1_1 p1_2) (.x fun (b00 : Nat) => .x fun (b01 : Nat) => .x fun (b02 : Nat) => .x fun (b03 : Nat) => .d [cM kI64 1 p0, C.clo 289 [pt b00, pt b01, pt b03]] [oB b00 131 [C.ip [cI p1_0.graph.room, cM Ya6 9 p1_0.graph.events, cM Ya6 9 p1_0.graph.parked, C.imap .i64 Yak p1_0.depth, C.imap .i64 Yal p1_0.before, C.imap .i64 Yal p1_0.after, C.imap .i64 Yak p1_0.refused]], oB b01 304 [mt b02], Abs.Obj.pmap b02 Yam p1_1, oB b03 187 [cI p1_2.room, cI p1_2.id]] fun r => .d (cI r) [oB b00 131 [C.ip [cI p1_0.graph.room, cM Ya6 9 p1_0.graph.events, cM Ya6 9 p1_0.graph.parked, C.imap .i64 Yak p1_0.depth, C.imap .i64 Yal p1_0.before, C.imap .i64 Yal p1_0.after, C.imap .i64 Yak p1_0.refused]], oB b01 304 [mt b02], Abs.Obj.pmap b02 Yam p1_1, oB b03 187 [cI p1_2.room, cI p1_2.id]]) := ⟨fun b00 b01 b02 b03 => so Tryz.func353 rfl rfl fun r X h => gh (.q 1 (.c0 (.d [] []) [] [0,1,2,3] (.l1 (fun x7 => .d [(8, cI x7)] []) [0,1,7] [0,1,2,3] .z) .z))⟩

def Zfi (p0 : List Int) (p1_0 : Ya4) (p1_1 : List ((Int × Int) × Bool)) (p1_2 : Y9x) : Option Bool := (Zfg p0 p1_0 p1_1 p1_2).bind fun r1 => some (decide (r1 ≥ 0))
instance Zfj (p0 : List Int) (p1_0 : Ya4) (p1_1 : List ((Int × Int) × Bool)) (p1_2 : Y9x) : SpO Tryz.prog 288 (Zfi p0 p1_0 p1_1 p1_2) (.x fun (b00 : Nat) => .x fun (b01 : Nat) => .x fun (b02 : Nat) => .x fun (b03 : Nat) => .d [cM kI64 1 p0, C.clo 289 [pt b00, pt b01, pt b03]] [oB b00 131 [C.ip [cI p1_0.graph.room, cM Ya6 9 p1_0.graph.events, cM Ya6 9 p1_0.graph.parked, C.imap .i64 Yak p1_0.depth, C.imap .i64 Yal p1_0.before, C.imap .i64 Yal p1_0.after, C.imap .i64 Yak p1_0.refused]], oB b01 304 [mt b02], Abs.Obj.pmap b02 Yam p1_1, oB b03 187 [cI p1_2.room, cI p1_2.id]] fun r => .d (C.bool r) [oB b00 131 [C.ip [cI p1_0.graph.room, cM Ya6 9 p1_0.graph.events, cM Ya6 9 p1_0.graph.parked, C.imap .i64 Yak p1_0.depth, C.imap .i64 Yal p1_0.before, C.imap .i64 Yal p1_0.after, C.imap .i64 Yak p1_0.refused]], oB b01 304 [mt b02], Abs.Obj.pmap b02 Yam p1_1, oB b03 187 [cI p1_2.room, cI p1_2.id]]) := ⟨fun b00 b01 b02 b03 => so Tryz.func288 rfl rfl fun r X h => gh .z⟩

def Zfk (p0 : Y9z) (l100 : List Ya4) (x101 : Int) : Option (Ya5 × Bool) := cond (x101 == (p0.stream.length : Int)) (some ((Ya5.mk p0 l100), (x101 == (p0.stream.length : Int)))) (some ((Ya5.mk (Y9z.mk [] []) []), (x101 == (p0.stream.length : Int))))
def Zfl (m178 : List ((Int × Int) × Bool)) (x179 : Int) (e181 : Y9x) (x252 : Bool) : Option (((List ((Int × Int) × Bool)) × Int) ⊕ ((Ya5 × Bool) ⊕ Unit)) := cond x252 (some (.inr (.inl ((Ya5.mk (Y9z.mk [] []) []), false)))) (some (.inl ((pset m178 (e181.room, e181.id) true), (IntKind.i64.wrap (x179 + 1)))))
def Zfm (m178 : List ((Int × Int) × Bool)) (x179 : Int) (e181 : Y9x) (r189 : Ya4) (x196 : Int) (x197 : Int) (x198 : Int) (x199 : Int) (x200 : Int) (x201 : Int) (x202 : ByteArray) (l203 : List Int) (x204 : Int) (x205 : Bool) : Option (((List ((Int × Int) × Bool)) × Int) ⊕ ((Ya5 × Bool) ⊕ Unit)) := cond x205 (cond ((Option.getD (mget r189.refused e181.id) 0) != 0) (Zfl m178 x179 e181 true) ((Zfi l203 r189 m178 e181).bind fun r244 => Zfl m178 x179 e181 r244)) (Zfl m178 x179 e181 true)
def Zfn (p0 : Y9z) (l100 : List Ya4) (m178 : List ((Int × Int) × Bool)) (x179 : Int) (e181 : Y9x) (x187 : Bool) : Option (((List ((Int × Int) × Bool)) × Int) ⊕ ((Ya5 × Bool) ⊕ Unit)) := cond x187 (some (.inr (.inl ((Ya5.mk (Y9z.mk [] []) []), false)))) ((Zf9 (Ya5.mk p0 l100) e181.room).bind fun r189 => (Zbz r189.graph e181.id).bind fun r192 => Zfm m178 x179 e181 r189 r192.1.id r192.1.room r192.1.author r192.1.kind r192.1.key r192.1.n r192.1.text r192.1.prev r192.1.time r192.2)
def Zfo (p0 : Y9z) (l100 : List Ya4) (m178 : List ((Int × Int) × Bool)) (x179 : Int) : Option (((List ((Int × Int) × Bool)) × Int) ⊕ ((Ya5 × Bool) ⊕ Unit)) := cond (decide (x179 < (p0.stream.length : Int))) ((getI p0.stream x179).bind fun e181 => (Z7w e181.room).bind fun r184 => cond r184 (Zfn p0 l100 m178 x179 e181 (Option.getD (pget m178 (e181.room, e181.id)) false)) (Zfn p0 l100 m178 x179 e181 true)) (some (.inr (.inr ())))
def Zfp (p0 : Y9z) (l100 : List Ya4) (x101 : Int) : Option (Ya5 × Bool) := (iter (fun z255 => Zfo p0 l100 z255.1 z255.2) big (([] : List ((Int × Int) × Bool)), 0)).bind (fun z257 => match z257 with | .inl y256 => some y256 | .inr () => Zfk p0 l100 x101)
def Zfq (l57 : List Ya4) (x58 : Int) (x59 : Int) (e61 : Y9y) (x67 : Bool) : Option ((List Ya4 × Int × Int) ⊕ ((Ya5 × Bool) ⊕ (List Ya4 × Int))) := cond x67 (some (.inr (.inl ((Ya5.mk (Y9z.mk [] []) []), false)))) ((Zf2 e61).bind fun r83 => (chk (decide ((l57.length + [r83].length) * 8 ≤ 140737488355328))).bind fun u92 => (getI (l57 ++ [r83]) x59).bind fun e95 => (Zf7 e95).bind fun r97 => some (.inl ((l57 ++ [r83]), (IntKind.i64.wrap (x58 + (r97.length : Int))), (IntKind.i64.wrap (x59 + 1)))))
def Zfr (p0 : Y9z) (l57 : List Ya4) (x58 : Int) (x59 : Int) : Option ((List Ya4 × Int × Int) ⊕ ((Ya5 × Bool) ⊕ (List Ya4 × Int))) := cond (decide (x59 < (p0.rooms.length : Int))) ((getI p0.rooms x59).bind fun e61 => (Zag e61).bind fun r64 => cond r64 (Zfq l57 x58 x59 e61 (e61.room != (IntKind.i64.wrap (x59 + 1)))) (Zfq l57 x58 x59 e61 true)) (some (.inr (.inr (l57, x58))))
def Zfs (p0 : Y9z) (x3 : Bool) : Option (Ya5 × Bool) := cond x3 (some ((Ya5.mk (Y9z.mk [] []) []), false)) ((iter (fun z258 => Zfr p0 z258.1 z258.2.1 z258.2.2) big ([], 0, 0)).bind (fun z262 => match z262 with | .inl y259 => some y259 | .inr (y260, y261) => Zfp p0 y260 y261))
def Zft (p0 : Y9z) : Option (Ya5 × Bool) := cond ((p0.rooms.length : Int) != 3) (Zfs p0 true) (Zfs p0 (decide ((p0.stream.length : Int) > 120)))
instance Zfu (p0 : Y9z) : SpO Tryz.prog 176 (Zft p0) (.d [C.agg [cM Yab 3 p0.rooms, cM Ya8 2 p0.stream]] [] fun r => .b r.2 (.d (C.tup [C.ip [cM Yab 3 r.1.hub.rooms, cM Ya8 2 r.1.hub.stream, cM Yao 1 r.1.rooms], C.bool r.2]) []) (.d (C.tup [C.any, C.bool r.2]) [])) := ⟨so Tryz.func176 rfl rfl fun r X h => gh (.q 2 (.c1 (fun x3 => .d [(23, C.bool x3)] []) [1] [0] .z (.b .z (.q 1 (.o 0 fun b5 => .c2 (fun l100 x101 => .x fun v99 => .d [(5, cI x101)] [oB b5 199 [cM Yab 3 p0.rooms, cM Ya8 2 p0.stream, cV v99], oA v99 131 Yao 1 l100]) [1,4] [1] (.O 0 fun b5 => .l3 (fun l57 x58 x59 => .x fun v56 => .d [(5, cI x58), (30, cI x59)] [oB b5 199 [cM Yab 3 p0.rooms, cM Ya8 2 p0.stream, cV v56], oA v56 131 Yao 1 l57]) [1,4,28,29] [1] (.b (.q 3 (.c1 (fun x67 => .d [(44, C.bool x67)] []) [1,4,5,6,7,28,29,30] [3,1,2,0] .z (.b .z (.r [0,0,1] [4,5] [11] [0,4,8,12,17,21,26,30,34,36,40,47] (.k (.f 51 [] .z)))))) .z)) (.q 1 (.c0 (.d [] []) [1,4,5] [4,2,3] (.O 1 fun b102 => .l2 (fun m178 x179 => .d [(72, cI x179)] [Abs.Obj.pmap b102 Yam m178]) [1,4,5,8,70,71] [4,2,3,0] (.b (.q 3 (.c1 (fun x187 => .d [(84, C.bool x187)] []) [1,4,5,8,10,70,71,72] [2,3,4,5,1,0] .z (.b .z (.q 1 (.c10 (fun x196 x197 x198 x199 x200 x201 x202 l203 x204 x205 => .x fun b195 => .d [(12, pt b195), (13, C.bool x205)] [oB b195 42 [cI x196, cI x197, cI x198, cI x199, cI x200, cI x201, C.str x202, cM kI64 1 l203, cI x204]]) [1,4,5,8,10,11,70,71,72] [3,1,2,4,5,6,0] (.R [0,0,0,0,0,0,0] [0,3,5] [11] (.light 0 true (.light 1 false (.light 2 false (.light 3 true (.light 4 false (.light 5 true (.two 6 10 (.light 7 false (.light 8 false (.light 9 false (.one 10 (.late 11 (.light 12 false .done)))))) (.one 6 (.light 7 false (.light 8 false (.light 9 false (.late 11 (.light 12 false .done))))))))))))) (.H 142 .z)) (.q 1 (.c1 (fun x252 => .d [(116, C.bool x252)] []) [1,4,5,8,10,70,71,72] [1,2,3,4,5,6] (.R [0,0,0,0] [3,6,8,9,14] [] (.light 0 false (.light 1 false (.light 2 false (.light 7 false (.two 3 8 (.light 4 false (.light 5 false (.two 6 8 (.one 8 (.one 9 (.light 10 false (.light 11 false (.light 12 false (.light 13 false (.light 15 false (.one 14 (.one 16 (.light 17 false .done)))))))))) (.one 6 (.one 9 (.light 10 false (.light 11 false (.light 12 false (.light 13 false (.light 15 false (.one 14 (.one 16 (.light 17 false .done))))))))))))) (.one 3 (.light 4 false (.light 5 false (.one 6 (.one 9 (.light 10 false (.light 11 false (.light 12 false (.light 13 false (.light 15 false (.one 14 (.one 16 (.light 17 false .done)))))))))))))))))) .z) .z))))))) .z)) (.r [0,0,0] [3] [] [0,4,8,13,16,20,24,28] .z))))))))⟩

def Zfv : Option Int := some (-1)
def Zfw (p0 : List Y9x) (p1 : Y9x) (x6 : Int) : Option (Int ⊕ (Int ⊕ Unit)) := cond (decide (x6 < (p0.length : Int))) ((getI p0 x6).bind fun e8 => cond ((p1.room == e8.room) && ((p1.id == e8.id) && true)) (some (.inr (.inl x6))) (some (.inl (IntKind.i64.wrap (x6 + 1))))) (some (.inr (.inr ())))
def Zfx (p0 : List Y9x) (p1 : Y9x) : Option Int := (iter (Zfw p0 p1) big 0).bind (fun z12 => match z12 with | .inl y11 => some y11 | .inr () => Zfv)
instance Zfy (p0 : List Y9x) (p1 : Y9x) : Sp Tryz.prog 311 [cM Ya8 2 p0, C.agg [cI p1.room, cI p1.id]] (Zfx p0 p1) (fun r => cI r) := Sp.of (so Tryz.func311 rfl rfl fun r X h => gh (.q 1 (.c0 (.d [] []) [] [] (.l1 (fun x6 => .d [(8, cI x6)] []) [0,3,7] [0] (.b (.r [0] [0,4] [] [1,4,8,12,17,20] .z) .z)) .z)))

def Zfz (p0 : Y9v) : Option Y9v := (Zel p0.prev).bind fun r3 => some (Y9v.mk p0.id p0.room p0.author p0.kind p0.key p0.n p0.text r3 p0.time)
instance Zg0 (p0 : Y9v) : Sp Tryz.prog 290 [C.agg [cI p0.id, cI p0.room, cI p0.author, cI p0.kind, cI p0.key, cI p0.n, C.str p0.text, cM kI64 1 p0.prev, cI p0.time]] (Zfz p0) (fun r => C.agg [cI r.id, cI r.room, cI r.author, cI r.kind, cI r.key, cI r.n, C.str r.text, cM kI64 1 r.prev, cI r.time]) := Sp.of (so Tryz.func290 rfl rfl fun r X h => gh .z)

def Zg1 (p0 : ByteArray) (p1 : ByteArray) : Option Bool := (chk (decide (p0.size < 4294967281))).bind fun _ => some (Go.Lib.contains p0.data.toList p1.data.toList)
instance Zg2 (p0 : ByteArray) (p1 : ByteArray) : Sp Tryz.prog 179 [C.str p0, C.str p1] (Zg1 p0 p1) (fun r => C.bool r) := Y9r rfl Y9s Y9t p0 p1

def Zg3 (p0 : Y9y) (p1 : List Ya0) : Option Int := (Zct p0 p1 6 0).bind fun r2 => cond r2.2 (some r2.1.n) (some 2)
instance Zg4 (p0 : Y9y) (p1 : List Ya0) : Sp Tryz.prog 293 [C.agg [cI p0.room, cM Ya6 9 p0.events, cM Ya6 9 p0.parked], cM Yae 3 p1] (Zg3 p0 p1) (fun r => cI r) := Sp.of (so Tryz.func293 rfl rfl fun r X h => gh .z)

def Zg5 (p0 : List Int) : Option (List Int) := some p0
def Zg6 (l85 : List Int) (x86 : Int) : Option (Int ⊕ ((List Int) ⊕ Unit)) := (chk (decide ((0 : Int) ≤ x86 ∧ x86 ≤ (l85.length : Int)))).bind fun u88 => (chk (decide ((Int.toNat x86) ≤ l85.length))).bind fun u90 => (chk (decide ((0 : Int) ≤ x86 ∧ x86 ≤ ((List.take (Int.toNat x86) l85 ++ List.replicate (l85.length - (Int.toNat x86)) 0).length : Int)))).bind fun u92 => some (.inr (.inl (List.take (Int.toNat x86) (List.take (Int.toNat x86) l85 ++ List.replicate (l85.length - (Int.toNat x86)) 0))))
def Zg7 (x70 : Int) (l83 : List Int) (x84 : Int) : Option ((List Int × Int × Int) ⊕ ((List Int × Int))) := some (.inl (l83, x84, (IntKind.i64.wrap (x70 + 1))))
def Zg8 (x47 : Int) (l68 : List Int) (x69 : Int) (x70 : Int) : Option ((List Int × Int × Int) ⊕ ((List Int × Int))) := (chk (decide ((Int.toNat x47) ≤ l68.length))).bind fun u72 => cond (decide (x70 < ((List.drop (Int.toNat x47) l68).length : Int))) ((getI (List.drop (Int.toNat x47) l68) x70).bind fun e74 => (getI (List.drop (Int.toNat x47) l68) (IntKind.i64.wrap (x70 - 1))).bind fun e76 => cond (e74 != e76) ((getI (List.drop (Int.toNat x47) l68) x70).bind fun e79 => (getI l68 x69).bind fun e81 => Zg7 x70 (List.set l68 (Int.toNat x69) e79) (IntKind.i64.wrap (x69 + 1))) (Zg7 x70 l68 x69)) (some (.inr (l68, x69)))
def Zg9 (p0 : List Int) (x47 : Int) : Option (Int ⊕ ((List Int) ⊕ Unit)) := cond (decide (x47 < (p0.length : Int))) ((getI p0 x47).bind fun e49 => (getI p0 (IntKind.i64.wrap (x47 - 1))).bind fun e51 => cond (e49 == e51) ((chk (decide ((0 : Int) ≤ x47 ∧ x47 ≤ (p0.length : Int)))).bind fun u55 => (iter (fun z94 => Zg8 x47 z94.1 z94.2.1 z94.2.2) big (p0, x47, 1)).bind fun (y95, y96) => Zg6 y95 y96) (some (.inl (IntKind.i64.wrap (x47 + 1))))) (some (.inr (.inr ())))
def Zga (p0 : List Int) : Option (List Int) := cond (decide ((p0.length : Int) < 2)) (some p0) ((iter (Zg9 p0) big 1).bind (fun z98 => match z98 with | .inl y97 => some y97 | .inr () => Zg5 p0))
theorem Zgb {w00 : Value} (p0 : List Int) (r : List Int) (h : Zga p0 = some r) : Ok Tryz.prog 379 [cV w00] [oA w00 2 kI64 1 p0] (fun c qs => ∃ (v93 : Value), c = cV v93 ∧ qs = [oA v93 2 kI64 1 r]) := by
 refine Ok.of_body (rs := [.tmp 2]) Tryz.func379 rfl rfl rfl rfl rfl fun X => ?_
 unfold Zga at h
 refine zw ?_
 refine cnd h (fun hb1 h => ?_) fun hb1 h => ?_
 ·
  refine AW.ct hb1 rfl ?_
  refine zw ?_
  refine AW.ret ?_
  rw [← Wj h]
  exact finI ⟨[cV w00], _, Y25.refl _, (.cons (.tmp rfl) .nil), [0], _, _, rfl, ⟨w00, rfl, rfl⟩⟩
 refine AW.cf hb1 rfl ?_
 refine AW.skip ?_
 refine AW.seq ?_
 refine AW.cut (τ := Unit) (fun (_ : Unit) => ⟨[(0, cV w00)], [oA w00 2 kI64 1 p0]⟩) (fun (_ : Unit) => Zg5 p0 = some r) ?_ ?_
 ·
  refine zw ?_
  refine ob' h fun o99 g100 q101 => ?_
  refine AW.loop (τ := Int) (x := 1) (fun x47 => ⟨[(0, cV w00), (3, cI x47)], [oA w00 2 kI64 1 p0]⟩) (fun k x47 => iter (Zg9 p0) k x47 = some o99) g100 (Y25.both (ns := [0]) rfl rfl) ?_
  intro k x47 i103
  refine Y4d (show iter (Zg9 p0) k x47 = some o99 from i103) fun k102 y104 hlt_k102 h h105 => ?_
  replace h : Zg9 p0 x47 = some y104 := h
  unfold Zg9 at h
  refine zw ?_
  refine cnd h (fun hb48 h => ?_) fun hb48 h => ?_
  ·
   refine AW.ct hb48 rfl ?_
   refine zw ?_
   refine rD [0] [3,8] [] [0,4,8,13,16,20,24,28,33,36] ?_
   refine zw ?_
   refine di h fun e49 g50 h => ?_
   refine zw ?_
   refine di h fun e51 g52 h => ?_
   refine zw ?_
   refine cnd h (fun hb53 h => ?_) fun hb53 h => ?_
   ·
    refine AW.ct hb53 rfl ?_
    refine zw ?_
    refine ob' h fun u55 c54 h => ?_
    refine Ops.v rfl (Y7l (p := 0) (l := (Int.toNat x47)) Yat.h rfl rfl rfl (Wo (Y45 c54)) rfl rfl) ?_
    refine Ops.v rfl (Ys rfl rfl) ?_
    refine Ops.nil ?_
    refine AW.seq ?_
    refine AW.cut (τ := List Int × Int) (fun (l85, x86) => ⟨[(0, cV w00), (3, cI x86)], [oA w00 2 kI64 1 l85]⟩) (fun (l85, x86) => Zg6 l85 x86 = some y104) ?_ ?_
    ·
     refine zw ?_
     refine ob' h fun o106 g107 q108 => ?_
     refine AW.loop (τ := List Int × Int × Int) (x := (p0, x47, 1)) (fun (l68, x69, x70) => ⟨[(0, cV w00), (3, cI x69), (4, cV (Y7i w00 1 (Int.toNat x47))), (5, cI x70)], [oA w00 2 kI64 1 l68]⟩) (fun k (l68, x69, x70) => iter (fun z94 => Zg8 x47 z94.1 z94.2.1 z94.2.2) k (l68, x69, x70) = some o106) g107 (Y25.both (ns := [0]) rfl rfl) ?_
     rintro k ⟨l68, x69, x70⟩ i110
     refine Y4d (show iter (fun z94 => Zg8 x47 z94.1 z94.2.1 z94.2.2) k (l68, x69, x70) = some o106 from i110) fun k109 y111 hlt_k109 h h112 => ?_
     replace h : Zg8 x47 l68 x69 x70 = some y111 := h
     unfold Zg8 at h
     refine zw ?_
     refine ob' h fun u72 c71 h => ?_
     refine Ops.v rfl (Y7n (p := 0) Yat.h rfl rfl (Wo (Y45 c71)) rfl) ?_
     refine zw ?_
     refine cnd h (fun hb73 h => ?_) fun hb73 h => ?_
     ·
      refine AW.ct hb73 rfl ?_
      refine AW.skip ?_
      refine AW.seq ?_
      refine AW.cut (τ := List Int × Int) (fun (l83, x84) => ⟨[(0, cV w00), (3, cI x84), (4, cV (Y7i w00 1 (Int.toNat x47))), (5, cI x70)], [oA w00 2 kI64 1 l83]⟩) (fun (l83, x84) => Zg7 x70 l83 x84 = some y111) ?_ ?_
      ·
       refine zw ?_
       refine rD [0] [3,8] [] [0,4,8,13,16,20,24,28,33,36] ?_
       refine zw ?_
       refine ob' h fun e74 g75 h => ?_
       refine OpsD.v rfl rfl (Y7o (p := 0) Yat.h rfl rfl rfl g75 rfl) ?_
       refine OpsD.v rfl rfl (Y3c (p := 0) ld_2.h rfl rfl (Y7p g75) rfl rfl) ?_
       refine zw ?_
       refine ob' h fun e76 g77 h => ?_
       refine OpsD.v rfl rfl (Y7o (p := 0) Yat.h rfl rfl rfl g77 rfl) ?_
       refine OpsD.v rfl rfl (Y3c (p := 0) ld_2.h rfl rfl (Y7p g77) rfl rfl) ?_
       refine zw ?_
       refine cnd h (fun hb78 h => ?_) fun hb78 h => ?_
       ·
        refine AW.ct hb78 rfl ?_
        refine zw ?_
        refine ob' h fun e79 g80 h => ?_
        refine Ops.v rfl (Y7o (p := 0) Yat.h rfl rfl rfl g80 rfl) ?_
        refine Ops.v rfl (Y3c (p := 0) ld_2.h rfl rfl (Y7p g80) rfl rfl) ?_
        refine oi h fun e81 g82 h => ?_
        refine Ops.hd (ns := [0]) rfl rfl (Y3f (e' := e79) ld_2.h rfl rfl (One.val rfl) (Y2f g82).2.2 rfl rfl) ?_
        refine zw ?_
        exact ⟨((List.set l68 (Int.toNat x69) e79), (IntKind.i64.wrap (x69 + 1))), h, Y25.both (ns := [0]) rfl rfl⟩
       refine AW.cf hb78 rfl ?_
       refine zw ?_
       exact ⟨(l68, x69), h, Y25.both (ns := [0]) rfl rfl⟩
      rintro ⟨l83, x84⟩ h
      replace h : Zg7 x70 l83 x84 = some y111 := h
      unfold Zg7 at h
      refine zw ?_
      obtain rfl := Wj h
      exact ⟨k109, (l83, x84, (IntKind.i64.wrap (x70 + 1))), hlt_k109, h112, Y25.both (ns := [0]) rfl rfl⟩
     refine AW.cf hb73 rfl ?_
     refine AW.exit ?_
     obtain rfl := Wj h
     obtain rfl := Wj h112
     replace h := q108
     exact ⟨(l68, x69), h, Y25.both (ns := [0]) rfl rfl⟩
    rintro ⟨l85, x86⟩ h
    replace h : Zg6 l85 x86 = some y104 := h
    unfold Zg6 at h
    refine zw ?_
    refine ob' h fun u88 c87 h => ?_
    refine Ops.v rfl (Y7l (p := 0) (l := (Int.toNat x86)) Yat.h rfl rfl rfl (Wo (Y45 c87)) rfl rfl) ?_
    refine ob' h fun u90 c89 h => ?_
    refine Ops.hd (ns := [0]) rfl rfl (Y7t (z := 0) Yb9 ze_2 (Y4e rfl rfl) rfl (Wo (Y45 c89))) ?_
    refine zw ?_
    refine ob' h fun u92 c91 h => ?_
    refine Ops.v rfl (Y7m (p := 0) (l := (Int.toNat x86)) Yat.h rfl rfl rfl (Wo (Y45 c91)) rfl rfl) ?_
    refine zw ?_
    refine AW.ret ?_
    obtain rfl := Wj h
    obtain rfl := Wj h105
    replace h := q101
    rw [← Wj h]
    exact finI ⟨[cV (Y7j w00 (Int.toNat x86))], _, Y25.prefix (p := 0) (h := (Int.toNat x86)) rfl (Int.le_toNat_len c91), (.cons (.tmp rfl) .nil), [0], _, _, rfl, ⟨(Y7j w00 (Int.toNat x86)), rfl, rfl⟩⟩
   refine AW.cf hb53 rfl ?_
   refine zw ?_
   obtain rfl := Wj h
   exact ⟨k102, (IntKind.i64.wrap (x47 + 1)), hlt_k102, h105, Y25.both (ns := [0]) rfl rfl⟩
  refine AW.cf hb48 rfl ?_
  refine AW.exit ?_
  obtain rfl := Wj h
  obtain rfl := Wj h105
  replace h := q101
  exact ⟨(), h, Y25.both (ns := [0]) rfl rfl⟩
 rintro ⟨⟩ h
 replace h : Zg5 p0 = some r := h
 unfold Zg5 at h
 refine zw ?_
 refine AW.ret ?_
 rw [← Wj h]
 exact finI ⟨[cV w00], _, Y25.refl _, (.cons (.tmp rfl) .nil), [0], _, _, rfl, ⟨w00, rfl, rfl⟩⟩
instance Zgc (p0 : List Int) : SpO Tryz.prog 379 (Zga p0) (.x fun (w00 : Value) => .d [cV w00] [oA w00 2 kI64 1 p0] fun r => .x fun (v93 : Value) => .d (cV v93) [oA v93 2 kI64 1 r]) := ⟨fun w00 r h => Zgb p0 r h⟩

def Zgd (p0 : List Int) : Option (List Int) := (chk (decide (p0.length < 4611686018427387904))).bind fun u2 => (Zga (List.mergeSort p0 (fun x y => decide (x ≤ y)))).bind fun r3 => some r3
instance Zge (p0 : List Int) : SpO Tryz.prog 338 (Zgd p0) (.x fun (w00 : Value) => .d [cV w00] [oA w00 2 kI64 1 p0] fun r => .x fun (v6 : Value) => .d (cV v6) [oA v6 2 kI64 1 r]) := ⟨fun w00 => so Tryz.func338 rfl rfl fun r X h => gh (.k .z)⟩
def Zgf (p0 : Int) (q0 : Y9v) : Option Bool := (Z8d q0.prev p0).bind fun r1 => some r1
instance Zgg (p0 : Int) (q0 : Y9v) : SpO Tryz.prog 341 (Zgf p0 q0) (.x fun (b00 : Nat) => .d [cI p0, pt b00] [oB b00 42 [cI q0.id, cI q0.room, cI q0.author, cI q0.kind, cI q0.key, cI q0.n, C.str q0.text, cM kI64 1 q0.prev, cI q0.time]] fun r => .d (C.bool r) [oB b00 42 [cI q0.id, cI q0.room, cI q0.author, cI q0.kind, cI q0.key, cI q0.n, C.str q0.text, cM kI64 1 q0.prev, cI q0.time]]) := ⟨fun b00 => so Tryz.func341 rfl rfl fun r X h => gh .z⟩

def Zgh : Option Int := some (-1)
def Zgi (p0 : List Int) (p1_0 : Y9v) (x7 : Int) : Option (Int ⊕ (Int ⊕ Unit)) := cond (decide (x7 < (p0.length : Int))) ((getI p0 x7).bind fun e9 => (Zgf e9 p1_0).bind fun r11 => cond r11 (some (.inr (.inl x7))) (some (.inl (IntKind.i64.wrap (x7 + 1))))) (some (.inr (.inr ())))
def Zgj (p0 : List Int) (p1_0 : Y9v) : Option Int := (iter (Zgi p0 p1_0) big 0).bind (fun z15 => match z15 with | .inl y14 => some y14 | .inr () => Zgh)
instance Zgk (p0 : List Int) (p1_0 : Y9v) : SpO Tryz.prog 353 (Zgj p0 p1_0) (.x fun (w00 : Value) => .x fun (b01 : Nat) => .d [cV w00, C.clo 341 [pt b01]] [oA w00 2 kI64 1 p0, oB b01 42 [cI p1_0.id, cI p1_0.room, cI p1_0.author, cI p1_0.kind, cI p1_0.key, cI p1_0.n, C.str p1_0.text, cM kI64 1 p1_0.prev, cI p1_0.time]] fun r => .d (cI r) [oA w00 2 kI64 1 p0, oB b01 42 [cI p1_0.id, cI p1_0.room, cI p1_0.author, cI p1_0.kind, cI p1_0.key, cI p1_0.n, C.str p1_0.text, cM kI64 1 p1_0.prev, cI p1_0.time]]) := ⟨fun w00 b01 => so Tryz.func353 rfl rfl fun r X h => gh (.q 1 (.c0 (.d [] []) [] [0,1] (.l1 (fun x7 => .d [(8, cI x7)] []) [0,1,7] [0,1] .z) .z))⟩

def Zgl (l27 : List Int) (x28 : Int) : Option (List Int) := (chk (decide ((0 : Int) ≤ x28 ∧ x28 ≤ (l27.length : Int)))).bind fun u30 => (chk (decide ((Int.toNat x28) ≤ l27.length))).bind fun u32 => (chk (decide ((0 : Int) ≤ x28 ∧ x28 ≤ ((List.take (Int.toNat x28) l27 ++ List.replicate (l27.length - (Int.toNat x28)) 0).length : Int)))).bind fun u34 => some (List.take (Int.toNat x28) (List.take (Int.toNat x28) l27 ++ List.replicate (l27.length - (Int.toNat x28)) 0))
def Zgm (x16 : Int) (l25 : List Int) (x26 : Int) : Option ((List Int × Int × Int) ⊕ ((List Int × Int))) := some (.inl (l25, x26, (IntKind.i64.wrap (x16 + 1))))
def Zgn (p1_0 : Y9v) (l14 : List Int) (x15 : Int) (x16 : Int) : Option ((List Int × Int × Int) ⊕ ((List Int × Int))) := cond (decide (x16 < (l14.length : Int))) ((getI l14 x16).bind fun e18 => (Zgf e18 p1_0).bind fun r20 => cond r20 (Zgm x16 l14 x15) ((getI l14 x15).bind fun e23 => Zgm x16 (List.set l14 (Int.toNat x15) e18) (IntKind.i64.wrap (x15 + 1)))) (some (.inr (l14, x15)))
def Zgo (p0 : List Int) (p1_0 : Y9v) : Option (List Int) := (Zgj p0 p1_0).bind fun r1 => cond (r1 == (-1)) (some p0) ((iter (fun z36 => Zgn p1_0 z36.1 z36.2.1 z36.2.2) big (p0, r1, (IntKind.i64.wrap (r1 + 1)))).bind fun (y37, y38) => Zgl y37 y38)
theorem Zgp {w00 : Value} {b01 : Nat} (p0 : List Int) (p1_0 : Y9v) (r : List Int) (h : Zgo p0 p1_0 = some r) : Ok Tryz.prog 340 [cV w00, C.clo 341 [pt b01]] [oA w00 2 kI64 1 p0, oB b01 42 [cI p1_0.id, cI p1_0.room, cI p1_0.author, cI p1_0.kind, cI p1_0.key, cI p1_0.n, C.str p1_0.text, cM kI64 1 p1_0.prev, cI p1_0.time]] (fun c qs => ∃ (v35 : Value), c = cV v35 ∧ qs = [oA v35 2 kI64 1 r, oB b01 42 [cI p1_0.id, cI p1_0.room, cI p1_0.author, cI p1_0.kind, cI p1_0.key, cI p1_0.n, C.str p1_0.text, cM kI64 1 p1_0.prev, cI p1_0.time]]) := by
 refine Ok.of_body (rs := [.tmp 4]) Tryz.func340 rfl rfl rfl rfl rfl fun X => ?_
 unfold Zgo at h
 refine zw ?_
 refine ob' h fun r1 g2 h => ?_
 refine Ops.hd (ns := [0, 0]) rfl rfl (Y28 ((Zgk p0 p1_0).h _ _ _ g2) rfl rfl) ?_
 refine zw ?_
 refine cnd h (fun hb3 h => ?_) fun hb3 h => ?_
 ·
  refine AW.ct hb3 rfl ?_
  refine zw ?_
  refine AW.ret ?_
  rw [← Wj h]
  exact finI ⟨[cV w00], _, Y25.refl _, (.cons (.tmp rfl) .nil), [0, 0], _, _, rfl, ⟨w00, rfl, rfl⟩⟩
 refine AW.cf hb3 rfl ?_
 refine AW.skip ?_
 refine AW.seq ?_
 refine AW.cut (τ := List Int × Int) (fun (l27, x28) => ⟨[(0, cV w00), (5, cI x28)], [oA w00 2 kI64 1 l27, oB b01 42 [cI p1_0.id, cI p1_0.room, cI p1_0.author, cI p1_0.kind, cI p1_0.key, cI p1_0.n, C.str p1_0.text, cM kI64 1 p1_0.prev, cI p1_0.time]]⟩) (fun (l27, x28) => Zgl l27 x28 = some r) ?_ ?_
 ·
  refine zw ?_
  refine ob' h fun o39 g40 q41 => ?_
  refine AW.loop (τ := List Int × Int × Int) (x := (p0, r1, (IntKind.i64.wrap (r1 + 1)))) (fun (l14, x15, x16) => ⟨[(0, cV w00), (1, C.clo 341 [pt b01]), (5, cI x15), (6, cI x16)], [oA w00 2 kI64 1 l14, oB b01 42 [cI p1_0.id, cI p1_0.room, cI p1_0.author, cI p1_0.kind, cI p1_0.key, cI p1_0.n, C.str p1_0.text, cM kI64 1 p1_0.prev, cI p1_0.time]]⟩) (fun k (l14, x15, x16) => iter (fun z36 => Zgn p1_0 z36.1 z36.2.1 z36.2.2) k (l14, x15, x16) = some o39) g40 (Y25.both (ns := [0, 0]) rfl rfl) ?_
  rintro k ⟨l14, x15, x16⟩ i43
  refine Y4d (show iter (fun z36 => Zgn p1_0 z36.1 z36.2.1 z36.2.2) k (l14, x15, x16) = some o39 from i43) fun k42 y44 hlt_k42 h h45 => ?_
  replace h : Zgn p1_0 l14 x15 x16 = some y44 := h
  unfold Zgn at h
  refine zw ?_
  refine cnd h (fun hb17 h => ?_) fun hb17 h => ?_
  ·
   refine AW.ct hb17 rfl ?_
   refine AW.skip ?_
   refine AW.seq ?_
   refine AW.cut (τ := List Int × Int) (fun (l25, x26) => ⟨[(0, cV w00), (1, C.clo 341 [pt b01]), (5, cI x26), (6, cI x16)], [oA w00 2 kI64 1 l25, oB b01 42 [cI p1_0.id, cI p1_0.room, cI p1_0.author, cI p1_0.kind, cI p1_0.key, cI p1_0.n, C.str p1_0.text, cM kI64 1 p1_0.prev, cI p1_0.time]]⟩) (fun (l25, x26) => Zgm x16 l25 x26 = some y44) ?_ ?_
   ·
    refine zw ?_
    refine oi h fun e18 g19 h => ?_
    refine zw ?_
    refine ob' h fun r20 g21 h => ?_
    refine Ops.hd (ns := [1]) rfl rfl (Y77 (cs := [_]) (ds := [_]) rfl ((Zgg e18 p1_0).h _ _ g21) rfl rfl) ?_
    refine zw ?_
    refine cnd h (fun hb22 h => ?_) fun hb22 h => ?_
    ·
     refine AW.cond rfl (fun hn => absurd ((Y46 hb22).symm.trans hn) (by decide)) (fun _ => ?_)
     refine zw ?_
     exact ⟨(l14, x15), h, Y25.both (ns := [1, 0]) rfl rfl⟩
    refine AW.cond rfl (fun _ => ?_) (fun hn => absurd ((Y47 hb22).symm.trans hn) (by decide))
    refine zw ?_
    refine ob' h fun e23 g24 h => ?_
    refine zw ?_
    refine Ops.hd (ns := [1]) rfl rfl (Y3f (e' := e18) ld_2.h rfl rfl (One.val rfl) (Y2f g24).2.2 rfl rfl) ?_
    refine zw ?_
    exact ⟨((List.set l14 (Int.toNat x15) e18), (IntKind.i64.wrap (x15 + 1))), h, Y25.both (ns := [0, 0]) rfl rfl⟩
   rintro ⟨l25, x26⟩ h
   replace h : Zgm x16 l25 x26 = some y44 := h
   unfold Zgm at h
   refine zw ?_
   obtain rfl := Wj h
   exact ⟨k42, (l25, x26, (IntKind.i64.wrap (x16 + 1))), hlt_k42, h45, Y25.both (ns := [0, 0]) rfl rfl⟩
  refine AW.cf hb17 rfl ?_
  refine AW.exit ?_
  obtain rfl := Wj h
  obtain rfl := Wj h45
  replace h := q41
  exact ⟨(l14, x15), h, Y25.both (ns := [0, 0]) rfl rfl⟩
 rintro ⟨l27, x28⟩ h
 replace h : Zgl l27 x28 = some r := h
 unfold Zgl at h
 refine zw ?_
 refine ob' h fun u30 c29 h => ?_
 refine Ops.v rfl (Y7l (p := 0) (l := (Int.toNat x28)) Yat.h rfl rfl rfl (Wo (Y45 c29)) rfl rfl) ?_
 refine ob' h fun u32 c31 h => ?_
 refine Ops.hd (ns := [0]) rfl rfl (Y7t (z := 0) Yb9 ze_2 (Y4e rfl rfl) rfl (Wo (Y45 c31))) ?_
 refine zw ?_
 refine ob' h fun u34 c33 h => ?_
 refine Ops.v rfl (Y7m (p := 0) (l := (Int.toNat x28)) Yat.h rfl rfl rfl (Wo (Y45 c33)) rfl rfl) ?_
 refine zw ?_
 refine AW.ret ?_
 rw [← Wj h]
 exact finI ⟨[cV (Y7j w00 (Int.toNat x28))], _, Y25.prefix (p := 0) (h := (Int.toNat x28)) rfl (Int.le_toNat_len c33), (.cons (.tmp rfl) .nil), [0, 0], _, _, rfl, ⟨(Y7j w00 (Int.toNat x28)), rfl, rfl⟩⟩
instance Zgq (p0 : List Int) (p1_0 : Y9v) : SpO Tryz.prog 340 (Zgo p0 p1_0) (.x fun (w00 : Value) => .x fun (b01 : Nat) => .d [cV w00, C.clo 341 [pt b01]] [oA w00 2 kI64 1 p0, oB b01 42 [cI p1_0.id, cI p1_0.room, cI p1_0.author, cI p1_0.kind, cI p1_0.key, cI p1_0.n, C.str p1_0.text, cM kI64 1 p1_0.prev, cI p1_0.time]] fun r => .x fun (v35 : Value) => .d (cV v35) [oA v35 2 kI64 1 r, oB b01 42 [cI p1_0.id, cI p1_0.room, cI p1_0.author, cI p1_0.kind, cI p1_0.key, cI p1_0.n, C.str p1_0.text, cM kI64 1 p1_0.prev, cI p1_0.time]]) := ⟨fun w00 b01 r h => Zgp p0 p1_0 r h⟩

def Zgr (l29 : List Int) : Option (List Int) := some l29
def Zgs (p0 : Ya4) (p1 : List Int) (l17 : List Int) (x18 : Int) : Option ((List Int × Int) ⊕ ((List Int))) := cond (decide (x18 < (p1.length : Int))) ((getI p1 x18).bind fun e20 => (Zbz p0.graph e20).bind fun r22 => (Zgo l17 r22.1).bind fun r25 => some (.inl (r25, (IntKind.i64.wrap (x18 + 1))))) (some (.inr l17))
def Zgt (p0 : Ya4) (p1 : List Int) : Option (List Int) := (Zel p1).bind fun r1 => (Zgd r1).bind fun r4 => (iter (fun z31 => Zgs p0 p1 z31.1 z31.2) big (r4, 0)).bind fun y32 => Zgr y32
instance Zgu (p0 : Ya4) (p1 : List Int) : SpO Tryz.prog 256 (Zgt p0 p1) (.d [C.ip [cI p0.graph.room, cM Ya6 9 p0.graph.events, cM Ya6 9 p0.graph.parked, C.imap .i64 Yak p0.depth, C.imap .i64 Yal p0.before, C.imap .i64 Yal p0.after, C.imap .i64 Yak p0.refused], cM kI64 1 p1] [] fun r => .x fun (v30 : Value) => .d (cV v30) [oA v30 2 kI64 1 r]) := ⟨so Tryz.func256 rfl rfl fun r X h => gh (.k (.k (.c1 (fun l29 => .x fun v28 => .d [(5, cV v28)] [oA v28 2 kI64 1 l29]) [] [] (.l2 (fun l17 x18 => .x fun v16 => .d [(5, cV v16), (15, cI x18)] [oA v16 2 kI64 1 l17]) [0,13,14] [] .z) .z)))⟩
instance Zgu' (p0 : Ya4) (p1 : List Int) : Sp Tryz.prog 256 [C.ip [cI p0.graph.room, cM Ya6 9 p0.graph.events, cM Ya6 9 p0.graph.parked, C.imap .i64 Yak p0.depth, C.imap .i64 Yal p0.before, C.imap .i64 Yal p0.after, C.imap .i64 Yak p0.refused], cM kI64 1 p1] (Zgt p0 p1) (fun r => cM kI64 1 r) := ⟨fun r h => Ok.freeze ((Zgu p0 p1).h r h) (by rintro c qs ⟨v30, rfl, rfl⟩; exact Frz.arr)⟩

def Zgv (p0 : Ya4) : Option (List Int) := (Zf7 p0).bind fun r1 => (Zgt p0 r1).bind fun r3 => some r3
instance Zgw (p0 : Ya4) : Sp Tryz.prog 134 [C.ip [cI p0.graph.room, cM Ya6 9 p0.graph.events, cM Ya6 9 p0.graph.parked, C.imap .i64 Yak p0.depth, C.imap .i64 Yal p0.before, C.imap .i64 Yal p0.after, C.imap .i64 Yak p0.refused]] (Zgv p0) (fun r => cM kI64 1 r) := Sp.of (so Tryz.func134 rfl rfl fun r X h => gh .z)

end Go.Proofs.YtmaefakalikkiaaGreat
