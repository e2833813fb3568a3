/- Printed by gen.py: plain functions for Go functions, and that the walks keep to them. -/
import Derived.Test.YtomachnjepgpbaaGreatEQ5
set_option autoImplicit false
set_option linter.unusedVariables false
set_option linter.unusedSimpArgs false
set_option maxHeartbeats 8000000
set_option maxRecDepth 100000
namespace Go.Proofs.YtomachnjepgpbaaGreat
open Go Go.Abs
attribute [local irreducible] AW Ops OpsD Y3z VoK HoK GhF UsC Go.Abs.Fin PkK LenT LenL Y98 BldK FzK FzLK
def Z95 (x31 : Int) (l47 : List Int) : Option ((List Int × Int) ⊕ ((List Int))) := some (.inl (l47, (IntKind.i64.wrap (x31 * 2))))
def Z96 (p1 : Int) (p2_0 : List Int) (x31 : Int) (l42 : List Int) (x43 : Int) : Option ((List Int × Int) ⊕ ((List Int))) := cond (decide ((IntKind.i64.wrap (x43 + x31)) < p1)) ((Z93 l42 x43 (IntKind.i64.wrap (x43 + x31)) p1 p2_0).bind fun r45 => Z95 x31 r45) (Z95 x31 l42)
def Z97 (p1 : Int) (p2_0 : List Int) (x31 : Int) (l36 : List Int) (x37 : Int) (x38 : Int) : Option ((List Int × Int × Int) ⊕ ((List Int × Int))) := cond (decide (x38 ≤ p1)) ((Z93 l36 x37 (IntKind.i64.wrap (x37 + x31)) x38 p2_0).bind fun r40 => some (.inl (r40, x38, (IntKind.i64.wrap (x38 + (IntKind.i64.wrap (2 * x31))))))) (some (.inr (l36, x37)))
def Z98 (p1 : Int) (p2_0 : List Int) (l30 : List Int) (x31 : Int) : Option ((List Int × Int) ⊕ ((List Int))) := cond (decide (x31 < p1)) ((iter (fun z48 => Z97 p1 p2_0 x31 z48.1 z48.2.1 z48.2.2) big (l30, 0, (IntKind.i64.wrap (2 * x31)))).bind fun (y49, y50) => Z96 p1 p2_0 x31 y49 y50) (some (.inr l30))
def Z99 (p1 : Int) (p2_0 : List Int) (l10 : List Int) (x11 : Int) : Option (List Int) := (Z8a l10 x11 p1 p2_0).bind fun r12 => (iter (fun z51 => Z98 p1 p2_0 z51.1 z51.2) big (r12, 20)).bind fun y52 => some y52
def Z9a (p1 : Int) (p2_0 : List Int) (l4 : List Int) (x5 : Int) (x6 : Int) : Option ((List Int × Int × Int) ⊕ ((List Int × Int))) := cond (decide (x6 ≤ p1)) ((Z8a l4 x5 x6 p2_0).bind fun r8 => some (.inl (r8, x6, (IntKind.i64.wrap (x6 + 20))))) (some (.inr (l4, x5)))
def Z9b (p0 : List Int) (p1 : Int) (p2_0 : List Int) : Option (List Int) := (iter (fun z53 => Z9a p1 p2_0 z53.1 z53.2.1 z53.2.2) big (p0, 0, 20)).bind fun (y54, y55) => Z99 p1 p2_0 y54 y55
instance Z9c (p0 : List Int) (p1 : Int) (p2_0 : List Int) : SpO Tryz.prog 243 (Z9b p0 p1 p2_0) (.x fun (w00 : Value) => .x fun (b01 : Nat) => .d [cV w00, cI p1, C.clo 208 [pt b01]] [oA w00 3 kI64 1 p0, oB b01 39 [cM kI64 1 p2_0]] fun r => .d (C.tup []) [oA w00 3 kI64 1 r, oB b01 39 [cM kI64 1 p2_0]]) := ⟨fun w00 b01 => so Tryz.func243 rfl rfl fun r X h => gh (.q 2 (.c2 (fun l10 x11 => .d [(7, cI x11)] [oA w00 3 kI64 1 l10]) [0,1,2,6] [1] (.l3 (fun l4 x5 x6 => .d [(7, cI x5), (8, cI x6)] [oA w00 3 kI64 1 l4]) [0,1,2,6] [1] .z) (.l2 (fun l30 x31 => .d [(6, cI x31)] [oA w00 3 kI64 1 l30]) [0,1,2] [1] (.b (.q 1 (.c2 (fun l42 x43 => .d [(7, cI x43)] [oA w00 3 kI64 1 l42]) [0,1,2,6] [1] (.l3 (fun l36 x37 x38 => .d [(7, cI x37), (8, cI x38)] [oA w00 3 kI64 1 l36]) [0,1,2,6] [1] .z) (.c1 (fun l47 => .d [] [oA w00 3 kI64 1 l47]) [0,1,2,6] [1] .z .z))) .z))))⟩

def Z9d (p0 : List Int) (p1_0 : List Int) : Option (List Int) := (Z9b p0 (p0.length : Int) p1_0).bind fun r1 => some r1
instance Z9e (p0 : List Int) (p1_0 : List Int) : SpO Tryz.prog 207 (Z9d p0 p1_0) (.x fun (w00 : Value) => .x fun (b01 : Nat) => .d [cV w00, C.clo 208 [pt b01]] [oA w00 3 kI64 1 p0, oB b01 39 [cM kI64 1 p1_0]] fun r => .d (C.tup []) [oA w00 3 kI64 1 r, oB b01 39 [cM kI64 1 p1_0]]) := ⟨fun w00 b01 => so Tryz.func207 rfl rfl fun r X h => gh .z⟩

def Z9f (l46 : List Int) : Option (List Int) := some l46
def Z9g (p0 : Y9k) (r21 : List Int) (l34 : List Int) (x35 : Int) : Option ((List Int × Int) ⊕ ((List Int))) := cond (decide (x35 < (r21.length : Int))) ((getI r21 x35).bind fun e37 => (getI p0.events e37).bind fun e39 => (chk (decide ((l34.length + [e39.id].length) * 8 ≤ 140737488355328))).bind fun u43 => some (.inl ((l34 ++ [e39.id]), (IntKind.i64.wrap (x35 + 1))))) (some (.inr l34))
def Z9h (p0 : Y9k) (r2 : List Int × Bool) (l20 : List Int) : Option (List Int) := (Z9d l20 r2.1).bind fun r21 => (iter (fun z48 => Z9g p0 r21 z48.1 z48.2) big (([] : List Int), 0)).bind fun y49 => Z9f y49
def Z9i (p0 : Y9k) (l12 : List Int) (x13 : Int) : Option ((List Int × Int) ⊕ ((List Int))) := cond (decide (x13 < (p0.events.length : Int))) ((chk (decide ((l12.length + [x13].length) * 8 ≤ 140737488355328))).bind fun u17 => some (.inl ((l12 ++ [x13]), (IntKind.i64.wrap (x13 + 1))))) (some (.inr l12))
def Z9j (p0 : Y9k) : Option (List Int) := (Z7i p0).bind fun r2 => (iter (fun z50 => Z9i p0 z50.1 z50.2) big (([] : List Int), 0)).bind fun y51 => Z9h p0 r2 y51
instance Z9k (p0 : Y9k) : SpO Tryz.prog 148 (Z9j p0) (.d [C.agg [cI p0.room, cM Y9q 9 p0.events, cM Y9q 9 p0.parked]] [] fun r => .x fun (v47 : Value) => .d (cV v47) [oA v47 2 kI64 1 r]) := ⟨so Tryz.func148 rfl rfl fun r X h => gh (.q 3 (.c1 (fun l20 => .x fun v19 => .d [(5, cV v19)] [oA v19 3 kI64 1 l20]) [1,3] [2,1] (.l2 (fun l12 x13 => .x fun v11 => .d [(5, cV v11), (19, cI x13)] [oA v11 3 kI64 1 l12]) [1,3,18] [2,1] .z) (.q 2 (.c1 (fun l46 => .x fun v45 => .d [(7, cV v45)] [oA v45 2 kI64 1 l46]) [] [] (.l2 (fun l34 x35 => .x fun v33 => .d [(7, cV v33), (33, cI x35)] [oA v33 2 kI64 1 l34]) [1,31,32] [3,1] .z) .z))))⟩
instance Z9k' (p0 : Y9k) : Sp Tryz.prog 148 [C.agg [cI p0.room, cM Y9q 9 p0.events, cM Y9q 9 p0.parked]] (Z9j p0) (fun r => cM kI64 1 r) := ⟨fun r h => Ok.freeze ((Z9k p0).h r h) (by rintro c qs ⟨v47, rfl, rfl⟩; exact Frz.arr)⟩

def Z9l (p0 : Y9k) (p1 : Int) : Option (Y9j × Bool) := (Z6x p0.events p1).bind fun r3 => cond r3.2 ((getI p0.events r3.1).bind fun e6 => some (e6, true)) (some ((Y9j.mk 0 0 0 0 0 0 ByteArray.empty [] 0), false))
instance Z9m (p0 : Y9k) (p1 : Int) : Sp Tryz.prog 99 [C.agg [cI p0.room, cM Y9q 9 p0.events, cM Y9q 9 p0.parked], cI p1] (Z9l p0 p1) (fun r => C.tup [C.agg [cI r.1.id, cI r.1.room, cI r.1.author, cI r.1.kind, cI r.1.key, cI r.1.n, C.str r.1.text, cM kI64 1 r.1.prev, cI r.1.time], C.bool r.2]) := Sp.of (so Tryz.func99 rfl rfl fun r X h => gh .z)

def Z9n (l20 : List (List Y9m)) : Option (List (List Y9m)) := some l20
def Z9o (p0 : Y9n) (p1 : List Int) (l10 : List (List Y9m)) (x11 : Int) : Option ((List (List Y9m) × Int) ⊕ ((List (List Y9m)))) := cond (decide (x11 < (p1.length : Int))) ((getI p1 x11).bind fun e13 => (chk (decide ((l10.length + [(Option.getD (mget p0.after e13) ([] : List Y9m))].length) * 24 ≤ 140737488355328))).bind fun u17 => some (.inl ((l10 ++ [(Option.getD (mget p0.after e13) ([] : List Y9m))]), (IntKind.i64.wrap (x11 + 1))))) (some (.inr l10))
def Z9p (p0 : Y9n) (p1 : List Int) : Option (List (List Y9m)) := (iter (fun z22 => Z9o p0 p1 z22.1 z22.2) big (([] : List (List Y9m)), 0)).bind fun y23 => Z9n y23
instance Z9q (p0 : Y9n) (p1 : List Int) : SpO Tryz.prog 170 (Z9p p0 p1) (.x fun (b00 : Nat) => .x fun (b01 : Nat) => .x fun (b02 : Nat) => .x fun (b03 : Nat) => .x fun (b04 : Nat) => .d [pt b00, cM kI64 1 p1] [oB b00 100 [cI p0.graph.room, cM Y9q 9 p0.graph.events, cM Y9q 9 p0.graph.parked, mt b01, mt b02, mt b03, mt b04], Abs.Obj.map b01 .i64 Y9r p0.depth, Abs.Obj.map b02 .i64 Y9u p0.before, Abs.Obj.map b03 .i64 Y9u p0.after, Abs.Obj.map b04 .i64 Y9r p0.refused] fun r => .x fun (v21 : Value) => .d (cV v21) [oA v21 29 Y9t 1 r, oB b00 100 [cI p0.graph.room, cM Y9q 9 p0.graph.events, cM Y9q 9 p0.graph.parked, mt b01, mt b02, mt b03, mt b04], Abs.Obj.map b01 .i64 Y9r p0.depth, Abs.Obj.map b02 .i64 Y9u p0.before, Abs.Obj.map b03 .i64 Y9u p0.after, Abs.Obj.map b04 .i64 Y9r p0.refused]) := ⟨fun b00 b01 b02 b03 b04 => so Tryz.func170 rfl rfl fun r X h => gh (.q 2 (.c1 (fun l20 => .x fun v19 => .d [(5, cV v19)] [oA v19 29 Y9t 1 l20]) [] [1,2,3,4,5] (.l2 (fun l10 x11 => .x fun v9 => .d [(5, cV v9), (11, cI x11)] [oA v9 29 Y9t 1 l10]) [0,9,10] [1,2,3,4,5] .z) .z))⟩

def Z9r : Option Int := some (-1)
def Z9s (p0 : List Y9m) (p1 : Y9m) (x6 : Int) : Option (Int ⊕ (Int ⊕ Unit)) := cond (decide (x6 < (p0.length : Int))) ((getI p0 x6).bind fun e8 => cond ((p1.kind == e8.kind) && ((p1.key == e8.key) && ((p1.id == e8.id) && true))) (some (.inr (.inl x6))) (some (.inl (IntKind.i64.wrap (x6 + 1))))) (some (.inr (.inr ())))
def Z9t (p0 : List Y9m) (p1 : Y9m) : Option Int := (iter (Z9s p0 p1) big 0).bind (fun z12 => match z12 with | .inl y11 => some y11 | .inr () => Z9r)
instance Z9u (p0 : List Y9m) (p1 : Y9m) : Sp Tryz.prog 210 [cM Y9s 3 p0, C.agg [cI p1.kind, cI p1.key, cI p1.id]] (Z9t p0 p1) (fun r => cI r) := Sp.of (so Tryz.func210 rfl rfl fun r X h => gh (.q 1 (.c0 (.d [] []) [] [] (.l1 (fun x6 => .d [(8, cI x6)] []) [0,3,7] [0] (.b (.r [0] [0,4] [] [1,4,8,12,17,20] .z) .z)) .z)))

def Z9v (p0 : List Y9m) (p1 : Y9m) : Option Bool := (Z9t p0 p1).bind fun r2 => some (decide (r2 ≥ 0))
instance Z9w (p0 : List Y9m) (p1 : Y9m) : Sp Tryz.prog 151 [cM Y9s 3 p0, C.agg [cI p1.kind, cI p1.key, cI p1.id]] (Z9v p0 p1) (fun r => C.bool r) := Sp.of (so Tryz.func151 rfl rfl fun r X h => gh .z)

def Z9x (x6 : Bool) : Option Bool := some x6
def Z9y (p0 : Y9j) : Option Bool := cond (p0.kind == 1) (Z9x true) (cond (p0.kind == 3) (Z9x true) (cond (p0.kind == 5) (Z9x true) (cond (p0.kind == 2) (Z9x (p0.key != p0.author)) (Z9x false))))
instance Z9z (p0 : Y9j) : Sp Tryz.prog 154 [C.agg [cI p0.id, cI p0.room, cI p0.author, cI p0.kind, cI p0.key, cI p0.n, C.str p0.text, cM kI64 1 p0.prev, cI p0.time]] (Z9y p0) (fun r => C.bool r) := Sp.of (so Tryz.func154 rfl rfl fun r X h => gh (.q 1 (.c1 (fun x6 => .d [(2, C.bool x6)] []) [] [] .z .z)))

def Za0 : Option Int := some 0
def Za1 (p0 : List Int) (x5 : Int) : Option (Int ⊕ (Int ⊕ Unit)) := cond (decide (x5 < (p0.length : Int))) ((getI p0 x5).bind fun e7 => cond (e7 != 0) (some (.inr (.inl e7))) (some (.inl (IntKind.i64.wrap (x5 + 1))))) (some (.inr (.inr ())))
def Za2 (p0 : List Int) : Option Int := (iter (Za1 p0) big 0).bind (fun z11 => match z11 with | .inl y10 => some y10 | .inr () => Za0)
instance Za3 (p0 : List Int) : Sp Tryz.prog 155 [cM kI64 1 p0] (Za2 p0) (fun r => cI r) := Sp.of (so Tryz.func155 rfl rfl fun r X h => gh (.q 2 (.c0 (.d [] []) [3] [] (.l1 (fun x5 => .d [(8, cI x5)] []) [3,6,7] [] .z) .z)))

def Za4 (p0 : Y9m) (p1 : Y9m) : Option Int := (Z6o p0.kind p1.kind).bind fun r3 => (Z6o p0.key p1.key).bind fun r5 => (Za2 [r3, r5]).bind fun r8 => some r8
instance Za5 (p0 : Y9m) (p1 : Y9m) : Sp Tryz.prog 233 [C.agg [cI p0.kind, cI p0.key, cI p0.id], C.agg [cI p1.kind, cI p1.key, cI p1.id]] (Za4 p0 p1) (fun r => cI r) := Sp.of (so Tryz.func233 rfl rfl fun r X h => gh (.r [0,0] [1,3,6,8] [] [0,5,8,13,20,25,28,33,18,38,42,46,48] .z))

def Za6 (x16 : Int) (x22 : Bool) : Option (Int × Bool) := some (x16, x22)
def Za7 (p0 : List Y9m) (p1 : Y9m) (x16 : Int) : Option (Int × Bool) := cond (decide (x16 < (p0.length : Int))) ((getI p0 x16).bind fun e18 => (Za4 e18 p1).bind fun r20 => Za6 x16 (r20 == 0)) (Za6 x16 false)
def Za8 (p0 : List Y9m) (p1 : Y9m) (x8 : Int) (x9 : Int) : Option ((Int × Int) ⊕ (Int)) := cond (decide (x8 < x9)) ((getI p0 (IntKind.i64.wrap (shrI .u64 (IntKind.u64.wrap (IntKind.i64.wrap (x8 + x9))) 1))).bind fun e11 => (Za4 e11 p1).bind fun r13 => cond (decide (r13 < 0)) (some (.inl ((IntKind.i64.wrap ((IntKind.i64.wrap (shrI .u64 (IntKind.u64.wrap (IntKind.i64.wrap (x8 + x9))) 1)) + 1)), x9))) (some (.inl (x8, (IntKind.i64.wrap (shrI .u64 (IntKind.u64.wrap (IntKind.i64.wrap (x8 + x9))) 1)))))) (some (.inr x8))
def Za9 (p0 : List Y9m) (p1 : Y9m) : Option (Int × Bool) := (iter (fun z23 => Za8 p0 p1 z23.1 z23.2) big (0, (p0.length : Int))).bind fun y24 => Za7 p0 p1 y24
instance Zaa (p0 : List Y9m) (p1 : Y9m) : Sp Tryz.prog 234 [cM Y9s 3 p0, C.agg [cI p1.kind, cI p1.key, cI p1.id], cV (.func (.func 233) #[] #[])] (Za9 p0 p1) (fun r => C.tup [cI r.1, C.bool r.2]) := Sp.of (so Tryz.func234 rfl rfl fun r X h => gh (.q 3 (.c1 (fun x16 => .d [(9, cI x16)] []) [0,2,4,8] [0] (.l2 (fun x8 x9 => .d [(9, cI x8), (10, cI x9)] []) [0,2,4,8] [0] (.b (.r [0] [4,5] [] [0,4,8,12,17,21,26,28] .z) .z)) (.e 9 cI fun x16 => .c1 (fun x22 => .d [(6, cI x16), (7, C.bool x22)] []) [] [] (.r [0] [9,10] [] [0,4,8,12,16,20,24,28,32,37,41,46,48,52,56,60] .z) .z))))

def Zab (p0 : List Y9m) (p1 : Y9m) : Option (Int × Bool) := (Za9 p0 p1).bind fun r2 => some (r2.1, r2.2)
instance Zac (p0 : List Y9m) (p1 : Y9m) : Sp Tryz.prog 175 [cM Y9s 3 p0, C.agg [cI p1.kind, cI p1.key, cI p1.id]] (Zab p0 p1) (fun r => C.tup [cI r.1, C.bool r.2]) := Sp.of (so Tryz.func175 rfl rfl fun r X h => gh .z)

def Zad (p0 : List Y9m) (p1 : Int) (p2 : Int) : Option Int := (Zab p0 (Y9m.mk p1 p2 0)).bind fun r1 => cond r1.2 ((getI p0 r1.1).bind fun e4 => some e4.id) (some 0)
instance Zae (p0 : List Y9m) (p1 : Int) (p2 : Int) : Sp Tryz.prog 95 [cM Y9s 3 p0, cI p1, cI p2] (Zad p0 p1 p2) (fun r => cI r) := Sp.of (so Tryz.func95 rfl rfl fun r X h => gh .z)

def Zaf (p0 : Y9k) (p1 : List Y9m) (p2 : Int) (p3 : Int) : Option (Y9j × Bool) := (Zad p1 p2 p3).bind fun r3 => (Z9l p0 r3).bind fun r5 => some (r5.1, r5.2)
instance Zag (p0 : Y9k) (p1 : List Y9m) (p2 : Int) (p3 : Int) : Sp Tryz.prog 177 [C.agg [cI p0.room, cM Y9q 9 p0.events, cM Y9q 9 p0.parked], cM Y9s 3 p1, cI p2, cI p3] (Zaf p0 p1 p2 p3) (fun r => C.tup [C.agg [cI r.1.id, cI r.1.room, cI r.1.author, cI r.1.kind, cI r.1.key, cI r.1.n, C.str r.1.text, cM kI64 1 r.1.prev, cI r.1.time], C.bool r.2]) := Sp.of (so Tryz.func177 rfl rfl fun r X h => gh (.r [0,0] [0] [8] [1,4,8,12,18,22,24,28,35,36] .z))

def Zah (p0 : Y9k) (p1 : List Y9m) (p2 : Int) : Option Int := (Zaf p0 p1 2 p2).bind fun r2 => some r2.1.n
instance Zai (p0 : Y9k) (p1 : List Y9m) (p2 : Int) : Sp Tryz.prog 195 [C.agg [cI p0.room, cM Y9q 9 p0.events, cM Y9q 9 p0.parked], cM Y9s 3 p1, cI p2] (Zah p0 p1 p2) (fun r => cI r) := Sp.of (so Tryz.func195 rfl rfl fun r X h => gh .z)

def Zaj (x10 : Bool) : Option Int := cond x10 (some 100) (some 0)
def Zak (p0 : Y9k) (p1 : List Y9m) (p2 : Int) : Option Int := (Zaf p0 p1 3 p2).bind fun r2 => cond r2.2 (some r2.1.n) ((Zaf p0 p1 1 0).bind fun r6 => cond r6.2 (Zaj (r6.1.author == p2)) (Zaj false))
instance Zal (p0 : Y9k) (p1 : List Y9m) (p2 : Int) : Sp Tryz.prog 100 [C.agg [cI p0.room, cM Y9q 9 p0.events, cM Y9q 9 p0.parked], cM Y9s 3 p1, cI p2] (Zak p0 p1 p2) (fun r => cI r) := Sp.of (so Tryz.func100 rfl rfl fun r X h => gh (.b .z (.q 2 (.c1 (fun x10 => .d [(33, C.bool x10)] []) [] [] .z .z))))

def Zam (p0 : Bool) : Option Int := cond p0 (some 11) (some 0)
instance Zan (p0 : Bool) : Sp Tryz.prog 216 [C.bool p0] (Zam p0) (fun r => cI r) := Sp.of (so Tryz.func216 rfl rfl fun r X h => gh .z)

def Zao (x23 : Int) : Option Int := some x23
def Zap (p0 : Y9k) (p1 : List Y9m) (p2 : Y9j) (p3 : Int) (x4 : Bool) : Option Int := cond (p2.n == 1) ((Zaf p0 p1 5 0).bind fun r6 => (Zaf p0 p1 1 0).bind fun r9 => cond (p3 == 3) ((Zam true).bind fun r13 => Zao r13) (cond x4 ((Zam false).bind fun r16 => Zao r16) (cond (r6.1.n != 1) ((Zam (r9.1.author != p2.author)).bind fun r19 => Zao r19) ((Zam false).bind fun r21 => Zao r21)))) (cond (p2.n == 2) ((Zam (!x4)).bind fun r25 => some r25) (some 11))
def Zaq (p0 : Y9k) (p1 : List Y9m) (p2 : Y9j) (p3 : Int) : Option Int := cond (p3 == 1) (Zap p0 p1 p2 p3 true) (Zap p0 p1 p2 p3 (p3 == 4))
instance Zar (p0 : Y9k) (p1 : List Y9m) (p2 : Y9j) (p3 : Int) : Sp Tryz.prog 214 [C.agg [cI p0.room, cM Y9q 9 p0.events, cM Y9q 9 p0.parked], cM Y9s 3 p1, C.agg [cI p2.id, cI p2.room, cI p2.author, cI p2.kind, cI p2.key, cI p2.n, C.str p2.text, cM kI64 1 p2.prev, cI p2.time], cI p3] (Zaq p0 p1 p2 p3) (fun r => cI r) := Sp.of (so Tryz.func214 rfl rfl fun r X h => gh (.q 1 (.c1 (fun x4 => .d [(9, C.bool x4)] []) [1,3,4,6] [1,0] .z (.b (.q 2 (.c1 (fun x23 => .d [(8, cI x23)] []) [] [] .z .z)) .z))))

def Zas (x15 : Int) : Option Int := some x15
def Zat (x25 : Int) : Option Int := some x25
def Zau (x32 : Int) : Option Int := some x32
def Zav (p2 : Y9j) (r3 : Int) (x8 : Bool) : Option Int := cond (p2.n == 4) (cond (r3 == 1) ((Zam true).bind fun r11 => Zas r11) ((Zam (r3 == 3)).bind fun r13 => Zas r13)) (cond (p2.n == 2) (cond x8 ((Zam true).bind fun r18 => Zat r18) (cond (r3 == 0) ((Zam true).bind fun r21 => Zat r21) ((Zam (r3 == 2)).bind fun r23 => Zat r23))) (cond (p2.n == 3) (cond x8 ((Zam true).bind fun r28 => Zau r28) ((Zam (r3 == 3)).bind fun r30 => Zau r30)) (some 11)))
def Zaw (p0 : Y9k) (p1 : List Y9m) (p2 : Y9j) (p3 : Int) : Option Int := (Zah p0 p1 p2.key).bind fun r3 => (Zak p0 p1 p2.key).bind fun r5 => cond (decide (p3 < 50)) (Zav p2 r3 true) (Zav p2 r3 (decide (p3 ≤ r5)))
instance Zax (p0 : Y9k) (p1 : List Y9m) (p2 : Y9j) (p3 : Int) : Sp Tryz.prog 215 [C.agg [cI p0.room, cM Y9q 9 p0.events, cM Y9q 9 p0.parked], cM Y9s 3 p1, C.agg [cI p2.id, cI p2.room, cI p2.author, cI p2.kind, cI p2.key, cI p2.n, C.str p2.text, cM kI64 1 p2.prev, cI p2.time], cI p3] (Zaw p0 p1 p2 p3) (fun r => cI r) := Sp.of (so Tryz.func215 rfl rfl fun r X h => gh (.r [0,0] [0,3,5,8] [] [1,4,8,13,21,24,28,33,18,38,40,44] (.c1 (fun x8 => .d [(11, C.bool x8)] []) [6,9] [0] .z (.b (.c1 (fun x15 => .d [(8, cI x15)] []) [] [] .z .z) (.b (.c1 (fun x25 => .d [(8, cI x25)] []) [] [] .z .z) (.b (.c1 (fun x32 => .d [(8, cI x32)] []) [] [] .z .z) .z))))))

def Zay (x38 : Int) : Option Int := some x38
def Zaz (x55 : Int) : Option Int := some x55
def Zb0 (p0 : Y9k) (p2 : Y9j) (r8 : Int) (x41 : Bool) : Option Int := cond x41 ((Zam (decide (r8 < 50))).bind fun r43 => some r43) (cond (p2.kind == 8) ((Z9l p0 p2.key).bind fun r46 => cond r46.2 (cond (decide (r8 < 50)) ((Zam (r46.1.author != p2.author)).bind fun r51 => Zaz r51) ((Zam false).bind fun r53 => Zaz r53)) (some 6)) (some 0))
def Zb1 (p0 : Y9k) (p1 : List Y9m) (p2 : Y9j) (r6 : Int) (r8 : Int) (x16 : Bool) : Option Int := cond x16 ((Zaq p0 p1 p2 r6).bind fun r18 => some r18) (cond (r6 != 1) (some 11) (cond (p2.kind == 2) ((Zaw p0 p1 p2 r8).bind fun r22 => some r22) (cond (p2.kind == 3) (cond (decide (r8 < 50)) ((Zam true).bind fun r26 => Zay r26) (cond (decide (p2.n > r8)) ((Zam true).bind fun r29 => Zay r29) (cond (p2.key != p2.author) ((Zak p0 p1 p2.key).bind fun r32 => (Zam (decide (r32 ≥ r8))).bind fun r34 => Zay r34) ((Zam false).bind fun r36 => Zay r36)))) (cond (p2.kind == 4) (Zb0 p0 p2 r8 (p2.kind == 4)) (cond (p2.kind == 5) (Zb0 p0 p2 r8 (p2.kind == 5)) (Zb0 p0 p2 r8 (p2.kind == 6)))))))
def Zb2 (p0 : Y9k) (p1 : List Y9m) (p2 : Y9j) (r3 : Y9j × Bool) (r6 : Int) (r8 : Int) (x11 : Bool) : Option Int := cond x11 (some 7) (cond (p2.kind == 1) (some 0) (cond r3.2 (cond (p2.kind == 2) (Zb1 p0 p1 p2 r6 r8 (p2.key == p2.author)) (Zb1 p0 p1 p2 r6 r8 false)) (some 10)))
def Zb3 (p0 : Y9k) (p1 : List Y9m) (p2 : Y9j) : Option Int := (Zaf p0 p1 1 0).bind fun r3 => (Zah p0 p1 p2.author).bind fun r6 => (Zak p0 p1 p2.author).bind fun r8 => cond (p2.kind == 1) (Zb2 p0 p1 p2 r3 r6 r8 r3.2) (Zb2 p0 p1 p2 r3 r6 r8 false)
instance Zb4 (p0 : Y9k) (p1 : List Y9m) (p2 : Y9j) : Sp Tryz.prog 157 [C.agg [cI p0.room, cM Y9q 9 p0.events, cM Y9q 9 p0.parked], cM Y9s 3 p1, C.agg [cI p2.id, cI p2.room, cI p2.author, cI p2.kind, cI p2.key, cI p2.n, C.str p2.text, cM kI64 1 p2.prev, cI p2.time]] (Zb3 p0 p1 p2) (fun r => cI r) := Sp.of (so Tryz.func157 rfl rfl fun r X h => gh (.r [0,0,0] [0,3,5,8] [] [1,4,8,13,21,24,28,33,18,38,40,44] (.q 1 (.c1 (fun x11 => .d [(29, C.bool x11)] []) [1,3,5,8,9,10] [2,1] .z (.b .z (.b .z (.b (.c1 (fun x16 => .d [(43, C.bool x16)] []) [1,3,5,9,10] [0,1] .z (.b .z (.b .z (.b .z (.b (.c1 (fun x38 => .d [(6, cI x38)] []) [] [] .z .z) (.c1 (fun x41 => .d [(98, C.bool x41)] []) [3,5,10,63] [0,1] .z (.b .z (.b (.b (.c1 (fun x55 => .d [(6, cI x55)] []) [] [] .z .z) .z) .z)))))))) .z)))))))

def Zb5 (p0 : List Y9m) : Option (List Y9m) := (chk (decide (p0.length * 24 ≤ 140737488355328))).bind fun _ => some p0
theorem Zb6 (p0 : List Y9m) (r : List Y9m) (h : Zb5 p0 = some r) : Ok Tryz.prog 80 [cM Y9s 3 p0] [] (fun c qs => ∃ (v : Value), c = cV v ∧ qs = [oA v 96 Y9s 3 r]) := by
 refine ob' h fun u hc h => ?_
 obtain rfl := Wj h
 have hc := Wo (Y45 hc)
 refine Ok.of_body (rs := [.tmp 2]) Tryz.func80 rfl rfl rfl rfl rfl fun X => ?_
 refine zw ?_
 refine Ops.h (ns := []) rfl rfl (Y63 Ybl.h rfl rfl) ?_
 rintro _ _ ⟨b, hb, rfl, rfl⟩
 refine zw ?_
 refine tf' b (fun hq => ?_) (fun hq => ?_)
 ·
  refine AW.cond rfl (fun _ => ?_) (fun hn => absurd (hq.symm.trans hn) (by decide))
  refine zw ?_
  refine AW.ret ?_
  obtain rfl := hb hq
  exact finI ⟨[cV s0], _, Y25.nil 96 Y9s 3, .cons (.tmp rfl) .nil, [0], _, _, rfl, ⟨_, rfl, rfl⟩⟩
 refine AW.cond rfl (fun hn => absurd (hq.symm.trans hn) (by decide)) (fun _ => ?_)
 refine zw ?_
 refine Ops.h (ns := []) rfl rfl (Y3l (k := Y9s) (ys := ([] : List Y9m)) Ybt .nil rfl rfl rfl) ?_
 rintro _ _ ⟨b1, rfl, rfl⟩
 refine zw ?_
 refine Ops.h (ns := [0]) rfl rfl (Y33 Ybt rfl rfl (by simpa using hc) (by simp; omega) rfl) ?_
 rintro _ _ ⟨v, rfl, rfl⟩
 refine zw ?_
 refine AW.ret ?_
 exact finI ⟨[cV v], _, Y25.refl _, .cons (.tmp rfl) .nil, [0], _, _, rfl, ⟨v, rfl, rfl⟩⟩
instance Zb6' (p0 : List Y9m) : Sp Tryz.prog 80 [cM Y9s 3 p0] (Zb5 p0) (fun r => cM Y9s 3 r) := ⟨fun r h => Ok.freeze (Zb6 p0 r h) (by rintro c qs ⟨v, rfl, rfl⟩; exact Frz.arr)⟩
instance Zb7 (p0 : List Y9m) : SpO Tryz.prog 80 (Zb5 p0) (.d [cM Y9s 3 p0] [] fun r => .x fun (v : Value) => .d (cV v) [oA v 96 Y9s 3 r]) := ⟨fun r h => Zb6 p0 r h⟩

def Zb8 (p0 : List Y9m) (p1 : Int) (p2 : Int) : Option (List Y9m) := delI p0 p1 p2
theorem Zb9 {w1 : Value} (p0 : List Y9m) (p1 : Int) (p2 : Int) (r : List Y9m) (h : Zb8 p0 p1 p2 = some r) : Ok Tryz.prog 217 [cV w1, cI p1, cI p2] [oA w1 96 Y9s 3 p0] (fun c qs => ∃ (v : Value), c = cV v ∧ qs = [oA v 96 Y9s 3 r]) := by
 obtain ⟨a, b, rfl, rfl, hij, hj, rfl⟩ := Y7k h
 refine Ok.of_body (rs := [.tmp 6]) Tryz.func217 rfl rfl rfl rfl rfl fun X => ?_
 refine AW.learn (Sim.arr_cap (p := 0) rfl) fun hw => ?_
 obtain ⟨A, cap, rfl, hc, _, _⟩ := hw
 refine zw ?_
 refine Ops.v rfl (Y7l (p := 0) Ybl.h rfl rfl rfl rfl rfl hij hj rfl) ?_
 refine zw ?_
 refine tf' (((a : Nat) : Int) == ((b : Nat) : Int)) (fun hq => ?_) (fun hq => ?_)
 ·
  refine AW.cond rfl (fun _ => ?_) (fun hn => absurd (hq.symm.trans hn) (by decide))
  refine zw ?_
  refine AW.ret ?_
  obtain rfl : a = b := by have := eq_of_beq hq; omega
  rw [List.take_append_drop]
  exact finI ⟨[cV (.slice A p0.length cap)], _, Y25.refl _, .cons (.tmp rfl) .nil, [0], _, _, rfl, ⟨_, rfl, rfl⟩⟩
 refine AW.cond rfl (fun hn => absurd (hq.symm.trans hn) (by decide)) (fun _ => ?_)
 refine zw ?_
 refine rD [] [] [] [0,4,8,12,16,20,26,28] ?_
 refine zw ?_
 refine OpsD.v rfl rfl (Y7p Ybl.h rfl rfl (by omega) hc rfl) ?_
 refine zw ?_
 refine OpsD.v rfl rfl (Y7o Ybl.h rfl rfl hj hc rfl) ?_
 refine OpsD.one ?_
 refine Y3z.h (ns := [0]) rfl rfl rfl (Y7m (v := .slice A p0.length cap) Ybt rfl rfl hij hj rfl) ?_
 rintro _ _ ⟨rfl, rfl⟩
 refine zw ?_
 refine Ops.v rfl (Y2j Ybl.h rfl rfl) ?_
 refine zw ?_
 refine Ops.v rfl (Y7n (p := 0) (h := p0.length) (v := .slice A p0.length cap) (l := a + (p0.length - b)) Ybl.h rfl rfl rfl rfl (by omega) (by simp; omega) rfl) ?_
 refine Ops.h (ns := [0]) rfl rfl (Y7h (v := .slice A p0.length cap) (l := a + (p0.length - b)) (z := (Y9m.mk 0 0 0)) Ybt Ybr (Y4g rfl rfl) rfl (by simp <;> omega)) ?_
 rintro _ _ ⟨rfl, rfl⟩
 refine zw ?_
 refine AW.ret ?_
 exact finI ⟨[cV (takeV (.slice A p0.length cap) (a + (p0.length - b)))], _, Y25.prefix (p := 0) (h := a + (p0.length - b)) rfl (by simp; omega), .cons (.tmp rfl) .nil, [0], _, _, rfl, ⟨_, rfl, by rw [Y7q hij hj]⟩⟩
instance Zba (p0 : List Y9m) (p1 : Int) (p2 : Int) : SpO Tryz.prog 217 (Zb8 p0 p1 p2) (.x fun (w1 : Value) => .d [cV w1, cI p1, cI p2] [oA w1 96 Y9s 3 p0] fun r => .x fun (v : Value) => .d (cV v) [oA v 96 Y9s 3 r]) := ⟨fun w1 r h => Zb9 p0 p1 p2 r h⟩

def Zbb (p0 : List Y9m) (p1 : Int) (p2 : List Y9m) : Option (List Y9m) := insI 24 p0 p1 p2
theorem Zbc {w1 w2 : Value} (p0 : List Y9m) (p1 : Int) (p2 : List Y9m) (r : List Y9m) (h : Zbb p0 p1 p2 = some r) : Ok Tryz.prog 218 [cV w1, cI p1, cV w2] [oA w1 96 Y9s 3 p0, oA w2 96 Y9s 3 p2] (fun c qs => ∃ (v : Value), c = cV v ∧ qs = [oA v 96 Y9s 3 r]) := by
 obtain ⟨i, rfl, hi, hm, hb, rfl⟩ := Y5k h
 refine Ok.of_body (rs := [.tmp 6]) Tryz.func218 rfl rfl rfl rfl rfl fun X => ?_
 refine AW.learn (Sim.arr_cap (p := 0) rfl) fun hw => ?_
 obtain ⟨A, cap, rfl, hc, hmax, hA⟩ := hw
 have hmax0 := hmax
 simp only [maxLen] at hmax
 refine zw ?_
 refine Ops.v rfl (Y5i Ybl.h rfl rfl hi hc rfl) ?_
 refine zw ?_
 refine AW.cond rfl (fun hn => absurd ((beq_false_of_ne (by omega)).symm.trans hn) (by decide)) (fun _ => ?_)
 refine zw ?_
 refine tf' (((i : Nat) : Int) == (p0.length : Int)) (fun hq => ?_) (fun hq => ?_)
 ·
  refine AW.cond rfl (fun _ => ?_) (fun hn => absurd (hq.symm.trans hn) (by decide))
  refine zw ?_
  refine Ops.h (ns := [0, 0]) rfl rfl (Y34 Ybt rfl rfl hb (by omega) rfl) ?_
  rintro _ _ ⟨v, rfl, rfl⟩
  refine zw ?_
  refine AW.ret ?_
  obtain rfl : i = p0.length := by have := eq_of_beq hq; omega
  rw [List.take_of_length_le (Nat.le_refl _), List.drop_of_length_le (Nat.le_refl _), List.append_nil]
  exact finI ⟨[cV v], _, Y25.refl _, .cons (.tmp rfl) .nil, [0], _, _, rfl, ⟨v, rfl, rfl⟩⟩
 have hlt : i < p0.length := by have := ne_of_beq_false hq; omega
 obtain ⟨b, rfl⟩ := hA.resolve_left (fun e => by rw [e.1] at hlt; exact absurd hlt (Nat.not_lt_zero _))
 refine AW.ghost (Y25.raw (p := 0) rfl) ?_
 rw [← Y5h b 3 p0.length cap]
 refine AW.cond rfl (fun hn => absurd (hq.symm.trans hn) (by decide)) (fun _ => ?_)
 refine AW.skip ?_
 refine AW.seq ?_
 refine AW.seq ?_
 refine AW.region ?_
 refine Ops.v rfl (Yr rfl rfl) ?_
 refine Ops.v rfl (Yr rfl rfl) ?_
 refine Ops.v rfl (Yx (r := .int .i64 ((p0.length + p2.length : Nat) : Int)) rfl rfl (Y5p (by omega) (by omega)) rfl) ?_
 refine zw ?_
 refine Ops.v rfl (Y58 Ybl.h rfl rfl) ?_
 refine zw ?_
 refine tf' (decide (((p0.length + p2.length : Nat) : Int) > (cap : Int))) (fun hg => ?_) (fun hg => ?_)
 ·
  have hg1 := Wo hg
  refine AW.cond rfl (fun _ => ?_) (fun hn => absurd (hg.symm.trans hn) (by decide))
  refine zw ?_
  refine Ops.v rfl (Y57 Ybl.h rfl rfl (by omega) (by omega) rfl) ?_
  refine Ops.v rfl (Yr rfl rfl) ?_
  refine Ops.v rfl (Yr rfl rfl) ?_
  refine Ops.v rfl (Yx (r := .int .i64 ((p0.length + p2.length : Nat) : Int)) rfl rfl (Y5p (by omega) (by omega)) rfl) ?_
  refine Ops.v rfl (Yr rfl rfl) ?_
  refine Ops.v rfl (Yx (r := .int .i64 ((p0.length + p2.length - i : Nat) : Int)) rfl rfl (Y5q (by omega) (by omega)) rfl) ?_
  refine Ops.h (ns := [0]) rfl rfl (Y5o (N := p0.length + p2.length) (k := Y9s) (z0 := (Y9m.mk 0 0 0)) Ybt un_3 Ybr (Y4g rfl rfl) rfl rfl (xs := p0.take i) (by rw [List.drop_zero, List.take_append_of_le_length (by simp; omega), List.map_take]) (by simp; omega) (by omega) (by omega) (by omega) hb (by decide) rfl) ?_
  rintro _ _ ⟨b2, c2, hc2, hm2, rfl, rfl⟩
  refine zw ?_
  refine Ops.v rfl (Y5n (o' := i) (l' := p0.length + p2.length - i) (c' := c2 - i) Ybl.h rfl rfl (by omega) (by omega) (by omega) (by omega) (by omega) (by omega) rfl) ?_
  refine zw ?_
  refine Ops.h (ns := [0, 1]) rfl rfl (Y5c (xs := p2) Ybl.h rfl rfl (by rw [List.take_of_length_le (by omega)]) (by simp; omega) rfl) ?_
  rintro _ _ ⟨rfl, rfl⟩
  refine zw ?_
  refine rD [] [] [] [0,4,8,12,16,20,24,28,34] ?_
  refine OpsD.v rfl rfl (Yr rfl rfl) ?_
  refine OpsD.v rfl rfl (Yr rfl rfl) ?_
  refine OpsD.v rfl rfl (Yr rfl rfl) ?_
  refine OpsD.v rfl rfl (Yx (r := .int .i64 ((i + p2.length : Nat) : Int)) rfl rfl (Y5p (by omega) (by omega)) rfl) ?_
  refine OpsD.v rfl rfl (Y5n (o' := i + p2.length) (l' := p0.length - i) (c' := c2 - (i + p2.length)) Ybl.h rfl rfl (by omega) (by omega) (by omega) (by omega) (by omega) (by omega) rfl) ?_
  refine zw ?_
  refine OpsD.v rfl rfl (Y5n (o' := i) (l' := p0.length - i) (c' := cap - i) Ybl.h rfl rfl (by omega) (by omega) (by omega) (by omega) (by omega) (by omega) rfl) ?_
  refine OpsD.one ?_
  refine Y3z.h (ns := [0, 1]) rfl rfl rfl (Y5j (xs := p0.drop i) Ybl.h rfl rfl (by rw [Y5r, List.drop_append_of_le_length (by simp; omega), List.take_append_of_le_length (by simp), List.take_of_length_le (by simp), List.map_drop]) (by rw [Y5r]; simp) (by simp; omega) rfl) ?_
  rintro _ _ ⟨rfl, rfl⟩
  refine zw ?_
  refine AW.ret ?_
  obtain ⟨q1, q2, q3, q4⟩ := Y5m (xs := p0) (ys := p2) (z := (Y9m.mk 0 0 0)) (m := p2.length) hlt hc2 rfl _ _ rfl rfl
  exact finI ⟨[cV _], _, Y25.arr2 (p := 0) (m := p0.length + p2.length) rfl q1 (by omega) q2 (by omega) (Y5h _ _ _ _), .cons (.tmp rfl) .nil, [0], _, _, rfl, ⟨_, rfl, rfl⟩⟩
 have hg1 := of_decide_eq_false hg
 refine AW.cond rfl (fun hn => absurd (hg.symm.trans hn) (by decide)) (fun _ => ?_)
 refine AW.skip ?_
 refine AW.seq ?_
 refine AW.region ?_
 refine Ops.v rfl (Yr rfl rfl) ?_
 refine Ops.v rfl (Yr rfl rfl) ?_
 refine Ops.v rfl (Yr rfl rfl) ?_
 refine Ops.v rfl (Yx (r := .int .i64 ((p0.length + p2.length : Nat) : Int)) rfl rfl (Y5p (by omega) (by omega)) rfl) ?_
 refine Ops.v rfl (Y57 Ybl.h rfl rfl (by omega) (by omega) rfl) ?_
 refine Ops.v rfl (Ys rfl rfl) ?_
 refine Ops.nil ?_
 refine AW.seq ?_
 refine AW.seq ?_
 refine AW.region ?_
 refine Ops.v rfl (Yr rfl rfl) ?_
 refine Ops.v rfl (Yr rfl rfl) ?_
 refine Ops.v rfl (Yr rfl rfl) ?_
 refine Ops.v rfl (Yr rfl rfl) ?_
 refine Ops.v rfl (Yx (r := .int .i64 ((i + p2.length : Nat) : Int)) rfl rfl (Y5p (by omega) (by omega)) rfl) ?_
 refine Ops.v rfl (Y5n (o' := i + p2.length) (l' := p0.length - i) (c' := cap - (i + p2.length)) Ybl.h rfl rfl (by omega) (by omega) (by omega) (by omega) (by omega) (by omega) rfl) ?_
 refine Ops.h (ns := [0, 0]) rfl rfl (Y5d (tR := 4) (k := Y9s) (zs := p2) (ys := p0.map some ++ List.replicate (cap - p0.length) none) Ybt Tryz.func254 rfl rfl (by kernel_rfl) (by kernel_rfl) rfl rfl (by intro e; rw [e] at hm; exact absurd hm (by decide)) (by intro e; have := congrArg List.length e; simp at this; omega) rfl) ?_
 rintro _ _ ⟨rfl, rfl⟩
 refine zw ?_
 refine AW.cond rfl (fun _ => ?_) (fun hn => absurd hn (by decide))
 refine zw ?_
 refine rD [] [] [] [0,4,8,12,16,20,24,28,34] ?_
 refine OpsD.v rfl rfl (Yr rfl rfl) ?_
 refine OpsD.v rfl rfl (Yr rfl rfl) ?_
 refine OpsD.v rfl rfl (Yr rfl rfl) ?_
 refine OpsD.v rfl rfl (Yx (r := .int .i64 ((i + p2.length : Nat) : Int)) rfl rfl (Y5p (by omega) (by omega)) rfl) ?_
 refine OpsD.v rfl rfl (Y5n (o' := i + p2.length) (l' := p0.length - i) (c' := cap - (i + p2.length)) Ybl.h rfl rfl (by omega) (by omega) (by omega) (by omega) (by omega) (by omega) rfl) ?_
 refine zw ?_
 refine OpsD.v rfl rfl (Y5n (o' := i) (l' := p0.length + p2.length - i) (c' := cap - i) Ybl.h rfl rfl (by omega) (by omega) (by omega) (by omega) (by omega) (by omega) rfl) ?_
 refine OpsD.one ?_
 refine Y3z.h (ns := [0]) rfl rfl rfl (Y5b (xs := p0.drop i) Ybl.h rfl rfl (by rw [Y5s (by omega), List.drop_append_of_le_length (by simp; omega), List.take_append_of_le_length (by simp), List.take_of_length_le (by simp), List.map_drop]) (by rw [Y5s (by omega)]; simp) (by simp; omega) rfl) ?_
 rintro _ _ ⟨rfl, rfl⟩
 refine zw ?_
 refine Ops.v rfl (Y5n (o' := i) (l' := p0.length + p2.length - i) (c' := cap - i) Ybl.h rfl rfl (by omega) (by omega) (by omega) (by omega) (by omega) (by omega) rfl) ?_
 refine zw ?_
 refine Ops.h (ns := [0, 0]) rfl rfl (Y5c (xs := p2) Ybl.h rfl rfl (by rw [List.take_of_length_le (by omega)]) (by simp; omega) rfl) ?_
 rintro _ _ ⟨rfl, rfl⟩
 refine zw ?_
 refine AW.ret ?_
 obtain ⟨q1, q2, q3, q4⟩ := Y5l (xs := p0) (ys := p2) (m := p2.length) (c := cap) hlt (by omega) rfl _ _ rfl rfl
 exact finI ⟨[cV _], _, Y25.arr2 (p := 0) (m := p0.length + p2.length) (c := cap) rfl q1 (by omega) q2 hmax0 (Y5h _ _ _ _), .cons (.tmp rfl) .nil, [0], _, _, rfl, ⟨_, rfl, rfl⟩⟩
instance Zbd (p0 : List Y9m) (p1 : Int) (p2 : List Y9m) : SpO Tryz.prog 218 (Zbb p0 p1 p2) (.x fun (w1 : Value) => .x fun (w2 : Value) => .d [cV w1, cI p1, cV w2] [oA w1 96 Y9s 3 p0, oA w2 96 Y9s 3 p2] fun r => .x fun (v : Value) => .d (cV v) [oA v 96 Y9s 3 r]) := ⟨fun w1 w2 r h => Zbc p0 p1 p2 r h⟩

def Zbe (p1 : Y9m) (r2 : List Y9m) (r5 : Int × Bool) (x8 : Bool) : Option (List Y9m) := cond x8 ((Zb8 r2 r5.1 (IntKind.i64.wrap (r5.1 + 1))).bind fun r10 => some r10) (cond (p1.id == 0) (some r2) (cond r5.2 ((getI r2 r5.1).bind fun e15 => some (List.set r2 (Int.toNat r5.1) p1)) ((Zbb r2 r5.1 [p1]).bind fun r18 => some r18)))
def Zbf (p0 : List Y9m) (p1 : Y9m) : Option (List Y9m) := (Zb5 p0).bind fun r2 => (Zab r2 p1).bind fun r5 => cond (p1.id == 0) (Zbe p1 r2 r5 r5.2) (Zbe p1 r2 r5 false)
instance Zbg (p0 : List Y9m) (p1 : Y9m) : SpO Tryz.prog 158 (Zbf p0 p1) (.d [cM Y9s 3 p0, C.agg [cI p1.kind, cI p1.key, cI p1.id]] [] fun r => .x fun (v21 : Value) => .d (cV v21) [oA v21 96 Y9s 3 r]) := ⟨so Tryz.func158 rfl rfl fun r X h => gh (.k (.q 2 (.c1 (fun x8 => .d [(16, C.bool x8)] []) [3,5,6,7] [1,0] .z (.b (.k .z) (.b .z (.b .z (.k .z)))))))⟩
instance Zbg' (p0 : List Y9m) (p1 : Y9m) : Sp Tryz.prog 158 [cM Y9s 3 p0, C.agg [cI p1.kind, cI p1.key, cI p1.id]] (Zbf p0 p1) (fun r => cM Y9s 3 r) := ⟨fun r h => Ok.freeze ((Zbg p0 p1).h r h) (by rintro c qs ⟨v21, rfl, rfl⟩; exact Frz.arr)⟩

def Zbh (p0 : List Y9m) (q0 : Y9m) : Option Bool := (Z9v p0 q0).bind fun r1 => some (!r1)
instance Zbi (p0 : List Y9m) (q0 : Y9m) : SpO Tryz.prog 150 (Zbh p0 q0) (.x fun (b00 : Nat) => .d [cM Y9s 3 p0, pt b00] [oB b00 96 [cI q0.kind, cI q0.key, cI q0.id]] fun r => .d (C.bool r) [oB b00 96 [cI q0.kind, cI q0.key, cI q0.id]]) := ⟨fun b00 => so Tryz.func150 rfl rfl fun r X h => gh .z⟩

def Zbj : Option Int := some (-1)
def Zbk (p0 : List (List Y9m)) (p1_0 : Y9m) (x7 : Int) : Option (Int ⊕ (Int ⊕ Unit)) := cond (decide (x7 < (p0.length : Int))) ((getI p0 x7).bind fun e9 => (Zbh e9 p1_0).bind fun r11 => cond r11 (some (.inr (.inl x7))) (some (.inl (IntKind.i64.wrap (x7 + 1))))) (some (.inr (.inr ())))
def Zbl (p0 : List (List Y9m)) (p1_0 : Y9m) : Option Int := (iter (Zbk p0 p1_0) big 0).bind (fun z15 => match z15 with | .inl y14 => some y14 | .inr () => Zbj)
instance Zbm (p0 : List (List Y9m)) (p1_0 : Y9m) : SpO Tryz.prog 145 (Zbl p0 p1_0) (.x fun (b00 : Nat) => .d [cM Y9t 1 p0, C.clo 150 [pt b00]] [oB b00 96 [cI p1_0.kind, cI p1_0.key, cI p1_0.id]] fun r => .d (cI r) [oB b00 96 [cI p1_0.kind, cI p1_0.key, cI p1_0.id]]) := ⟨fun b00 => so Tryz.func145 rfl rfl fun r X h => gh (.q 1 (.c0 (.d [] []) [] [0] (.l1 (fun x7 => .d [(8, cI x7)] []) [0,1,7] [0] .z) .z))⟩

def Zbn (p0 : List (List Y9m)) (p1_0 : Y9m) : Option Bool := (Zbl p0 p1_0).bind fun r1 => some (decide (r1 ≥ 0))
instance Zbo (p0 : List (List Y9m)) (p1_0 : Y9m) : SpO Tryz.prog 73 (Zbn p0 p1_0) (.x fun (b00 : Nat) => .d [cM Y9t 1 p0, C.clo 150 [pt b00]] [oB b00 96 [cI p1_0.kind, cI p1_0.key, cI p1_0.id]] fun r => .d (C.bool r) [oB b00 96 [cI p1_0.kind, cI p1_0.key, cI p1_0.id]]) := ⟨fun b00 => so Tryz.func73 rfl rfl fun r X h => gh .z⟩

def Zbp (p0 : Y9j) (p1 : Y9j) (q0 : Y9n) : Option Int := (Z9y p0).bind fun r3 => (Z9y p1).bind fun r5 => cond (r3 == r5) ((Z6o (Option.getD (mget q0.depth p0.id) 0) (Option.getD (mget q0.depth p1.id) 0)).bind fun r11 => (Z6o p0.time p1.time).bind fun r13 => (Z6o p0.id p1.id).bind fun r15 => (Za2 [r11, r13, r15]).bind fun r18 => some r18) ((Z9y p0).bind fun r8 => cond r8 (some (-1)) (some 1))
instance Zbq (p0 : Y9j) (p1 : Y9j) (q0 : Y9n) : Sp Tryz.prog 153 [C.agg [cI p0.id, cI p0.room, cI p0.author, cI p0.kind, cI p0.key, cI p0.n, C.str p0.text, cM kI64 1 p0.prev, cI p0.time], C.agg [cI p1.id, cI p1.room, cI p1.author, cI p1.kind, cI p1.key, cI p1.n, C.str p1.text, cM kI64 1 p1.prev, cI p1.time], C.ip [C.ip [cI q0.graph.room, cM Y9q 9 q0.graph.events, cM Y9q 9 q0.graph.parked, C.imap .i64 Y9r q0.depth, C.imap .i64 Y9u q0.before, C.imap .i64 Y9u q0.after, C.imap .i64 Y9r q0.refused]]] (Zbp p0 p1 q0) (fun r => cI r) := Sp.of (so Tryz.func153 rfl rfl fun r X h => gh (.r [0,0] [0,2] [] [1,9,6,14,16] (.b (.r [0,0] [0,3,5,6,7,10,12,13,16,18,21,23] [] [1,4,8,13,16,21,25,29,32,36,41,44,49,53,60,65,68,73,80,85,88,93,58,78,98,102,106,108] .z) .z)))

def Zbr (l205 : List Y9m) : Option (List Y9m) := some l205
def Zbs (x194 : Int) (l204 : List Y9m) : Option ((List Y9m × Int) ⊕ ((List Y9m))) := some (.inl (l204, (IntKind.i64.wrap (x194 + 1))))
def Zbt (p0 : Y9n) (r176 : List Y9j) (l193 : List Y9m) (x194 : Int) : Option ((List Y9m × Int) ⊕ ((List Y9m))) := cond (decide (x194 < (r176.length : Int))) ((getI r176 x194).bind fun e196 => (Zb3 p0.graph l193 e196).bind fun r199 => cond (r199 == 0) ((Zbf l193 (Y9m.mk e196.kind e196.key e196.id)).bind fun r202 => Zbs x194 r202) (Zbs x194 l193)) (some (.inr l193))
def Zbu (p0 : Y9n) (l37 : List Y9m) (l175 : List Y9j) : Option (List Y9m) := (Y80 (fun z1 z2 => Zbp z1 z2 p0) l175).bind fun r176 => (iter (fun z206 => Zbt p0 r176 z206.1 z206.2) big (l37, 0)).bind fun y207 => Zbr y207
def Zbv (x113 : Int) (l172 : List Y9j) (m173 : List (Int × Bool)) : Option ((List Y9j × (List (Int × Bool)) × Int) ⊕ ((List Y9j))) := some (.inl (l172, m173, (IntKind.i64.wrap (x113 + 1))))
def Zbw (x145 : Int) (l169 : List Y9j) (m170 : List (Int × Bool)) : Option ((List Y9j × (List (Int × Bool)) × Int) ⊕ ((List Y9j × (List (Int × Bool))))) := some (.inl (l169, m170, (IntKind.i64.wrap (x145 + 1))))
def Zbx (l143 : List Y9j) (m144 : List (Int × Bool)) (x145 : Int) (e147 : Y9m) (x155 : Int) (x156 : Int) (x157 : Int) (x158 : Int) (x159 : Int) (x160 : Int) (x161 : ByteArray) (l162 : List Int) (x163 : Int) : Option ((List Y9j × (List (Int × Bool)) × Int) ⊕ ((List Y9j × (List (Int × Bool))))) := (chk (decide ((l143.length + [(Y9j.mk x155 x156 x157 x158 x159 x160 x161 l162 x163)].length) * 96 ≤ 140737488355328))).bind fun u166 => Zbw x145 (l143 ++ [(Y9j.mk x155 x156 x157 x158 x159 x160 x161 l162 x163)]) (mset m144 e147.id true)
def Zby (p0 : Y9n) (e115 : List Y9m) (l143 : List Y9j) (m144 : List (Int × Bool)) (x145 : Int) : Option ((List Y9j × (List (Int × Bool)) × Int) ⊕ ((List Y9j × (List (Int × Bool))))) := cond (decide (x145 < (e115.length : Int))) ((getI e115 x145).bind fun e147 => cond (Option.getD (mget m144 e147.id) false) (Zbw x145 l143 m144) ((Z9l p0.graph e147.id).bind fun r151 => Zbx l143 m144 x145 e147 r151.1.id r151.1.room r151.1.author r151.1.kind r151.1.key r151.1.n r151.1.text r151.1.prev r151.1.time)) (some (.inr (l143, m144)))
def Zbz (p0 : Y9n) (p1 : List (List Y9m)) (l111 : List Y9j) (m112 : List (Int × Bool)) (x113 : Int) : Option ((List Y9j × (List (Int × Bool)) × Int) ⊕ ((List Y9j))) := cond (decide (x113 < (p1.length : Int))) ((getI p1 x113).bind fun e115 => (iter (fun z208 => Zby p0 e115 z208.1 z208.2.1 z208.2.2) big (l111, m112, 0)).bind fun (y209, y210) => Zbv x113 y209 y210) (some (.inr l111))
def Zc0 (p0 : Y9n) (p1 : List (List Y9m)) (l37 : List Y9m) (m49 : List (Int × Bool)) : Option (List Y9m) := (iter (fun z211 => Zbz p0 p1 z211.1 z211.2.1 z211.2.2) big (([] : List Y9j), m49, 0)).bind fun y212 => Zbu p0 l37 y212
def Zc1 (l37 : List Y9m) (m43 : List (Int × Bool)) (x44 : Int) : Option (((List (Int × Bool)) × Int) ⊕ ((List (Int × Bool)))) := cond (decide (x44 < (l37.length : Int))) ((getI l37 x44).bind fun e46 => some (.inl ((mset m43 e46.id true), (IntKind.i64.wrap (x44 + 1))))) (some (.inr m43))
def Zc2 (p0 : Y9n) (p1 : List (List Y9m)) (l37 : List Y9m) : Option (List Y9m) := (iter (fun z213 => Zc1 l37 z213.1 z213.2) big (([] : List (Int × Bool)), 0)).bind fun y214 => Zc0 p0 p1 l37 y214
def Zc3 (x22 : Int) (l35 : List Y9m) : Option ((List Y9m × Int) ⊕ ((List Y9m))) := some (.inl (l35, (IntKind.i64.wrap (x22 + 1))))
def Zc4 (p1 : List (List Y9m)) (e5 : List Y9m) (l21 : List Y9m) (x22 : Int) : Option ((List Y9m × Int) ⊕ ((List Y9m))) := cond (decide (x22 < (e5.length : Int))) ((getI e5 x22).bind fun e24 => (Zbn p1 e24).bind fun r27 => cond r27 (Zc3 x22 l21) ((chk (decide ((l21.length + [e24].length) * 24 ≤ 140737488355328))).bind fun u32 => Zc3 x22 (l21 ++ [e24]))) (some (.inr l21))
def Zc5 (p0 : Y9n) (p1 : List (List Y9m)) : Option (List Y9m) := cond (decide ((p1.length : Int) > 0)) ((getI p1 0).bind fun e5 => (iter (fun z215 => Zc4 p1 e5 z215.1 z215.2) big (([] : List Y9m), 0)).bind fun y216 => Zc2 p0 p1 y216) (Zc2 p0 p1 ([] : List Y9m))
instance Zc6 (p0 : Y9n) (p1 : List (List Y9m)) : SpO Tryz.prog 77 (Zc5 p0 p1) (.x fun (b00 : Nat) => .x fun (b01 : Nat) => .x fun (b02 : Nat) => .x fun (b03 : Nat) => .x fun (b04 : Nat) => .d [pt b00, cM Y9t 1 p1] [oB b00 100 [cI p0.graph.room, cM Y9q 9 p0.graph.events, cM Y9q 9 p0.graph.parked, mt b01, mt b02, mt b03, mt b04], Abs.Obj.map b01 .i64 Y9r p0.depth, Abs.Obj.map b02 .i64 Y9u p0.before, Abs.Obj.map b03 .i64 Y9u p0.after, Abs.Obj.map b04 .i64 Y9r p0.refused] fun r => .d (cM Y9s 3 r) [oB b00 100 [cI p0.graph.room, cM Y9q 9 p0.graph.events, cM Y9q 9 p0.graph.parked, mt b01, mt b02, mt b03, mt b04], Abs.Obj.map b01 .i64 Y9r p0.depth, Abs.Obj.map b02 .i64 Y9u p0.before, Abs.Obj.map b03 .i64 Y9u p0.after, Abs.Obj.map b04 .i64 Y9r p0.refused]) := ⟨fun b00 b01 b02 b03 b04 => so Tryz.func77 rfl rfl fun r X h => gh (.q 2 (.c1 (fun l37 => .x fun v36 => .d [(5, cV v36)] [oA v36 96 Y9s 3 l37]) [1,2,6] [2,3,4,5,6,7,0] (.b (.l2 (fun l21 x22 => .x fun v20 => .d [(5, cV v20), (29, cI x22)] [oA v20 96 Y9s 3 l21]) [1,2,6,27,28] [2,3,4,5,6,7,0] (.b (.c1 (fun l35 => .x fun v34 => .d [(5, cV v34)] [oA v34 96 Y9s 3 l35]) [1,2,6,27,28,29] [1,2,3,4,5,6,7] .z .z) .z)) .z) (.q 1 (.o 0 fun b38 => .c1 (fun m49 => .d [] [Abs.Obj.map b38 .i64 Y9v m49]) [1,2,5,6,9] [2,3,4,5,6,7,1,8] (.O 0 fun b38 => .l2 (fun m43 x44 => .d [(45, cI x44)] [Abs.Obj.map b38 .i64 Y9v m43]) [1,2,5,6,9,43,44] [2,3,4,5,6,7,1,8] .z) (.c1 (fun l175 => .x fun v174 => .d [(6, cV v174)] [oA v174 42 Y9q 9 l175]) [2,5] [1,2,3,4,5,6,7] (.O 0 fun b38 => .l3 (fun l111 m112 x113 => .x fun v110 => .d [(6, cV v110), (55, cI x113)] [oA v110 42 Y9q 9 l111, Abs.Obj.map b38 .i64 Y9v m112]) [2,5,9,53,54] [1,2,3,4,5,6,7] (.b (.o 1 fun b38 => .c2 (fun l172 m173 => .x fun v171 => .d [(6, cV v171)] [oA v171 42 Y9q 9 l172, Abs.Obj.map b38 .i64 Y9v m173]) [2,5,9,53,54,55] [2,3,4,5,6,7,8] (.O 1 fun b38 => .l3 (fun l143 m144 x145 => .x fun v142 => .d [(6, cV v142), (61, cI x145)] [oA v142 42 Y9q 9 l143, Abs.Obj.map b38 .i64 Y9v m144]) [2,5,9,53,54,55,59,60] [2,3,4,5,6,7,8] (.b (.o 1 fun b38 => .c2 (fun l169 m170 => .x fun v168 => .d [(6, cV v168)] [oA v168 42 Y9q 9 l169, Abs.Obj.map b38 .i64 Y9v m170]) [2,5,9,53,54,55,59,60,61] [2,3,4,5,6,7,8] (.b .z (.q 1 (.c9 (fun x155 x156 x157 x158 x159 x160 x161 l162 x163 => .x fun b154 => .d [(16, pt b154)] [oB b154 42 [cI x155, cI x156, cI x157, cI x158, cI x159, cI x160, C.str x161, cM kI64 1 l162, cI x163]]) [2,5,6,9,53,54,55,59,60,61] [3,4,5,6,7,8,9,2,0] (.R [0,0,0,0,0,0,0,0,0,0] [0,3,5] [11] (.light 0 true (.light 1 false (.light 2 false (.light 3 true (.light 4 false (.light 5 true (.two 6 10 (.light 7 false (.light 8 false (.light 9 false (.one 10 (.late 11 (.light 12 false .done)))))) (.one 6 (.light 7 false (.light 8 false (.light 9 false (.late 11 (.light 12 false .done))))))))))))) (.H 99 .z)) .z))) .z) .z)) .z) .z)) (.q 1 (.c1 (fun l205 => .d [(5, cM Y9s 3 l205)] []) [] [2,3,4,5,6] (.l2 (fun l193 x194 => .d [(5, cM Y9s 3 l193), (94, cI x194)] []) [2,92,93] [1,2,3,4,5,6,0] (.b (.c1 (fun l204 => .d [(5, cM Y9s 3 l204)] []) [2,92,93,94] [0,1,2,3,4,5,6] (.r [0,0,0,0,0,0,0,0] [0,3,5] [] [1,4,8,13,16,21,26,28] .z) .z) .z)) .z)))))))⟩

def Zc7 (p0 : List Int) : Option (List Int) := (chk (decide (p0.length * 8 ≤ 140737488355328))).bind fun _ => some p0
theorem Zc8 (p0 : List Int) (r : List Int) (h : Zc7 p0 = some r) : Ok Tryz.prog 229 [cM kI64 1 p0] [] (fun c qs => ∃ (v : Value), c = cV v ∧ qs = [oA v 2 kI64 1 r]) := by
 refine ob' h fun u hc h => ?_
 obtain rfl := Wj h
 have hc := Wo (Y45 hc)
 refine Ok.of_body (rs := [.tmp 2]) Tryz.func229 rfl rfl rfl rfl rfl fun X => ?_
 refine zw ?_
 refine Ops.h (ns := []) rfl rfl (Y63 Yaj.h rfl rfl) ?_
 rintro _ _ ⟨b, hb, rfl, rfl⟩
 refine zw ?_
 refine tf' b (fun hq => ?_) (fun hq => ?_)
 ·
  refine AW.cond rfl (fun _ => ?_) (fun hn => absurd (hq.symm.trans hn) (by decide))
  refine zw ?_
  refine AW.ret ?_
  obtain rfl := hb hq
  exact finI ⟨[cV s0], _, Y25.nil 2 kI64 1, .cons (.tmp rfl) .nil, [0], _, _, rfl, ⟨_, rfl, rfl⟩⟩
 refine AW.cond rfl (fun hn => absurd (hq.symm.trans hn) (by decide)) (fun _ => ?_)
 refine zw ?_
 refine Ops.h (ns := []) rfl rfl (Y3l (k := kI64) (ys := ([] : List Int)) Yai .nil rfl rfl rfl) ?_
 rintro _ _ ⟨b1, rfl, rfl⟩
 refine zw ?_
 refine Ops.h (ns := [0]) rfl rfl (Y33 Yai rfl rfl (by simpa using hc) (by simp; omega) rfl) ?_
 rintro _ _ ⟨v, rfl, rfl⟩
 refine zw ?_
 refine AW.ret ?_
 exact finI ⟨[cV v], _, Y25.refl _, .cons (.tmp rfl) .nil, [0], _, _, rfl, ⟨v, rfl, rfl⟩⟩
instance Zc8' (p0 : List Int) : Sp Tryz.prog 229 [cM kI64 1 p0] (Zc7 p0) (fun r => cM kI64 1 r) := ⟨fun r h => Ok.freeze (Zc8 p0 r h) (by rintro c qs ⟨v, rfl, rfl⟩; exact Frz.arr)⟩
instance Zc9 (p0 : List Int) : SpO Tryz.prog 229 (Zc7 p0) (.d [cM kI64 1 p0] [] fun r => .x fun (v : Value) => .d (cV v) [oA v 2 kI64 1 r]) := ⟨fun r h => Zc8 p0 r h⟩

def Zca : Option Bool := some false
def Zcb (x24 : Int) (m36 : List (Int × Bool)) (l38 : List Int) : Option (((List (Int × Bool)) × List Int × Int) ⊕ (Bool ⊕ Unit)) := some (.inl (m36, l38, (IntKind.i64.wrap (x24 + 1))))
def Zcc (p0 : Y9k) (p1 : Int) (m21 : List (Int × Bool)) (l23 : List Int) (x24 : Int) : Option (((List (Int × Bool)) × List Int × Int) ⊕ (Bool ⊕ Unit)) := cond (decide (x24 < (l23.length : Int))) ((getI l23 x24).bind fun e26 => cond (e26 == p1) (some (.inr (.inl true))) (cond (Option.getD (mget m21 e26) false) (Zcb x24 m21 l23) ((Z9l p0 e26).bind fun r30 => (chk (decide ((l23.length + r30.1.prev.length) * 8 ≤ 140737488355328))).bind fun u34 => Zcb x24 (mset m21 e26 true) (l23 ++ r30.1.prev)))) (some (.inr (.inr ())))
def Zcd (p0 : Y9k) (p1 : Int) (p2 : Y9j) : Option Bool := (Zc7 p2.prev).bind fun r4 => (iter (fun z39 => Zcc p0 p1 z39.1 z39.2.1 z39.2.2) big (([] : List (Int × Bool)), r4, 0)).bind (fun z41 => match z41 with | .inl y40 => some y40 | .inr () => Zca)
instance Zce (p0 : Y9k) (p1 : Int) (p2 : Y9j) : Sp Tryz.prog 209 [C.agg [cI p0.room, cM Y9q 9 p0.events, cM Y9q 9 p0.parked], cI p1, C.agg [cI p2.id, cI p2.room, cI p2.author, cI p2.kind, cI p2.key, cI p2.n, C.str p2.text, cM kI64 1 p2.prev, cI p2.time]] (Zcd p0 p1 p2) (fun r => C.bool r) := Sp.of (so Tryz.func209 rfl rfl fun r X h => gh (.k (.c0 (.d [] []) [] [] (.O 1 fun b3 => .l3 (fun m21 l23 x24 => .x fun v22 => .d [(8, cV v22), (9, cI x24)] [Abs.Obj.map b3 .i64 Y9v m21, oA v22 2 kI64 1 l23]) [1,3,7] [3] (.b (.o 0 fun b3 => .c2 (fun m36 l38 => .x fun v37 => .d [(8, cV v37)] [Abs.Obj.map b3 .i64 Y9v m36, oA v37 2 kI64 1 l38]) [1,3,7,9] [2] .z .z) .z)) .z)))

def Zcf (p0 : Y9n) (p1 : Y9j) (r5 : List Y9m) (x15 : Int) (x29 : Bool) : Option ((List (Int × List Y9m)) × (List (Int × List Y9m)) × (List (Int × Int))) := cond x29 ((Zbf r5 (Y9m.mk p1.kind p1.key p1.id)).bind fun r31 => some ((mset p0.before p1.id r5), (mset (mset p0.after p1.id r5) p1.id r31), (mset p0.refused p1.id x15))) (some ((mset p0.before p1.id r5), (mset p0.after p1.id r5), (mset p0.refused p1.id x15)))
def Zcg (p0 : Y9n) (p1 : Y9j) (r5 : List Y9m) (x15 : Int) : Option ((List (Int × List Y9m)) × (List (Int × List Y9m)) × (List (Int × Int))) := cond (x15 == 0) (Zcf p0 p1 r5 x15 (decide (p1.kind ≤ 6))) (Zcf p0 p1 r5 x15 false)
def Zch (p0 : Y9n) (p1 : Y9j) (r5 : List Y9m) (r7 : Int) (x13 : Bool) : Option ((List (Int × List Y9m)) × (List (Int × List Y9m)) × (List (Int × Int))) := cond x13 (Zcg p0 p1 r5 6) (Zcg p0 p1 r5 r7)
def Zci (p0 : Y9n) (p1 : Y9j) : Option ((List (Int × List Y9m)) × (List (Int × List Y9m)) × (List (Int × Int))) := (Z9p p0 p1.prev).bind fun r2 => (Zc5 p0 r2).bind fun r5 => (Zb3 p0.graph r5 p1).bind fun r7 => cond (r7 == 0) (cond (p1.kind == 8) ((Zcd p0.graph p1.key p1).bind fun r11 => Zch p0 p1 r5 r7 (!r11)) (Zch p0 p1 r5 r7 false)) (Zch p0 p1 r5 r7 false)
instance Zcj (p0 : Y9n) (p1 : Y9j) : SpO Tryz.prog 149 (Zci p0 p1) (.x fun (b00 : Nat) => .x fun (b01 : Nat) => .x fun (b02 : Nat) => .x fun (b03 : Nat) => .x fun (b04 : Nat) => .d [pt b00, C.agg [cI p1.id, cI p1.room, cI p1.author, cI p1.kind, cI p1.key, cI p1.n, C.str p1.text, cM kI64 1 p1.prev, cI p1.time]] [oB b00 100 [cI p0.graph.room, cM Y9q 9 p0.graph.events, cM Y9q 9 p0.graph.parked, mt b01, mt b02, mt b03, mt b04], Abs.Obj.map b01 .i64 Y9r p0.depth, Abs.Obj.map b02 .i64 Y9u p0.before, Abs.Obj.map b03 .i64 Y9u p0.after, Abs.Obj.map b04 .i64 Y9r p0.refused] fun r => .d (C.tup []) [oB b00 100 [cI p0.graph.room, cM Y9q 9 p0.graph.events, cM Y9q 9 p0.graph.parked, mt b01, mt b02, mt b03, mt b04], Abs.Obj.map b01 .i64 Y9r p0.depth, Abs.Obj.map b02 .i64 Y9u r.1, Abs.Obj.map b03 .i64 Y9u r.2.1, Abs.Obj.map b04 .i64 Y9r r.2.2]) := ⟨fun b00 b01 b02 b03 b04 => so Tryz.func149 rfl rfl fun r X h => gh (.f 10 [] (.r [0,0,0,0,0,0] [3,5] [] [0,4,8,13,16,21,26,28] (.c1 (fun x15 => .d [(5, cI x15)] []) [0,3,4] [0,1,2,3,4,5] (.c1 (fun x13 => .d [(36, C.bool x13)] []) [0,3,4,5] [0,1,2,3,4,5] (.r [0,0,0,0,0,0] [4,11,13,14] [] [0,4,8,12,17,20,24,28,32,36,40,45,48,53,57,62,64,68] .z) .z) (.r [0,0,3] [3,5,9,11,15,17] [29] [0,4,8,13,16,21,24,28,32,37,40,45,48,52,56,61,64,69,72,76,80,86,88,94,98,100,106,110,112,119] (.c1 (fun x29 => .d [(70, C.bool x29)] []) [0,3,4] [1,2,5,4,0,3] .z (.b (.r [0,0,0,0,0,0] [3,5,8,10,12] [15] [0,4,8,13,16,21,24,28,33,36,41,44,49,52,58,63] .z) .z))))))⟩

def Zck (p0 : Y9k) (m23 : List (Int × Int)) (m46 : List (Int × List Y9m)) (m47 : List (Int × List Y9m)) (m48 : List (Int × Int)) : Option Y9n := some (Y9n.mk p0 m23 m46 m47 m48)
def Zcl (p0 : Y9k) (m23 : List (Int × Int)) (r24 : List Int) (m34 : List (Int × List Y9m)) (m35 : List (Int × List Y9m)) (m36 : List (Int × Int)) (x37 : Int) : Option (((List (Int × List Y9m)) × (List (Int × List Y9m)) × (List (Int × Int)) × Int) ⊕ (((List (Int × List Y9m)) × (List (Int × List Y9m)) × (List (Int × Int))))) := cond (decide (x37 < (r24.length : Int))) ((getI r24 x37).bind fun e39 => (Z9l p0 e39).bind fun r41 => (Zci (Y9n.mk p0 m23 m34 m35 m36) r41.1).bind fun r44 => some (.inl (r44.1, r44.2.1, r44.2.2, (IntKind.i64.wrap (x37 + 1))))) (some (.inr (m34, m35, m36)))
def Zcm (p0 : Y9k) (m23 : List (Int × Int)) : Option Y9n := (Z9j p0).bind fun r24 => (iter (fun z54 => Zcl p0 m23 r24 z54.1 z54.2.1 z54.2.2.1 z54.2.2.2) big (([] : List (Int × List Y9m)), ([] : List (Int × List Y9m)), ([] : List (Int × Int)), 0)).bind fun (y55, y56, y57) => Zck p0 m23 y55 y56 y57
def Zcn (p0 : Y9k) (r7 : List Int × Bool) (m15 : List (Int × Int)) (x16 : Int) : Option (((List (Int × Int)) × Int) ⊕ ((List (Int × Int)))) := cond (decide (x16 < (p0.events.length : Int))) ((getI p0.events x16).bind fun e18 => (getI r7.1 x16).bind fun e21 => some (.inl ((mset m15 e18.id e21), (IntKind.i64.wrap (x16 + 1))))) (some (.inr m15))
def Zco (p0 : Y9k) : Option Y9n := (Z7i p0).bind fun r7 => (iter (fun z58 => Zcn p0 r7 z58.1 z58.2) big (([] : List (Int × Int)), 0)).bind fun y59 => Zcm p0 y59
instance Zcp (p0 : Y9k) : SpO Tryz.prog 76 (Zco p0) (.d [C.agg [cI p0.room, cM Y9q 9 p0.events, cM Y9q 9 p0.parked]] [] fun r => .x fun (b49 : Nat) => .x fun (b50 : Nat) => .x fun (b51 : Nat) => .x fun (b52 : Nat) => .x fun (b53 : Nat) => .d (pt b49) [oB b49 100 [cI r.graph.room, cM Y9q 9 r.graph.events, cM Y9q 9 r.graph.parked, mt b50, mt b51, mt b52, mt b53], Abs.Obj.map b50 .i64 Y9r r.depth, Abs.Obj.map b51 .i64 Y9u r.before, Abs.Obj.map b52 .i64 Y9u r.after, Abs.Obj.map b53 .i64 Y9r r.refused]) := ⟨so Tryz.func76 rfl rfl fun r X h => gh (.q 3 (.o 4 fun b2 => .c1 (fun m23 => .d [] [Abs.Obj.map b2 .i64 Y9r m23]) [1,3] [5,0,3,2,1] (.O 4 fun b2 => .l2 (fun m15 x16 => .d [(27, cI x16)] [Abs.Obj.map b2 .i64 Y9r m15]) [1,3,4,25,26] [5,0,3,2,1] (.b (.r [0,0,0,0,0,0,0] [3,5,9] [10] [0,4,8,13,16,21,24,28,32,37,43] .z) .z)) (.o 3 fun b3 => .o 4 fun b4 => .o 5 fun b5 => .c3 (fun m46 m47 m48 => .d [] [Abs.Obj.map b3 .i64 Y9u m46, Abs.Obj.map b4 .i64 Y9u m47, Abs.Obj.map b5 .i64 Y9r m48]) [3] [2,0] (.O 3 fun b3 => .O 4 fun b4 => .O 5 fun b5 => .l4 (fun m34 m35 m36 x37 => .d [(46, cI x37)] [Abs.Obj.map b3 .i64 Y9u m34, Abs.Obj.map b4 .i64 Y9u m35, Abs.Obj.map b5 .i64 Y9r m36]) [1,3,44,45] [1,2,0] .z) .z)))⟩
instance Zcp' (p0 : Y9k) : Sp Tryz.prog 76 [C.agg [cI p0.room, cM Y9q 9 p0.events, cM Y9q 9 p0.parked]] (Zco p0) (fun r => C.ip [cI r.graph.room, cM Y9q 9 r.graph.events, cM Y9q 9 r.graph.parked, C.imap .i64 Y9r r.depth, C.imap .i64 Y9u r.before, C.imap .i64 Y9u r.after, C.imap .i64 Y9r r.refused]) := ⟨fun r h => Ok.freeze ((Zcp p0).h r h) (by rintro c qs ⟨b49, b50, b51, b52, b53, rfl, rfl⟩; exact Frz.box (fS (fS (fS (FrzL.cons (os := [_]) (Frz.map) (FrzL.cons (os := [_]) (Frz.map) (FrzL.cons (os := [_]) (Frz.map) (FrzL.cons (os := [_]) (Frz.map) (FrzL.nil)))))))))⟩

def Zcq (l34 : List Y9j) : Option (List Y9j) := some l34
def Zcr (x19 : Int) (l32 : List Y9j) : Option ((List Y9j × Int) ⊕ ((List Y9j))) := some (.inl (l32, (IntKind.i64.wrap (x19 + 1))))
def Zcs (p0 : Y9n) (r2 : List Int) (l18 : List Y9j) (x19 : Int) : Option ((List Y9j × Int) ⊕ ((List Y9j))) := cond (decide (x19 < (r2.length : Int))) ((getI r2 x19).bind fun e21 => (Z9l p0.graph e21).bind fun r23 => cond ((Option.getD (mget p0.refused e21) 0) == 0) ((chk (decide ((l18.length + [r23.1].length) * 96 ≤ 140737488355328))).bind fun u29 => Zcr x19 (l18 ++ [r23.1])) (Zcr x19 l18)) (some (.inr l18))
def Zct (p0 : Y9n) : Option (List Y9j) := (Z9j p0.graph).bind fun r2 => (iter (fun z36 => Zcs p0 r2 z36.1 z36.2) big (([] : List Y9j), 0)).bind fun y37 => Zcq y37
instance Zcu (p0 : Y9n) : SpO Tryz.prog 98 (Zct p0) (.x fun (b00 : Nat) => .x fun (b01 : Nat) => .x fun (b02 : Nat) => .x fun (b03 : Nat) => .x fun (b04 : Nat) => .d [pt b00] [oB b00 100 [cI p0.graph.room, cM Y9q 9 p0.graph.events, cM Y9q 9 p0.graph.parked, mt b01, mt b02, mt b03, mt b04], Abs.Obj.map b01 .i64 Y9r p0.depth, Abs.Obj.map b02 .i64 Y9u p0.before, Abs.Obj.map b03 .i64 Y9u p0.after, Abs.Obj.map b04 .i64 Y9r p0.refused] fun r => .x fun (v35 : Value) => .d (cV v35) [oA v35 42 Y9q 9 r, oB b00 100 [cI p0.graph.room, cM Y9q 9 p0.graph.events, cM Y9q 9 p0.graph.parked, mt b01, mt b02, mt b03, mt b04], Abs.Obj.map b01 .i64 Y9r p0.depth, Abs.Obj.map b02 .i64 Y9u p0.before, Abs.Obj.map b03 .i64 Y9u p0.after, Abs.Obj.map b04 .i64 Y9r p0.refused]) := ⟨fun b00 b01 b02 b03 b04 => so Tryz.func98 rfl rfl fun r X h => gh (.q 2 (.c1 (fun l34 => .x fun v33 => .d [(3, cV v33)] [oA v33 42 Y9q 9 l34]) [] [1,2,3,4,5] (.l2 (fun l18 x19 => .x fun v17 => .d [(3, cV v17), (15, cI x19)] [oA v17 42 Y9q 9 l18]) [0,13,14] [1,2,3,4,5] (.b (.c1 (fun l32 => .x fun v31 => .d [(3, cV v31)] [oA v31 42 Y9q 9 l32]) [0,13,14,15] [1,2,3,4,5] .z .z) .z)) .z))⟩

def Zcv (l54 : List Int) : Option (List Int) := some l54
def Zcw (x37 : Int) (l52 : List Int) : Option ((List Int × Int) ⊕ ((List Int))) := some (.inl (l52, (IntKind.i64.wrap (x37 + 1))))
def Zcx (l36 : List Int) (x37 : Int) (e39 : Y9j) (x45 : Bool) : Option ((List Int × Int) ⊕ ((List Int))) := cond x45 ((chk (decide ((l36.length + [e39.id].length) * 8 ≤ 140737488355328))).bind fun u49 => Zcw x37 (l36 ++ [e39.id])) (Zcw x37 l36)
def Zcy (p1 : Int) (r17 : List Y9j) (l36 : List Int) (x37 : Int) : Option ((List Int × Int) ⊕ ((List Int))) := cond (decide (x37 < (r17.length : Int))) ((getI r17 x37).bind fun e39 => cond (e39.author != p1) (cond (e39.kind == 2) (Zcx l36 x37 e39 (e39.key == p1)) (cond (e39.kind == 3) (Zcx l36 x37 e39 (e39.key == p1)) (Zcx l36 x37 e39 false))) (Zcx l36 x37 e39 false)) (some (.inr l36))
def Zcz (p0 : Y9k) (p1 : Int) (x7 : Bool) : Option (List Int) := cond x7 (some []) ((Zco p0).bind fun r10 => (Zct r10).bind fun r17 => (iter (fun z56 => Zcy p1 r17 z56.1 z56.2) big (([] : List Int), 0)).bind fun y57 => Zcv y57)
def Zd0 (p0 : Y9k) (p1 : Int) : Option (List Int) := (Z82 p0).bind fun r2 => cond r2 ((Z5m p1).bind fun r5 => Zcz p0 p1 (!r5)) (Zcz p0 p1 true)
instance Zd1 (p0 : Y9k) (p1 : Int) : SpO Tryz.prog 28 (Zd0 p0 p1) (.d [C.agg [cI p0.room, cM Y9q 9 p0.events, cM Y9q 9 p0.parked], cI p1] [] fun r => .x fun (v55 : Value) => .d (cV v55) [oA v55 2 kI64 1 r]) := ⟨so Tryz.func28 rfl rfl fun r X h => gh (.q 2 (.c1 (fun x7 => .d [(15, C.bool x7)] []) [1,2] [0] .z (.b .z (.q 1 (.c1 (fun l54 => .x fun v53 => .d [(5, cV v53)] [oA v53 2 kI64 1 l54]) [] [] (.k (.l2 (fun l36 x37 => .x fun v35 => .d [(5, cV v35), (21, cI x37)] [oA v35 2 kI64 1 l36]) [1,19,20] [0] (.b (.c1 (fun l52 => .x fun v51 => .d [(5, cV v51)] [oA v51 2 kI64 1 l52]) [1,19,20,21] [1] (.q 1 (.c1 (fun x45 => .d [(44, C.bool x45)] []) [1,5,7,19,20,21] [1,0,2] .z .z)) .z) .z))) .z)))))⟩
instance Zd1' (p0 : Y9k) (p1 : Int) : Sp Tryz.prog 28 [C.agg [cI p0.room, cM Y9q 9 p0.events, cM Y9q 9 p0.parked], cI p1] (Zd0 p0 p1) (fun r => cM kI64 1 r) := ⟨fun r h => Ok.freeze ((Zd1 p0 p1).h r h) (by rintro c qs ⟨v55, rfl, rfl⟩; exact Frz.arr)⟩

def Zd2 (l28 : List Int) : Option (List Int) := some l28
def Zd3 (x15 : Int) (l26 : List Int) : Option ((List Int × Int) ⊕ ((List Int))) := some (.inl (l26, (IntKind.i64.wrap (x15 + 1))))
def Zd4 (p0 : Y9n) (l14 : List Int) (x15 : Int) : Option ((List Int × Int) ⊕ ((List Int))) := cond (decide (x15 < (p0.graph.events.length : Int))) ((getI p0.graph.events x15).bind fun e17 => cond ((Option.getD (mget p0.refused e17.id) 0) == 0) ((chk (decide ((l14.length + [e17.id].length) * 8 ≤ 140737488355328))).bind fun u23 => Zd3 x15 (l14 ++ [e17.id])) (Zd3 x15 l14)) (some (.inr l14))
def Zd5 (p0 : Y9n) : Option (List Int) := (iter (fun z30 => Zd4 p0 z30.1 z30.2) big (([] : List Int), 0)).bind fun y31 => Zd2 y31
instance Zd6 (p0 : Y9n) : SpO Tryz.prog 172 (Zd5 p0) (.x fun (b00 : Nat) => .x fun (b01 : Nat) => .x fun (b02 : Nat) => .x fun (b03 : Nat) => .x fun (b04 : Nat) => .d [pt b00] [oB b00 100 [cI p0.graph.room, cM Y9q 9 p0.graph.events, cM Y9q 9 p0.graph.parked, mt b01, mt b02, mt b03, mt b04], Abs.Obj.map b01 .i64 Y9r p0.depth, Abs.Obj.map b02 .i64 Y9u p0.before, Abs.Obj.map b03 .i64 Y9u p0.after, Abs.Obj.map b04 .i64 Y9r p0.refused] fun r => .x fun (v29 : Value) => .d (cV v29) [oA v29 2 kI64 1 r, oB b00 100 [cI p0.graph.room, cM Y9q 9 p0.graph.events, cM Y9q 9 p0.graph.parked, mt b01, mt b02, mt b03, mt b04], Abs.Obj.map b01 .i64 Y9r p0.depth, Abs.Obj.map b02 .i64 Y9u p0.before, Abs.Obj.map b03 .i64 Y9u p0.after, Abs.Obj.map b04 .i64 Y9r p0.refused]) := ⟨fun b00 b01 b02 b03 b04 => so Tryz.func172 rfl rfl fun r X h => gh (.q 2 (.c1 (fun l28 => .x fun v27 => .d [(3, cV v27)] [oA v27 2 kI64 1 l28]) [] [1,2,3,4,5] (.l2 (fun l14 x15 => .x fun v13 => .d [(3, cV v13), (13, cI x15)] [oA v13 2 kI64 1 l14]) [0,11,12] [1,2,3,4,5] (.b (.c1 (fun l26 => .x fun v25 => .d [(3, cV v25)] [oA v25 2 kI64 1 l26]) [0,11,12,13] [1,2,3,4,5] (.r [0,0,0,0,0,0,0] [3,5,6] [] [0,4,8,13,16,21,25,28] .z) .z) .z)) .z))⟩

def Zd7 (p0 : List Int) : Option (List Int) := some p0
def Zd8 (l85 : List Int) (x86 : Int) : Option (Int ⊕ ((List Int) ⊕ Unit)) := (chk (decide ((0 : Int) ≤ x86 ∧ x86 ≤ (l85.length : Int)))).bind fun u88 => (chk (decide ((Int.toNat x86) ≤ l85.length))).bind fun u90 => (chk (decide ((0 : Int) ≤ x86 ∧ x86 ≤ ((List.take (Int.toNat x86) l85 ++ List.replicate (l85.length - (Int.toNat x86)) 0).length : Int)))).bind fun u92 => some (.inr (.inl (List.take (Int.toNat x86) (List.take (Int.toNat x86) l85 ++ List.replicate (l85.length - (Int.toNat x86)) 0))))
def Zd9 (x70 : Int) (l83 : List Int) (x84 : Int) : Option ((List Int × Int × Int) ⊕ ((List Int × Int))) := some (.inl (l83, x84, (IntKind.i64.wrap (x70 + 1))))
def Zda (x47 : Int) (l68 : List Int) (x69 : Int) (x70 : Int) : Option ((List Int × Int × Int) ⊕ ((List Int × Int))) := (chk (decide ((Int.toNat x47) ≤ l68.length))).bind fun u72 => cond (decide (x70 < ((List.drop (Int.toNat x47) l68).length : Int))) ((getI (List.drop (Int.toNat x47) l68) x70).bind fun e74 => (getI (List.drop (Int.toNat x47) l68) (IntKind.i64.wrap (x70 - 1))).bind fun e76 => cond (e74 != e76) ((getI (List.drop (Int.toNat x47) l68) x70).bind fun e79 => (getI l68 x69).bind fun e81 => Zd9 x70 (List.set l68 (Int.toNat x69) e79) (IntKind.i64.wrap (x69 + 1))) (Zd9 x70 l68 x69)) (some (.inr (l68, x69)))
def Zdb (p0 : List Int) (x47 : Int) : Option (Int ⊕ ((List Int) ⊕ Unit)) := cond (decide (x47 < (p0.length : Int))) ((getI p0 x47).bind fun e49 => (getI p0 (IntKind.i64.wrap (x47 - 1))).bind fun e51 => cond (e49 == e51) ((chk (decide ((0 : Int) ≤ x47 ∧ x47 ≤ (p0.length : Int)))).bind fun u55 => (iter (fun z94 => Zda x47 z94.1 z94.2.1 z94.2.2) big (p0, x47, 1)).bind fun (y95, y96) => Zd8 y95 y96) (some (.inl (IntKind.i64.wrap (x47 + 1))))) (some (.inr (.inr ())))
def Zdc (p0 : List Int) : Option (List Int) := cond (decide ((p0.length : Int) < 2)) (some p0) ((iter (Zdb p0) big 1).bind (fun z98 => match z98 with | .inl y97 => some y97 | .inr () => Zd7 p0))
theorem Zdd {w00 : Value} (p0 : List Int) (r : List Int) (h : Zdc p0 = some r) : Ok Tryz.prog 257 [cV w00] [oA w00 2 kI64 1 p0] (fun c qs => ∃ (v93 : Value), c = cV v93 ∧ qs = [oA v93 2 kI64 1 r]) := by
 refine Ok.of_body (rs := [.tmp 2]) Tryz.func257 rfl rfl rfl rfl rfl fun X => ?_
 unfold Zdc at h
 refine zw ?_
 refine cnd h (fun hb1 h => ?_) fun hb1 h => ?_
 ·
  refine AW.ct hb1 rfl ?_
  refine zw ?_
  refine AW.ret ?_
  rw [← Wj h]
  exact finI ⟨[cV w00], _, Y25.refl _, (.cons (.tmp rfl) .nil), [0], _, _, rfl, ⟨w00, rfl, rfl⟩⟩
 refine AW.cf hb1 rfl ?_
 refine AW.skip ?_
 refine AW.seq ?_
 refine AW.cut (τ := Unit) (fun (_ : Unit) => ⟨[(0, cV w00)], [oA w00 2 kI64 1 p0]⟩) (fun (_ : Unit) => Zd7 p0 = some r) ?_ ?_
 ·
  refine zw ?_
  refine ob' h fun o99 g100 q101 => ?_
  refine AW.loop (τ := Int) (x := 1) (fun x47 => ⟨[(0, cV w00), (3, cI x47)], [oA w00 2 kI64 1 p0]⟩) (fun k x47 => iter (Zdb p0) k x47 = some o99) g100 (Y25.both (ns := [0]) rfl rfl) ?_
  intro k x47 i103
  refine Y4f (show iter (Zdb p0) k x47 = some o99 from i103) fun k102 y104 hlt_k102 h h105 => ?_
  replace h : Zdb p0 x47 = some y104 := h
  unfold Zdb at h
  refine zw ?_
  refine cnd h (fun hb48 h => ?_) fun hb48 h => ?_
  ·
   refine AW.ct hb48 rfl ?_
   refine zw ?_
   refine rD [0] [3,8] [] [0,4,8,13,16,20,24,28,33,36] ?_
   refine zw ?_
   refine di h fun e49 g50 h => ?_
   refine zw ?_
   refine di h fun e51 g52 h => ?_
   refine zw ?_
   refine cnd h (fun hb53 h => ?_) fun hb53 h => ?_
   ·
    refine AW.ct hb53 rfl ?_
    refine zw ?_
    refine ob' h fun u55 c54 h => ?_
    refine Ops.v rfl (Y79 (p := 0) (l := (Int.toNat x47)) Yaj.h rfl rfl rfl (Wo (Y45 c54)) rfl rfl) ?_
    refine Ops.v rfl (Ys rfl rfl) ?_
    refine Ops.nil ?_
    refine AW.seq ?_
    refine AW.cut (τ := List Int × Int) (fun (l85, x86) => ⟨[(0, cV w00), (3, cI x86)], [oA w00 2 kI64 1 l85]⟩) (fun (l85, x86) => Zd8 l85 x86 = some y104) ?_ ?_
    ·
     refine zw ?_
     refine ob' h fun o106 g107 q108 => ?_
     refine AW.loop (τ := List Int × Int × Int) (x := (p0, x47, 1)) (fun (l68, x69, x70) => ⟨[(0, cV w00), (3, cI x69), (4, cV (dropV w00 1 (Int.toNat x47))), (5, cI x70)], [oA w00 2 kI64 1 l68]⟩) (fun k (l68, x69, x70) => iter (fun z94 => Zda x47 z94.1 z94.2.1 z94.2.2) k (l68, x69, x70) = some o106) g107 (Y25.both (ns := [0]) rfl rfl) ?_
     rintro k ⟨l68, x69, x70⟩ i110
     refine Y4f (show iter (fun z94 => Zda x47 z94.1 z94.2.1 z94.2.2) k (l68, x69, x70) = some o106 from i110) fun k109 y111 hlt_k109 h h112 => ?_
     replace h : Zda x47 l68 x69 x70 = some y111 := h
     unfold Zda at h
     refine zw ?_
     refine ob' h fun u72 c71 h => ?_
     refine Ops.v rfl (Y7b (p := 0) Yaj.h rfl rfl (Wo (Y45 c71)) rfl) ?_
     refine zw ?_
     refine cnd h (fun hb73 h => ?_) fun hb73 h => ?_
     ·
      refine AW.ct hb73 rfl ?_
      refine AW.skip ?_
      refine AW.seq ?_
      refine AW.cut (τ := List Int × Int) (fun (l83, x84) => ⟨[(0, cV w00), (3, cI x84), (4, cV (dropV w00 1 (Int.toNat x47))), (5, cI x70)], [oA w00 2 kI64 1 l83]⟩) (fun (l83, x84) => Zd9 x70 l83 x84 = some y111) ?_ ?_
      ·
       refine zw ?_
       refine rD [0] [3,8] [] [0,4,8,13,16,20,24,28,33,36] ?_
       refine zw ?_
       refine ob' h fun e74 g75 h => ?_
       refine OpsD.v rfl rfl (Y7c (p := 0) Yaj.h rfl rfl rfl g75 rfl) ?_
       refine OpsD.v rfl rfl (Y3c (p := 0) ld_2.h rfl rfl (Y7d g75) rfl rfl) ?_
       refine zw ?_
       refine ob' h fun e76 g77 h => ?_
       refine OpsD.v rfl rfl (Y7c (p := 0) Yaj.h rfl rfl rfl g77 rfl) ?_
       refine OpsD.v rfl rfl (Y3c (p := 0) ld_2.h rfl rfl (Y7d g77) rfl rfl) ?_
       refine zw ?_
       refine cnd h (fun hb78 h => ?_) fun hb78 h => ?_
       ·
        refine AW.ct hb78 rfl ?_
        refine zw ?_
        refine ob' h fun e79 g80 h => ?_
        refine Ops.v rfl (Y7c (p := 0) Yaj.h rfl rfl rfl g80 rfl) ?_
        refine Ops.v rfl (Y3c (p := 0) ld_2.h rfl rfl (Y7d g80) rfl rfl) ?_
        refine oi h fun e81 g82 h => ?_
        refine Ops.hd (ns := [0]) rfl rfl (Y3f (e' := e79) ld_2.h rfl rfl (One.val rfl) (Y2f g82).2.2 rfl rfl) ?_
        refine zw ?_
        exact ⟨((List.set l68 (Int.toNat x69) e79), (IntKind.i64.wrap (x69 + 1))), h, Y25.both (ns := [0]) rfl rfl⟩
       refine AW.cf hb78 rfl ?_
       refine zw ?_
       exact ⟨(l68, x69), h, Y25.both (ns := [0]) rfl rfl⟩
      rintro ⟨l83, x84⟩ h
      replace h : Zd9 x70 l83 x84 = some y111 := h
      unfold Zd9 at h
      refine zw ?_
      obtain rfl := Wj h
      exact ⟨k109, (l83, x84, (IntKind.i64.wrap (x70 + 1))), hlt_k109, h112, Y25.both (ns := [0]) rfl rfl⟩
     refine AW.cf hb73 rfl ?_
     refine AW.exit ?_
     obtain rfl := Wj h
     obtain rfl := Wj h112
     replace h := q108
     exact ⟨(l68, x69), h, Y25.both (ns := [0]) rfl rfl⟩
    rintro ⟨l85, x86⟩ h
    replace h : Zd8 l85 x86 = some y104 := h
    unfold Zd8 at h
    refine zw ?_
    refine ob' h fun u88 c87 h => ?_
    refine Ops.v rfl (Y79 (p := 0) (l := (Int.toNat x86)) Yaj.h rfl rfl rfl (Wo (Y45 c87)) rfl rfl) ?_
    refine ob' h fun u90 c89 h => ?_
    refine Ops.hd (ns := [0]) rfl rfl (Y7h (z := 0) Yai ze_2 (Y4g rfl rfl) rfl (Wo (Y45 c89))) ?_
    refine zw ?_
    refine ob' h fun u92 c91 h => ?_
    refine Ops.v rfl (Y7a (p := 0) (l := (Int.toNat x86)) Yaj.h rfl rfl rfl (Wo (Y45 c91)) rfl rfl) ?_
    refine zw ?_
    refine AW.ret ?_
    obtain rfl := Wj h
    obtain rfl := Wj h105
    replace h := q101
    rw [← Wj h]
    exact finI ⟨[cV (takeV w00 (Int.toNat x86))], _, Y25.prefix (p := 0) (h := (Int.toNat x86)) rfl (Int.le_toNat_len c91), (.cons (.tmp rfl) .nil), [0], _, _, rfl, ⟨(takeV w00 (Int.toNat x86)), rfl, rfl⟩⟩
   refine AW.cf hb53 rfl ?_
   refine zw ?_
   obtain rfl := Wj h
   exact ⟨k102, (IntKind.i64.wrap (x47 + 1)), hlt_k102, h105, Y25.both (ns := [0]) rfl rfl⟩
  refine AW.cf hb48 rfl ?_
  refine AW.exit ?_
  obtain rfl := Wj h
  obtain rfl := Wj h105
  replace h := q101
  exact ⟨(), h, Y25.both (ns := [0]) rfl rfl⟩
 rintro ⟨⟩ h
 replace h : Zd7 p0 = some r := h
 unfold Zd7 at h
 refine zw ?_
 refine AW.ret ?_
 rw [← Wj h]
 exact finI ⟨[cV w00], _, Y25.refl _, (.cons (.tmp rfl) .nil), [0], _, _, rfl, ⟨w00, rfl, rfl⟩⟩
instance Zde (p0 : List Int) : SpO Tryz.prog 257 (Zdc p0) (.x fun (w00 : Value) => .d [cV w00] [oA w00 2 kI64 1 p0] fun r => .x fun (v93 : Value) => .d (cV v93) [oA v93 2 kI64 1 r]) := ⟨fun w00 r h => Zdd p0 r h⟩

def Zdf (p0 : List Int) : Option (List Int) := (chk (decide (p0.length < 4611686018427387904))).bind fun u2 => (Zdc (List.mergeSort p0 (fun x y => decide (x ≤ y)))).bind fun r3 => some r3
instance Zdg (p0 : List Int) : SpO Tryz.prog 228 (Zdf p0) (.x fun (w00 : Value) => .d [cV w00] [oA w00 2 kI64 1 p0] fun r => .x fun (v6 : Value) => .d (cV v6) [oA v6 2 kI64 1 r]) := ⟨fun w00 => so Tryz.func228 rfl rfl fun r X h => gh (.k .z)⟩
def Zdh (p0 : Int) (q0 : Y9j) : Option Bool := (Z5z q0.prev p0).bind fun r1 => some r1
instance Zdi (p0 : Int) (q0 : Y9j) : SpO Tryz.prog 231 (Zdh p0 q0) (.x fun (b00 : Nat) => .d [cI p0, pt b00] [oB b00 42 [cI q0.id, cI q0.room, cI q0.author, cI q0.kind, cI q0.key, cI q0.n, C.str q0.text, cM kI64 1 q0.prev, cI q0.time]] fun r => .d (C.bool r) [oB b00 42 [cI q0.id, cI q0.room, cI q0.author, cI q0.kind, cI q0.key, cI q0.n, C.str q0.text, cM kI64 1 q0.prev, cI q0.time]]) := ⟨fun b00 => so Tryz.func231 rfl rfl fun r X h => gh .z⟩

def Zdj : Option Int := some (-1)
def Zdk (p0 : List Int) (p1_0 : Y9j) (x7 : Int) : Option (Int ⊕ (Int ⊕ Unit)) := cond (decide (x7 < (p0.length : Int))) ((getI p0 x7).bind fun e9 => (Zdh e9 p1_0).bind fun r11 => cond r11 (some (.inr (.inl x7))) (some (.inl (IntKind.i64.wrap (x7 + 1))))) (some (.inr (.inr ())))
def Zdl (p0 : List Int) (p1_0 : Y9j) : Option Int := (iter (Zdk p0 p1_0) big 0).bind (fun z15 => match z15 with | .inl y14 => some y14 | .inr () => Zdj)
instance Zdm (p0 : List Int) (p1_0 : Y9j) : SpO Tryz.prog 237 (Zdl p0 p1_0) (.x fun (w00 : Value) => .x fun (b01 : Nat) => .d [cV w00, C.clo 231 [pt b01]] [oA w00 2 kI64 1 p0, oB b01 42 [cI p1_0.id, cI p1_0.room, cI p1_0.author, cI p1_0.kind, cI p1_0.key, cI p1_0.n, C.str p1_0.text, cM kI64 1 p1_0.prev, cI p1_0.time]] fun r => .d (cI r) [oA w00 2 kI64 1 p0, oB b01 42 [cI p1_0.id, cI p1_0.room, cI p1_0.author, cI p1_0.kind, cI p1_0.key, cI p1_0.n, C.str p1_0.text, cM kI64 1 p1_0.prev, cI p1_0.time]]) := ⟨fun w00 b01 => so Tryz.func237 rfl rfl fun r X h => gh (.q 1 (.c0 (.d [] []) [] [0,1] (.l1 (fun x7 => .d [(8, cI x7)] []) [0,1,7] [0,1] .z) .z))⟩

end Go.Proofs.YtomachnjepgpbaaGreat
