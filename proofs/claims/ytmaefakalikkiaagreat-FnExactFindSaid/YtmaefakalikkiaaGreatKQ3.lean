/- Printed by gen.py: plain functions for Go functions, and that the walks keep to them. -/
import Derived.Test.YtmaefakalikkiaaGreatKQ2
set_option autoImplicit false
set_option linter.unusedVariables false
set_option linter.unusedSimpArgs false
set_option maxHeartbeats 8000000
set_option maxRecDepth 100000
namespace Go.Proofs.YtmaefakalikkiaaGreat
open Go Go.Abs
attribute [local irreducible] AW Ops OpsD Y3z VoK HoK GhF UsC Go.Abs.Fin PkK LenT LenL Y9k BldK FzK FzLK
def Z9p (l140 : List Int) (x141 : Int) : Option (List Int × Bool) := some (l140, (x141 == 0))
def Z9q (x109 : Int) (l137 : List Int) (x138 : Int) (x139 : Bool) : Option ((List Int × Int × Bool × Int) ⊕ ((List Int × Int × Bool))) := some (.inl (l137, x138, x139, (IntKind.i64.wrap (x109 + 1))))
def Z9r (l106 : List Int) (x107 : Int) (x108 : Bool) (x109 : Int) (x135 : Int) : Option ((List Int × Int × Bool × Int) ⊕ ((List Int × Int × Bool))) := cond (decide (x135 > 0)) (Z9q x109 (List.set l106 (Int.toNat x109) x135) (IntKind.i64.wrap (x107 - 1)) true) (Z9q x109 l106 x107 x108)
def Z9s (p0 : Y9y) (l106 : List Int) (e111 : Y9v) (x125 : Int) (x126 : Int) : Option ((Int × Int) ⊕ (Int)) := cond (decide (x126 < (e111.prev.length : Int))) ((getI e111.prev x126).bind fun e128 => (Z9b p0.events e128).bind fun r130 => (getI l106 r130.1).bind fun e132 => cond (e132 == 0) (some (.inr 0)) (some (.inl ((if (IntKind.i64.wrap (e132 + 1)) > x125 then (IntKind.i64.wrap (e132 + 1)) else x125), (IntKind.i64.wrap (x126 + 1)))))) (some (.inr x125))
def Z9t (p0 : Y9y) (l106 : List Int) (x107 : Int) (x108 : Bool) (x109 : Int) : Option ((List Int × Int × Bool × Int) ⊕ ((List Int × Int × Bool))) := cond (decide (x109 < (p0.events.length : Int))) ((getI p0.events x109).bind fun e111 => (getI l106 x109).bind fun e114 => cond (decide (e114 > 0)) (Z9q x109 l106 x107 x108) ((iter (fun z143 => Z9s p0 l106 e111 z143.1 z143.2) big (1, 0)).bind fun y144 => Z9r l106 x107 x108 x109 y144)) (some (.inr (l106, x107, x108)))
def Z9u (p0 : Y9y) (l70 : List Int) (x71 : Int) (x74 : Bool) : Option ((List Int × Int × Bool) ⊕ ((List Int × Int))) := cond x74 ((iter (fun z145 => Z9t p0 z145.1 z145.2.1 z145.2.2.1 z145.2.2.2) big (l70, x71, false, 0)).bind fun (y146, y147, y148) => some (.inl (y146, y147, y148))) (some (.inr (l70, x71)))
def Z9v (p0 : Y9y) (l70 : List Int) (x71 : Int) (x72 : Bool) : Option ((List Int × Int × Bool) ⊕ ((List Int × Int))) := cond x72 (Z9u p0 l70 x71 (decide (x71 > 0))) (Z9u p0 l70 x71 false)
def Z9w (p0 : Y9y) : Option (List Int × Bool) := (chk (decide (0 ≤ (p0.events.length : Int) ∧ (p0.events.length : Int) * 8 ≤ 140737488355328))).bind fun u3 => (iter (fun z149 => Z9v p0 z149.1 z149.2.1 z149.2.2) big ((List.replicate (Int.toNat (p0.events.length : Int)) 0), (p0.events.length : Int), true)).bind fun (y150, y151) => Z9p y150 y151
instance Z9x (p0 : Y9y) : SpO Tryz.prog 230 (Z9w p0) (.d [C.agg [cI p0.room, cM Ya6 9 p0.events, cM Ya6 9 p0.parked]] [] fun r => .x fun (v142 : Value) => .d (C.tup [cV v142, C.bool r.2]) [oA v142 2 kI64 1 r.1]) := ⟨so Tryz.func230 rfl rfl fun r X h => gh (.r [0] [1,5] [] [0,5,8,16,21,24,14,28,32] (.a 1 fun w1 => .c2 (fun l140 x141 => .d [(5, cI x141)] [oA w1 2 kI64 1 l140]) [4] [] (.A 1 fun w1 => .l3 (fun l70 x71 x72 => .d [(5, cI x71), (6, C.bool x72)] [oA w1 2 kI64 1 l70]) [1,4] [0] (.q 1 (.c1 (fun x74 => .d [(25, C.bool x74)] []) [1,4,5] [1,0] .z (.b (.A 1 fun w1 => .l4 (fun l106 x107 x108 x109 => .d [(5, cI x107), (6, C.bool x108), (29, cI x109)] [oA w1 2 kI64 1 l106]) [1,4,27,28] [0] (.b (.a 0 fun w0 => .c3 (fun l137 x138 x139 => .d [(5, cI x138), (6, C.bool x139)] [oA w0 2 kI64 1 l137]) [1,4,27,28,29] [1] (.b .z (.q 1 (.c1 (fun x135 => .d [(9, cI x135)] []) [1,4,5,6,7,27,28,29] [2,1] (.l2 (fun x125 x126 => .d [(9, cI x125), (42, cI x126)] []) [1,4,5,6,7,27,28,29,40,41] [2,1] .z) .z))) .z) .z)) .z)))) .z))⟩
instance Z9x' (p0 : Y9y) : Sp Tryz.prog 230 [C.agg [cI p0.room, cM Ya6 9 p0.events, cM Ya6 9 p0.parked]] (Z9w p0) (fun r => C.tup [cM kI64 1 r.1, C.bool r.2]) := ⟨fun r h => Ok.freeze ((Z9x p0).h r h) (by rintro c qs ⟨v142, rfl, rfl⟩; exact Frz.tup (FrzT.cons (os := [_]) (Frz.arr) (fT (FrzT.nil))))⟩

def Z9y (p0 : Y9v) (q0 : Y9y) : Option Bool := (Z9n q0 p0).bind fun r2 => some (!r2)
instance Z9z (p0 : Y9v) (q0 : Y9y) : SpO Tryz.prog 227 (Z9y p0 q0) (.x fun (b00 : Nat) => .d [C.agg [cI p0.id, cI p0.room, cI p0.author, cI p0.kind, cI p0.key, cI p0.n, C.str p0.text, cM kI64 1 p0.prev, cI p0.time], pt b00] [oB b00 25 [cI q0.room, cM Ya6 9 q0.events, cM Ya6 9 q0.parked]] fun r => .d (C.bool r) [oB b00 25 [cI q0.room, cM Ya6 9 q0.events, cM Ya6 9 q0.parked]]) := ⟨fun b00 => so Tryz.func227 rfl rfl fun r X h => gh .z⟩

def Za0 : Option Int := some (-1)
def Za1 (p0 : List Y9v) (p1_0 : Y9y) (x7 : Int) : Option (Int ⊕ (Int ⊕ Unit)) := cond (decide (x7 < (p0.length : Int))) ((getI p0 x7).bind fun e9 => (Z9y e9 p1_0).bind fun r11 => cond r11 (some (.inr (.inl x7))) (some (.inl (IntKind.i64.wrap (x7 + 1))))) (some (.inr (.inr ())))
def Za2 (p0 : List Y9v) (p1_0 : Y9y) : Option Int := (iter (Za1 p0 p1_0) big 0).bind (fun z15 => match z15 with | .inl y14 => some y14 | .inr () => Za0)
instance Za3 (p0 : List Y9v) (p1_0 : Y9y) : SpO Tryz.prog 314 (Za2 p0 p1_0) (.x fun (b00 : Nat) => .d [cM Ya6 9 p0, C.clo 227 [pt b00]] [oB b00 25 [cI p1_0.room, cM Ya6 9 p1_0.events, cM Ya6 9 p1_0.parked]] fun r => .d (cI r) [oB b00 25 [cI p1_0.room, cM Ya6 9 p1_0.events, cM Ya6 9 p1_0.parked]]) := ⟨fun b00 => so Tryz.func314 rfl rfl fun r X h => gh (.q 1 (.c0 (.d [] []) [] [0] (.l1 (fun x7 => .d [(8, cI x7)] []) [0,1,7] [0] .z) .z))⟩

def Za4 (p0 : List Y9v) (p1_0 : Y9y) : Option Bool := (Za2 p0 p1_0).bind fun r1 => some (decide (r1 ≥ 0))
instance Za5 (p0 : List Y9v) (p1_0 : Y9y) : SpO Tryz.prog 226 (Za4 p0 p1_0) (.x fun (b00 : Nat) => .d [cM Ya6 9 p0, C.clo 227 [pt b00]] [oB b00 25 [cI p1_0.room, cM Ya6 9 p1_0.events, cM Ya6 9 p1_0.parked]] fun r => .d (C.bool r) [oB b00 25 [cI p1_0.room, cM Ya6 9 p1_0.events, cM Ya6 9 p1_0.parked]]) := ⟨fun b00 => so Tryz.func226 rfl rfl fun r X h => gh .z⟩

def Za6 (x7 : Bool) : Option Bool := some x7
def Za7 (p0 : Y9v) (q0 : Y9y) : Option Bool := (Z9d q0 p0.id).bind fun r2 => cond r2 (Za6 true) ((Z9n q0 p0).bind fun r5 => Za6 r5)
instance Za8 (p0 : Y9v) (q0 : Y9y) : SpO Tryz.prog 229 (Za7 p0 q0) (.x fun (b00 : Nat) => .d [C.agg [cI p0.id, cI p0.room, cI p0.author, cI p0.kind, cI p0.key, cI p0.n, C.str p0.text, cM kI64 1 p0.prev, cI p0.time], pt b00] [oB b00 25 [cI q0.room, cM Ya6 9 q0.events, cM Ya6 9 q0.parked]] fun r => .d (C.bool r) [oB b00 25 [cI q0.room, cM Ya6 9 q0.events, cM Ya6 9 q0.parked]]) := ⟨fun b00 => so Tryz.func229 rfl rfl fun r X h => gh (.q 1 (.c1 (fun x7 => .d [(3, C.bool x7)] []) [] [1] .z .z))⟩

def Za9 : Option Int := some (-1)
def Zaa (p0 : List Y9v) (p1_0 : Y9y) (x7 : Int) : Option (Int ⊕ (Int ⊕ Unit)) := cond (decide (x7 < (p0.length : Int))) ((getI p0 x7).bind fun e9 => (Za7 e9 p1_0).bind fun r11 => cond r11 (some (.inr (.inl x7))) (some (.inl (IntKind.i64.wrap (x7 + 1))))) (some (.inr (.inr ())))
def Zab (p0 : List Y9v) (p1_0 : Y9y) : Option Int := (iter (Zaa p0 p1_0) big 0).bind (fun z15 => match z15 with | .inl y14 => some y14 | .inr () => Za9)
instance Zac (p0 : List Y9v) (p1_0 : Y9y) : SpO Tryz.prog 314 (Zab p0 p1_0) (.x fun (b00 : Nat) => .d [cM Ya6 9 p0, C.clo 229 [pt b00]] [oB b00 25 [cI p1_0.room, cM Ya6 9 p1_0.events, cM Ya6 9 p1_0.parked]] fun r => .d (cI r) [oB b00 25 [cI p1_0.room, cM Ya6 9 p1_0.events, cM Ya6 9 p1_0.parked]]) := ⟨fun b00 => so Tryz.func314 rfl rfl fun r X h => gh (.q 1 (.c0 (.d [] []) [] [0] (.l1 (fun x7 => .d [(8, cI x7)] []) [0,1,7] [0] .z) .z))⟩

def Zad (p0 : List Y9v) (p1_0 : Y9y) : Option Bool := (Zab p0 p1_0).bind fun r1 => some (decide (r1 ≥ 0))
instance Zae (p0 : List Y9v) (p1_0 : Y9y) : SpO Tryz.prog 226 (Zad p0 p1_0) (.x fun (b00 : Nat) => .d [cM Ya6 9 p0, C.clo 229 [pt b00]] [oB b00 25 [cI p1_0.room, cM Ya6 9 p1_0.events, cM Ya6 9 p1_0.parked]] fun r => .d (C.bool r) [oB b00 25 [cI p1_0.room, cM Ya6 9 p1_0.events, cM Ya6 9 p1_0.parked]]) := ⟨fun b00 => so Tryz.func226 rfl rfl fun r X h => gh .z⟩

def Zaf (p0 : Y9y) (x12 : Bool) : Option Bool := cond x12 (some false) ((Za4 p0.events p0).bind fun r14 => cond r14 (some false) ((Zad p0.parked p0).bind fun r17 => cond r17 (some false) ((Z9w p0).bind fun r20 => some r20.2)))
def Zag (p0 : Y9y) : Option Bool := (Z7w p0.room).bind fun r2 => cond r2 (cond (decide ((p0.events.length : Int) > 60)) (Zaf p0 true) (cond (decide ((p0.parked.length : Int) > 20)) (Zaf p0 true) ((Z8y p0 p0.events).bind fun r7 => cond r7 ((Z8y p0 p0.parked).bind fun r10 => Zaf p0 (!r10)) (Zaf p0 true)))) (Zaf p0 true)
instance Zah (p0 : Y9y) : Sp Tryz.prog 115 [C.agg [cI p0.room, cM Ya6 9 p0.events, cM Ya6 9 p0.parked]] (Zag p0) (fun r => C.bool r) := Sp.of (so Tryz.func115 rfl rfl fun r X h => gh (.q 2 (.c1 (fun x12 => .d [(34, C.bool x12)] []) [1] [0] .z .z)))

def Zai (p0 : Int) (p1 : Int) (q0 : List Int) : Option Int := (getI q0 p0).bind fun e1 => (getI q0 p1).bind fun e3 => (Z92 e1 e3).bind fun r5 => some r5
instance Zaj (p0 : Int) (p1 : Int) (q0 : List Int) : SpO Tryz.prog 318 (Zai p0 p1 q0) (.x fun (b00 : Nat) => .d [cI p0, cI p1, pt b00] [oB b00 39 [cM kI64 1 q0]] fun r => .d (cI r) [oB b00 39 [cM kI64 1 q0]]) := ⟨fun b00 => so Tryz.func318 rfl rfl fun r X h => gh (.r [0] [0,3,4,7] [] [1,4,8,13,17,20,24,29,34,36] .z)⟩

def Zak (x62 : Int) (l122 : List Int) : Option ((List Int × Int) ⊕ ((List Int))) := some (.inl (l122, (IntKind.i64.wrap (x62 + 1))))
def Zal (l92 : List Int) (x93 : Int) (x110 : Bool) : Option ((List Int × Int) ⊕ ((List Int))) := cond x110 ((getI l92 (IntKind.i64.wrap (x93 - 1))).bind fun e112 => (getI l92 x93).bind fun e114 => (getI (List.set l92 (Int.toNat x93) e112) (IntKind.i64.wrap (x93 - 1))).bind fun e120 => some (.inl ((List.set (List.set l92 (Int.toNat x93) e112) (Int.toNat (IntKind.i64.wrap (x93 - 1))) e114), (IntKind.i64.wrap (x93 - 1))))) (some (.inr l92))
def Zam (p1 : Int) (p3_0 : List Int) (l92 : List Int) (x93 : Int) : Option ((List Int × Int) ⊕ ((List Int))) := cond (decide (x93 > p1)) ((getI l92 x93).bind fun e104 => (getI l92 (IntKind.i64.wrap (x93 - 1))).bind fun e106 => (Zai e104 e106 p3_0).bind fun r108 => Zal l92 x93 (decide (r108 < 0))) (Zal l92 x93 false)
def Zan (p1 : Int) (p2 : Int) (p3_0 : List Int) (l61 : List Int) (x62 : Int) : Option ((List Int × Int) ⊕ ((List Int))) := cond (decide (x62 < p2)) ((iter (fun z123 => Zam p1 p3_0 z123.1 z123.2) big (l61, x62)).bind fun y124 => Zak x62 y124) (some (.inr l61))
def Zao (p0 : List Int) (p1 : Int) (p2 : Int) (p3_0 : List Int) : Option (List Int) := (iter (fun z125 => Zan p1 p2 p3_0 z125.1 z125.2) big (p0, (IntKind.i64.wrap (p1 + 1)))).bind fun y126 => some y126
instance Zap (p0 : List Int) (p1 : Int) (p2 : Int) (p3_0 : List Int) : SpO Tryz.prog 392 (Zao p0 p1 p2 p3_0) (.x fun (w00 : Value) => .x fun (b01 : Nat) => .d [cV w00, cI p1, cI p2, C.clo 318 [pt b01]] [oA w00 3 kI64 1 p0, oB b01 39 [cM kI64 1 p3_0]] fun r => .d (C.tup []) [oA w00 3 kI64 1 r, oB b01 39 [cM kI64 1 p3_0]]) := ⟨fun w00 b01 => so Tryz.func392 rfl rfl fun r X h => gh (.l2 (fun l61 x62 => .d [(8, cI x62)] [oA w00 3 kI64 1 l61]) [0,1,2,3] [1] (.b (.c1 (fun l122 => .d [] [oA w00 3 kI64 1 l122]) [0,1,2,3,8] [1] (.l2 (fun l92 x93 => .d [(9, cI x93)] [oA w00 3 kI64 1 l92]) [0,1,2,3,8] [1] (.q 1 (.c1 (fun x110 => .d [(34, C.bool x110)] []) [0,1,2,3,8,9] [0,1] (.r [0] [8,13] [] [0,4,8,12,16,20,24,28,33,36,40,44,48,53,58,60,64] .z) (.b (.r [0,0] [9,13] [15,17] [0,4,8,12,16,20,24,28,32,37,40,44,48,53,56,63,64,71] (.w 16 .z)) .z)))) .z) .z))⟩

def Zaq (p1 : Int) (p2 : Int) (p3 : Int) (l12 : List Int) (x13 : Int) : Option ((List Int × Int) ⊕ ((List Int))) := cond (decide (x13 < p3)) ((getI l12 (IntKind.i64.wrap (p2 + x13))).bind fun e15 => (getI l12 (IntKind.i64.wrap (p1 + x13))).bind fun e17 => (getI (List.set l12 (Int.toNat (IntKind.i64.wrap (p1 + x13))) e15) (IntKind.i64.wrap (p2 + x13))).bind fun e23 => some (.inl ((List.set (List.set l12 (Int.toNat (IntKind.i64.wrap (p1 + x13))) e15) (Int.toNat (IntKind.i64.wrap (p2 + x13))) e17), (IntKind.i64.wrap (x13 + 1))))) (some (.inr l12))
def Zar (p0 : List Int) (p1 : Int) (p2 : Int) (p3 : Int) (p4_0 : List Int) : Option (List Int) := (iter (fun z25 => Zaq p1 p2 p3 z25.1 z25.2) big (p0, 0)).bind fun y26 => some y26
instance Zas (p0 : List Int) (p1 : Int) (p2 : Int) (p3 : Int) (p4_0 : List Int) : SpO Tryz.prog 422 (Zar p0 p1 p2 p3 p4_0) (.x fun (w00 : Value) => .x fun (b01 : Nat) => .d [cV w00, cI p1, cI p2, cI p3, C.clo 318 [pt b01]] [oA w00 3 kI64 1 p0, oB b01 39 [cM kI64 1 p4_0]] fun r => .d (C.tup []) [oA w00 3 kI64 1 r, oB b01 39 [cM kI64 1 p4_0]]) := ⟨fun w00 b01 => so Tryz.func422 rfl rfl fun r X h => gh (.l2 (fun l12 x13 => .d [(10, cI x13)] [oA w00 3 kI64 1 l12]) [0,1,2,3] [1] (.b (.r [0,0] [13,19] [21,23] [0,4,8,12,16,20,24,28,32,36,40,44,48,53,56,60,64,68,72,77,80,87,88,95] (.w 22 .z)) .z))⟩

def Zat (p2 : Int) (p4_0 : List Int) (l16 : List Int) (x17 : Int) : Option (List Int) := (Zar l16 (IntKind.i64.wrap (p2 - x17)) p2 x17 p4_0).bind fun r18 => some r18
def Zau (p2 : Int) (p4_0 : List Int) (l7 : List Int) (x8 : Int) (x9 : Int) : Option ((List Int × Int × Int) ⊕ ((List Int × Int))) := cond (x8 != x9) (cond (decide (x8 > x9)) ((Zar l7 (IntKind.i64.wrap (p2 - x8)) p2 x9 p4_0).bind fun r12 => some (.inl (r12, (IntKind.i64.wrap (x8 - x9)), x9))) ((Zar l7 (IntKind.i64.wrap (p2 - x8)) (IntKind.i64.wrap ((IntKind.i64.wrap (p2 + x9)) - x8)) x8 p4_0).bind fun r14 => some (.inl (r14, x8, (IntKind.i64.wrap (x9 - x8)))))) (some (.inr (l7, x8)))
def Zav (p0 : List Int) (p1 : Int) (p2 : Int) (p3 : Int) (p4_0 : List Int) : Option (List Int) := (iter (fun z20 => Zau p2 p4_0 z20.1 z20.2.1 z20.2.2) big (p0, (IntKind.i64.wrap (p2 - p1)), (IntKind.i64.wrap (p3 - p2)))).bind fun (y21, y22) => Zat p2 p4_0 y21 y22
instance Zaw (p0 : List Int) (p1 : Int) (p2 : Int) (p3 : Int) (p4_0 : List Int) : SpO Tryz.prog 409 (Zav p0 p1 p2 p3 p4_0) (.x fun (w00 : Value) => .x fun (b01 : Nat) => .d [cV w00, cI p1, cI p2, cI p3, C.clo 318 [pt b01]] [oA w00 3 kI64 1 p0, oB b01 39 [cM kI64 1 p4_0]] fun r => .d (C.tup []) [oA w00 3 kI64 1 r, oB b01 39 [cM kI64 1 p4_0]]) := ⟨fun w00 b01 => so Tryz.func409 rfl rfl fun r X h => gh (.q 2 (.c2 (fun l16 x17 => .d [(10, cI x17)] [oA w00 3 kI64 1 l16]) [0,2,4] [1] (.l3 (fun l7 x8 x9 => .d [(10, cI x8), (11, cI x9)] [oA w00 3 kI64 1 l7]) [0,2,4] [1] .z) .z))⟩

def Zax (l61 : List Int) : Option (List Int) := some l61
def Zay (x36 : Int) (l48 : List Int) (x49 : Int) : Option ((List Int × Int) ⊕ ((List Int))) := cond (decide (x49 < (IntKind.i64.wrap (x36 - 1)))) ((getI l48 (IntKind.i64.wrap (x49 + 1))).bind fun e51 => (getI l48 x49).bind fun e53 => (getI (List.set l48 (Int.toNat x49) e51) (IntKind.i64.wrap (x49 + 1))).bind fun e59 => some (.inl ((List.set (List.set l48 (Int.toNat x49) e51) (Int.toNat (IntKind.i64.wrap (x49 + 1))) e53), (IntKind.i64.wrap (x49 + 1))))) (some (.inr l48))
def Zaz (p0 : List Int) (p1 : Int) (x36 : Int) : Option (List Int) := (iter (fun z178 => Zay x36 z178.1 z178.2) big (p0, p1)).bind fun y179 => Zax y179
def Zb0 (p0 : List Int) (p1 : Int) (p4_0 : List Int) (x18 : Int) (x19 : Int) : Option ((Int × Int) ⊕ (Int)) := cond (decide (x18 < x19)) ((getI p0 (IntKind.i64.wrap (shrI .u64 (IntKind.u64.wrap (IntKind.i64.wrap (x18 + x19))) 1))).bind fun e29 => (getI p0 p1).bind fun e31 => (Zai e29 e31 p4_0).bind fun r33 => cond (decide (r33 < 0)) (some (.inl ((IntKind.i64.wrap ((IntKind.i64.wrap (shrI .u64 (IntKind.u64.wrap (IntKind.i64.wrap (x18 + x19))) 1)) + 1)), x19))) (some (.inl (x18, (IntKind.i64.wrap (shrI .u64 (IntKind.u64.wrap (IntKind.i64.wrap (x18 + x19))) 1)))))) (some (.inr x18))
def Zb1 (l122 : List Int) : Option (List Int) := some l122
def Zb2 (x97 : Int) (l109 : List Int) (x110 : Int) : Option ((List Int × Int) ⊕ ((List Int))) := cond (decide (x110 > x97)) ((getI l109 (IntKind.i64.wrap (x110 - 1))).bind fun e112 => (getI l109 x110).bind fun e114 => (getI (List.set l109 (Int.toNat x110) e112) (IntKind.i64.wrap (x110 - 1))).bind fun e120 => some (.inl ((List.set (List.set l109 (Int.toNat x110) e112) (Int.toNat (IntKind.i64.wrap (x110 - 1))) e114), (IntKind.i64.wrap (x110 - 1))))) (some (.inr l109))
def Zb3 (p0 : List Int) (p2 : Int) (x97 : Int) : Option (List Int) := (iter (fun z182 => Zb2 x97 z182.1 z182.2) big (p0, p2)).bind fun y183 => Zb1 y183
def Zb4 (p0 : List Int) (p2 : Int) (p4_0 : List Int) (x79 : Int) (x80 : Int) : Option ((Int × Int) ⊕ (Int)) := cond (decide (x79 < x80)) ((getI p0 p2).bind fun e90 => (getI p0 (IntKind.i64.wrap (shrI .u64 (IntKind.u64.wrap (IntKind.i64.wrap (x79 + x80))) 1))).bind fun e92 => (Zai e90 e92 p4_0).bind fun r94 => cond (decide (r94 < 0)) (some (.inl (x79, (IntKind.i64.wrap (shrI .u64 (IntKind.u64.wrap (IntKind.i64.wrap (x79 + x80))) 1))))) (some (.inl ((IntKind.i64.wrap ((IntKind.i64.wrap (shrI .u64 (IntKind.u64.wrap (IntKind.i64.wrap (x79 + x80))) 1)) + 1)), x80)))) (some (.inr x79))
def Zb5 (p1 : Int) (p2 : Int) (p3 : Int) (p4_0 : List Int) (self_ : (List Int) → Int → Int → Int → (List Int) → Option (List Int)) (x160 : Int) (l172 : List Int) (x174 : Bool) : Option (List Int) := cond x174 ((self_ l172 (IntKind.i64.wrap (shrI .u64 (IntKind.u64.wrap (IntKind.i64.wrap (p1 + p3))) 1)) (IntKind.i64.wrap ((IntKind.i64.wrap ((IntKind.i64.wrap (shrI .u64 (IntKind.u64.wrap (IntKind.i64.wrap (p1 + p3))) 1)) + p2)) - x160)) p3 p4_0).bind fun r176 => some r176) (some l172)
def Zb6 (p1 : Int) (p2 : Int) (p3 : Int) (p4_0 : List Int) (self_ : (List Int) → Int → Int → Int → (List Int) → Option (List Int)) (x160 : Int) (l172 : List Int) : Option (List Int) := cond (decide ((IntKind.i64.wrap (shrI .u64 (IntKind.u64.wrap (IntKind.i64.wrap (p1 + p3))) 1)) < (IntKind.i64.wrap ((IntKind.i64.wrap ((IntKind.i64.wrap (shrI .u64 (IntKind.u64.wrap (IntKind.i64.wrap (p1 + p3))) 1)) + p2)) - x160)))) (Zb5 p1 p2 p3 p4_0 self_ x160 l172 (decide ((IntKind.i64.wrap ((IntKind.i64.wrap ((IntKind.i64.wrap (shrI .u64 (IntKind.u64.wrap (IntKind.i64.wrap (p1 + p3))) 1)) + p2)) - x160)) < p3))) (Zb5 p1 p2 p3 p4_0 self_ x160 l172 false)
def Zb7 (p1 : Int) (p2 : Int) (p3 : Int) (p4_0 : List Int) (self_ : (List Int) → Int → Int → Int → (List Int) → Option (List Int)) (x160 : Int) (l166 : List Int) (x168 : Bool) : Option (List Int) := cond x168 ((self_ l166 p1 x160 (IntKind.i64.wrap (shrI .u64 (IntKind.u64.wrap (IntKind.i64.wrap (p1 + p3))) 1)) p4_0).bind fun r170 => Zb6 p1 p2 p3 p4_0 self_ x160 r170) (Zb6 p1 p2 p3 p4_0 self_ x160 l166)
def Zb8 (p1 : Int) (p2 : Int) (p3 : Int) (p4_0 : List Int) (self_ : (List Int) → Int → Int → Int → (List Int) → Option (List Int)) (x160 : Int) (l166 : List Int) : Option (List Int) := cond (decide (p1 < x160)) (Zb7 p1 p2 p3 p4_0 self_ x160 l166 (decide (x160 < (IntKind.i64.wrap (shrI .u64 (IntKind.u64.wrap (IntKind.i64.wrap (p1 + p3))) 1))))) (Zb7 p1 p2 p3 p4_0 self_ x160 l166 false)
def Zb9 (p0 : List Int) (p1 : Int) (p2 : Int) (p3 : Int) (p4_0 : List Int) (self_ : (List Int) → Int → Int → Int → (List Int) → Option (List Int)) (x160 : Int) (x162 : Bool) : Option (List Int) := cond x162 ((Zav p0 x160 p2 (IntKind.i64.wrap ((IntKind.i64.wrap ((IntKind.i64.wrap (shrI .u64 (IntKind.u64.wrap (IntKind.i64.wrap (p1 + p3))) 1)) + p2)) - x160)) p4_0).bind fun r164 => Zb8 p1 p2 p3 p4_0 self_ x160 r164) (Zb8 p1 p2 p3 p4_0 self_ x160 p0)
def Zba (p0 : List Int) (p1 : Int) (p2 : Int) (p3 : Int) (p4_0 : List Int) (self_ : (List Int) → Int → Int → Int → (List Int) → Option (List Int)) (x160 : Int) : Option (List Int) := cond (decide (x160 < p2)) (Zb9 p0 p1 p2 p3 p4_0 self_ x160 (decide (p2 < (IntKind.i64.wrap ((IntKind.i64.wrap ((IntKind.i64.wrap (shrI .u64 (IntKind.u64.wrap (IntKind.i64.wrap (p1 + p3))) 1)) + p2)) - x160))))) (Zb9 p0 p1 p2 p3 p4_0 self_ x160 false)
def Zbb (p0 : List Int) (p1 : Int) (p2 : Int) (p3 : Int) (p4_0 : List Int) (x142 : Int) (x143 : Int) : Option ((Int × Int) ⊕ (Int)) := cond (decide (x142 < x143)) ((getI p0 (IntKind.i64.wrap ((IntKind.i64.wrap ((IntKind.i64.wrap ((IntKind.i64.wrap (shrI .u64 (IntKind.u64.wrap (IntKind.i64.wrap (p1 + p3))) 1)) + p2)) - 1)) - (IntKind.i64.wrap (shrI .u64 (IntKind.u64.wrap (IntKind.i64.wrap (x142 + x143))) 1))))).bind fun e153 => (getI p0 (IntKind.i64.wrap (shrI .u64 (IntKind.u64.wrap (IntKind.i64.wrap (x142 + x143))) 1))).bind fun e155 => (Zai e153 e155 p4_0).bind fun r157 => cond (decide (r157 < 0)) (some (.inl (x142, (IntKind.i64.wrap (shrI .u64 (IntKind.u64.wrap (IntKind.i64.wrap (x142 + x143))) 1))))) (some (.inl ((IntKind.i64.wrap ((IntKind.i64.wrap (shrI .u64 (IntKind.u64.wrap (IntKind.i64.wrap (x142 + x143))) 1)) + 1)), x143)))) (some (.inr x142))
def Zbc (p0 : List Int) (p1 : Int) (p2 : Int) (p3 : Int) (p4_0 : List Int) (self_ : (List Int) → Int → Int → Int → (List Int) → Option (List Int)) (x124 : Int) (x125 : Int) : Option (List Int) := (iter (fun z186 => Zbb p0 p1 p2 p3 p4_0 z186.1 z186.2) big (x124, x125)).bind fun y187 => Zba p0 p1 p2 p3 p4_0 self_ y187
def Zbd (self_ : (List Int) → Int → Int → Int → (List Int) → Option (List Int)) (p0 : List Int) (p1 : Int) (p2 : Int) (p3 : Int) (p4_0 : List Int) : Option (List Int) := cond ((IntKind.i64.wrap (p2 - p1)) == 1) ((iter (fun z180 => Zb0 p0 p1 p4_0 z180.1 z180.2) big (p2, p3)).bind fun y181 => Zaz p0 p1 y181) (cond ((IntKind.i64.wrap (p3 - p2)) == 1) ((iter (fun z184 => Zb4 p0 p2 p4_0 z184.1 z184.2) big (p1, p2)).bind fun y185 => Zb3 p0 p2 y185) (cond (decide (p2 > (IntKind.i64.wrap (shrI .u64 (IntKind.u64.wrap (IntKind.i64.wrap (p1 + p3))) 1)))) (Zbc p0 p1 p2 p3 p4_0 self_ (IntKind.i64.wrap ((IntKind.i64.wrap ((IntKind.i64.wrap (shrI .u64 (IntKind.u64.wrap (IntKind.i64.wrap (p1 + p3))) 1)) + p2)) - p3)) (IntKind.i64.wrap (shrI .u64 (IntKind.u64.wrap (IntKind.i64.wrap (p1 + p3))) 1))) (Zbc p0 p1 p2 p3 p4_0 self_ p1 p2)))
theorem Zbe (self_ : (List Int) → Int → Int → Int → (List Int) → Option (List Int)) [hself_ : ∀ (p0 : List Int) (p1 : Int) (p2 : Int) (p3 : Int) (p4_0 : List Int), SpO Tryz.prog 393 (self_ p0 p1 p2 p3 p4_0) (.x fun (w00 : Value) => .x fun (b01 : Nat) => .d [cV w00, cI p1, cI p2, cI p3, C.clo 318 [pt b01]] [oA w00 3 kI64 1 p0, oB b01 39 [cM kI64 1 p4_0]] fun r => .d (C.tup []) [oA w00 3 kI64 1 r, oB b01 39 [cM kI64 1 p4_0]])] (p0 : List Int) (p1 : Int) (p2 : Int) (p3 : Int) (p4_0 : List Int) : SpO Tryz.prog 393 (Zbd self_ p0 p1 p2 p3 p4_0) (.x fun (w00 : Value) => .x fun (b01 : Nat) => .d [cV w00, cI p1, cI p2, cI p3, C.clo 318 [pt b01]] [oA w00 3 kI64 1 p0, oB b01 39 [cM kI64 1 p4_0]] fun r => .d (C.tup []) [oA w00 3 kI64 1 r, oB b01 39 [cM kI64 1 p4_0]]) := ⟨fun w00 b01 => so Tryz.func393 rfl rfl fun r X h => gh (.b (.q 2 (.c1 (fun x36 => .d [(10, cI x36)] []) [0,1] [0,1] (.l2 (fun x18 x19 => .d [(10, cI x18), (11, cI x19)] []) [0,1,4] [0,1] (.b (.r [0] [4,8] [] [0,4,8,12,17,20,24,28,33,38,40] .z) .z)) (.c1 (fun l61 => .d [] [oA w00 3 kI64 1 l61]) [] [1] (.l2 (fun l48 x49 => .d [(13, cI x49)] [oA w00 3 kI64 1 l48]) [0,10] [1] (.b (.r [0,0] [9,13] [15,17] [0,4,8,12,16,20,24,28,32,37,40,44,48,53,56,63,64,71] (.w 16 .z)) .z)) .z))) (.b (.q 2 (.c1 (fun x97 => .d [(14, cI x97)] []) [0,2] [0,1] (.l2 (fun x79 x80 => .d [(14, cI x79), (15, cI x80)] []) [0,2,4] [0,1] (.b (.r [0] [4,8] [] [0,4,8,12,17,20,24,28,33,38,40,44] .z) .z)) (.c1 (fun l122 => .d [] [oA w00 3 kI64 1 l122]) [] [1] (.l2 (fun l109 x110 => .d [(17, cI x110)] [oA w00 3 kI64 1 l109]) [0,14] [1] (.b (.r [0,0] [9,13] [15,17] [0,4,8,12,16,20,24,28,32,37,40,44,48,53,56,63,64,71] (.w 16 .z)) .z)) .z))) (.q 3 (.c2 (fun x124 x125 => .d [(20, cI x124), (21, cI x125)] []) [0,1,2,3,4,18,19] [0,1] .z (.q 1 (.c1 (fun x160 => .d [(20, cI x160)] []) [0,1,2,3,4,18,19] [0,1] (.l2 (fun x142 x143 => .d [(20, cI x142), (21, cI x143)] []) [0,1,2,3,4,18,19,22] [0,1] (.b (.r [0] [6,10] [] [0,4,8,12,16,20,25,28,32,36,41,46,48,52] .z) .z)) (.q 1 (.c1 (fun l166 => .d [] [oA w00 3 kI64 1 l166]) [0,1,3,4,18,20,24] [1] (.c1 (fun x162 => .d [(185, C.bool x162)] []) [0,1,2,3,4,18,20,24] [0,1] .z .z) (.c1 (fun l172 => .d [] [oA w00 3 kI64 1 l172]) [0,3,4,18,24] [1] (.c1 (fun x168 => .d [(199, C.bool x168)] []) [0,1,3,4,18,20,24] [0,1] .z .z) (.c1 (fun x174 => .d [(213, C.bool x174)] []) [0,3,4,18,24] [0,1] .z .z))))))))))⟩
def Zbf : Nat → (List Int) → Int → Int → Int → (List Int) → Option (List Int)
  | 0 => fun _ _ _ _ _ => none
  | n_ + 1 => Zbd (Zbf n_)
theorem Zbg : ∀ (n_ : Nat) (p0 : List Int) (p1 : Int) (p2 : Int) (p3 : Int) (p4_0 : List Int), SpO Tryz.prog 393 (Zbf n_ p0 p1 p2 p3 p4_0) (.x fun (w00 : Value) => .x fun (b01 : Nat) => .d [cV w00, cI p1, cI p2, cI p3, C.clo 318 [pt b01]] [oA w00 3 kI64 1 p0, oB b01 39 [cM kI64 1 p4_0]] fun r => .d (C.tup []) [oA w00 3 kI64 1 r, oB b01 39 [cM kI64 1 p4_0]])
  | 0, p0, p1, p2, p3, p4_0 => ⟨fun w00 b01 r h => nomatch h⟩
  | n_ + 1, p0, p1, p2, p3, p4_0 => @Zbe (Zbf n_) (Zbg n_) p0 p1 p2 p3 p4_0
def Zbh (p0 : List Int) (p1 : Int) (p2 : Int) (p3 : Int) (p4_0 : List Int) : Option (List Int) := Zbf big p0 p1 p2 p3 p4_0
instance Zbi (p0 : List Int) (p1 : Int) (p2 : Int) (p3 : Int) (p4_0 : List Int) : SpO Tryz.prog 393 (Zbh p0 p1 p2 p3 p4_0) (.x fun (w00 : Value) => .x fun (b01 : Nat) => .d [cV w00, cI p1, cI p2, cI p3, C.clo 318 [pt b01]] [oA w00 3 kI64 1 p0, oB b01 39 [cM kI64 1 p4_0]] fun r => .d (C.tup []) [oA w00 3 kI64 1 r, oB b01 39 [cM kI64 1 p4_0]]) := Zbg big p0 p1 p2 p3 p4_0

def Zbj (x31 : Int) (l47 : List Int) : Option ((List Int × Int) ⊕ ((List Int))) := some (.inl (l47, (IntKind.i64.wrap (x31 * 2))))
def Zbk (p1 : Int) (p2_0 : List Int) (x31 : Int) (l42 : List Int) (x43 : Int) : Option ((List Int × Int) ⊕ ((List Int))) := cond (decide ((IntKind.i64.wrap (x43 + x31)) < p1)) ((Zbh l42 x43 (IntKind.i64.wrap (x43 + x31)) p1 p2_0).bind fun r45 => Zbj x31 r45) (Zbj x31 l42)
def Zbl (p1 : Int) (p2_0 : List Int) (x31 : Int) (l36 : List Int) (x37 : Int) (x38 : Int) : Option ((List Int × Int × Int) ⊕ ((List Int × Int))) := cond (decide (x38 ≤ p1)) ((Zbh l36 x37 (IntKind.i64.wrap (x37 + x31)) x38 p2_0).bind fun r40 => some (.inl (r40, x38, (IntKind.i64.wrap (x38 + (IntKind.i64.wrap (2 * x31))))))) (some (.inr (l36, x37)))
def Zbm (p1 : Int) (p2_0 : List Int) (l30 : List Int) (x31 : Int) : Option ((List Int × Int) ⊕ ((List Int))) := cond (decide (x31 < p1)) ((iter (fun z48 => Zbl p1 p2_0 x31 z48.1 z48.2.1 z48.2.2) big (l30, 0, (IntKind.i64.wrap (2 * x31)))).bind fun (y49, y50) => Zbk p1 p2_0 x31 y49 y50) (some (.inr l30))
def Zbn (p1 : Int) (p2_0 : List Int) (l10 : List Int) (x11 : Int) : Option (List Int) := (Zao l10 x11 p1 p2_0).bind fun r12 => (iter (fun z51 => Zbm p1 p2_0 z51.1 z51.2) big (r12, 20)).bind fun y52 => some y52
def Zbo (p1 : Int) (p2_0 : List Int) (l4 : List Int) (x5 : Int) (x6 : Int) : Option ((List Int × Int × Int) ⊕ ((List Int × Int))) := cond (decide (x6 ≤ p1)) ((Zao l4 x5 x6 p2_0).bind fun r8 => some (.inl (r8, x6, (IntKind.i64.wrap (x6 + 20))))) (some (.inr (l4, x5)))
def Zbp (p0 : List Int) (p1 : Int) (p2_0 : List Int) : Option (List Int) := (iter (fun z53 => Zbo p1 p2_0 z53.1 z53.2.1 z53.2.2) big (p0, 0, 20)).bind fun (y54, y55) => Zbn p1 p2_0 y54 y55
instance Zbq (p0 : List Int) (p1 : Int) (p2_0 : List Int) : SpO Tryz.prog 365 (Zbp p0 p1 p2_0) (.x fun (w00 : Value) => .x fun (b01 : Nat) => .d [cV w00, cI p1, C.clo 318 [pt b01]] [oA w00 3 kI64 1 p0, oB b01 39 [cM kI64 1 p2_0]] fun r => .d (C.tup []) [oA w00 3 kI64 1 r, oB b01 39 [cM kI64 1 p2_0]]) := ⟨fun w00 b01 => so Tryz.func365 rfl rfl fun r X h => gh (.q 2 (.c2 (fun l10 x11 => .d [(7, cI x11)] [oA w00 3 kI64 1 l10]) [0,1,2,6] [1] (.l3 (fun l4 x5 x6 => .d [(7, cI x5), (8, cI x6)] [oA w00 3 kI64 1 l4]) [0,1,2,6] [1] .z) (.l2 (fun l30 x31 => .d [(6, cI x31)] [oA w00 3 kI64 1 l30]) [0,1,2] [1] (.b (.q 1 (.c2 (fun l42 x43 => .d [(7, cI x43)] [oA w00 3 kI64 1 l42]) [0,1,2,6] [1] (.l3 (fun l36 x37 x38 => .d [(7, cI x37), (8, cI x38)] [oA w00 3 kI64 1 l36]) [0,1,2,6] [1] .z) (.c1 (fun l47 => .d [] [oA w00 3 kI64 1 l47]) [0,1,2,6] [1] .z .z))) .z))))⟩

def Zbr (p0 : List Int) (p1_0 : List Int) : Option (List Int) := (Zbp p0 (p0.length : Int) p1_0).bind fun r1 => some r1
instance Zbs (p0 : List Int) (p1_0 : List Int) : SpO Tryz.prog 317 (Zbr p0 p1_0) (.x fun (w00 : Value) => .x fun (b01 : Nat) => .d [cV w00, C.clo 318 [pt b01]] [oA w00 3 kI64 1 p0, oB b01 39 [cM kI64 1 p1_0]] fun r => .d (C.tup []) [oA w00 3 kI64 1 r, oB b01 39 [cM kI64 1 p1_0]]) := ⟨fun w00 b01 => so Tryz.func317 rfl rfl fun r X h => gh .z⟩

def Zbt (l46 : List Int) : Option (List Int) := some l46
def Zbu (p0 : Y9y) (r21 : List Int) (l34 : List Int) (x35 : Int) : Option ((List Int × Int) ⊕ ((List Int))) := cond (decide (x35 < (r21.length : Int))) ((getI r21 x35).bind fun e37 => (getI p0.events e37).bind fun e39 => (chk (decide ((l34.length + [e39.id].length) * 8 ≤ 140737488355328))).bind fun u43 => some (.inl ((l34 ++ [e39.id]), (IntKind.i64.wrap (x35 + 1))))) (some (.inr l34))
def Zbv (p0 : Y9y) (r2 : List Int × Bool) (l20 : List Int) : Option (List Int) := (Zbr l20 r2.1).bind fun r21 => (iter (fun z48 => Zbu p0 r21 z48.1 z48.2) big (([] : List Int), 0)).bind fun y49 => Zbt y49
def Zbw (p0 : Y9y) (l12 : List Int) (x13 : Int) : Option ((List Int × Int) ⊕ ((List Int))) := cond (decide (x13 < (p0.events.length : Int))) ((chk (decide ((l12.length + [x13].length) * 8 ≤ 140737488355328))).bind fun u17 => some (.inl ((l12 ++ [x13]), (IntKind.i64.wrap (x13 + 1))))) (some (.inr l12))
def Zbx (p0 : Y9y) : Option (List Int) := (Z9w p0).bind fun r2 => (iter (fun z50 => Zbw p0 z50.1 z50.2) big (([] : List Int), 0)).bind fun y51 => Zbv p0 r2 y51
instance Zby (p0 : Y9y) : SpO Tryz.prog 234 (Zbx p0) (.d [C.agg [cI p0.room, cM Ya6 9 p0.events, cM Ya6 9 p0.parked]] [] fun r => .x fun (v47 : Value) => .d (cV v47) [oA v47 2 kI64 1 r]) := ⟨so Tryz.func234 rfl rfl fun r X h => gh (.q 3 (.c1 (fun l20 => .x fun v19 => .d [(5, cV v19)] [oA v19 3 kI64 1 l20]) [1,3] [2,1] (.l2 (fun l12 x13 => .x fun v11 => .d [(5, cV v11), (19, cI x13)] [oA v11 3 kI64 1 l12]) [1,3,18] [2,1] .z) (.q 2 (.c1 (fun l46 => .x fun v45 => .d [(7, cV v45)] [oA v45 2 kI64 1 l46]) [] [] (.l2 (fun l34 x35 => .x fun v33 => .d [(7, cV v33), (33, cI x35)] [oA v33 2 kI64 1 l34]) [1,31,32] [3,1] .z) .z))))⟩
instance Zby' (p0 : Y9y) : Sp Tryz.prog 234 [C.agg [cI p0.room, cM Ya6 9 p0.events, cM Ya6 9 p0.parked]] (Zbx p0) (fun r => cM kI64 1 r) := ⟨fun r h => Ok.freeze ((Zby p0).h r h) (by rintro c qs ⟨v47, rfl, rfl⟩; exact Frz.arr)⟩

def Zbz (p0 : Y9y) (p1 : Int) : Option (Y9v × Bool) := (Z9b p0.events p1).bind fun r3 => cond r3.2 ((getI p0.events r3.1).bind fun e6 => some (e6, true)) (some ((Y9v.mk 0 0 0 0 0 0 ByteArray.empty [] 0), false))
instance Zc0 (p0 : Y9y) (p1 : Int) : Sp Tryz.prog 142 [C.agg [cI p0.room, cM Ya6 9 p0.events, cM Ya6 9 p0.parked], cI p1] (Zbz p0 p1) (fun r => C.tup [C.agg [cI r.1.id, cI r.1.room, cI r.1.author, cI r.1.kind, cI r.1.key, cI r.1.n, C.str r.1.text, cM kI64 1 r.1.prev, cI r.1.time], C.bool r.2]) := Sp.of (so Tryz.func142 rfl rfl fun r X h => gh .z)

def Zc1 (l20 : List (List Ya0)) : Option (List (List Ya0)) := some l20
def Zc2 (p0 : Ya4) (p1 : List Int) (l10 : List (List Ya0)) (x11 : Int) : Option ((List (List Ya0) × Int) ⊕ ((List (List Ya0)))) := cond (decide (x11 < (p1.length : Int))) ((getI p1 x11).bind fun e13 => (chk (decide ((l10.length + [(Option.getD (mget p0.after e13) ([] : List Ya0))].length) * 24 ≤ 140737488355328))).bind fun u17 => some (.inl ((l10 ++ [(Option.getD (mget p0.after e13) ([] : List Ya0))]), (IntKind.i64.wrap (x11 + 1))))) (some (.inr l10))
def Zc3 (p0 : Ya4) (p1 : List Int) : Option (List (List Ya0)) := (iter (fun z22 => Zc2 p0 p1 z22.1 z22.2) big (([] : List (List Ya0)), 0)).bind fun y23 => Zc1 y23
instance Zc4 (p0 : Ya4) (p1 : List Int) : SpO Tryz.prog 255 (Zc3 p0 p1) (.x fun (b00 : Nat) => .x fun (b01 : Nat) => .x fun (b02 : Nat) => .x fun (b03 : Nat) => .x fun (b04 : Nat) => .d [pt b00, cM kI64 1 p1] [oB b00 140 [cI p0.graph.room, cM Ya6 9 p0.graph.events, cM Ya6 9 p0.graph.parked, mt b01, mt b02, mt b03, mt b04], Abs.Obj.map b01 .i64 Yak p0.depth, Abs.Obj.map b02 .i64 Yal p0.before, Abs.Obj.map b03 .i64 Yal p0.after, Abs.Obj.map b04 .i64 Yak p0.refused] fun r => .x fun (v21 : Value) => .d (cV v21) [oA v21 29 Yaf 1 r, oB b00 140 [cI p0.graph.room, cM Ya6 9 p0.graph.events, cM Ya6 9 p0.graph.parked, mt b01, mt b02, mt b03, mt b04], Abs.Obj.map b01 .i64 Yak p0.depth, Abs.Obj.map b02 .i64 Yal p0.before, Abs.Obj.map b03 .i64 Yal p0.after, Abs.Obj.map b04 .i64 Yak p0.refused]) := ⟨fun b00 b01 b02 b03 b04 => so Tryz.func255 rfl rfl fun r X h => gh (.q 2 (.c1 (fun l20 => .x fun v19 => .d [(5, cV v19)] [oA v19 29 Yaf 1 l20]) [] [1,2,3,4,5] (.l2 (fun l10 x11 => .x fun v9 => .d [(5, cV v9), (11, cI x11)] [oA v9 29 Yaf 1 l10]) [0,9,10] [1,2,3,4,5] .z) .z))⟩

def Zc5 : Option Int := some (-1)
def Zc6 (p0 : List Ya0) (p1 : Ya0) (x6 : Int) : Option (Int ⊕ (Int ⊕ Unit)) := cond (decide (x6 < (p0.length : Int))) ((getI p0 x6).bind fun e8 => cond ((p1.kind == e8.kind) && ((p1.key == e8.key) && ((p1.id == e8.id) && true))) (some (.inr (.inl x6))) (some (.inl (IntKind.i64.wrap (x6 + 1))))) (some (.inr (.inr ())))
def Zc7 (p0 : List Ya0) (p1 : Ya0) : Option Int := (iter (Zc6 p0 p1) big 0).bind (fun z12 => match z12 with | .inl y11 => some y11 | .inr () => Zc5)
instance Zc8 (p0 : List Ya0) (p1 : Ya0) : Sp Tryz.prog 320 [cM Yae 3 p0, C.agg [cI p1.kind, cI p1.key, cI p1.id]] (Zc7 p0 p1) (fun r => cI r) := Sp.of (so Tryz.func320 rfl rfl fun r X h => gh (.q 1 (.c0 (.d [] []) [] [] (.l1 (fun x6 => .d [(8, cI x6)] []) [0,3,7] [0] (.b (.r [0] [0,4] [] [1,4,8,12,17,20] .z) .z)) .z)))

def Zc9 (p0 : List Ya0) (p1 : Ya0) : Option Bool := (Zc7 p0 p1).bind fun r2 => some (decide (r2 ≥ 0))
instance Zca (p0 : List Ya0) (p1 : Ya0) : Sp Tryz.prog 237 [cM Yae 3 p0, C.agg [cI p1.kind, cI p1.key, cI p1.id]] (Zc9 p0 p1) (fun r => C.bool r) := Sp.of (so Tryz.func237 rfl rfl fun r X h => gh .z)

def Zcb (x6 : Bool) : Option Bool := some x6
def Zcc (p0 : Y9v) : Option Bool := cond (p0.kind == 1) (Zcb true) (cond (p0.kind == 3) (Zcb true) (cond (p0.kind == 5) (Zcb true) (cond (p0.kind == 2) (Zcb (p0.key != p0.author)) (Zcb false))))
instance Zcd (p0 : Y9v) : Sp Tryz.prog 240 [C.agg [cI p0.id, cI p0.room, cI p0.author, cI p0.kind, cI p0.key, cI p0.n, C.str p0.text, cM kI64 1 p0.prev, cI p0.time]] (Zcc p0) (fun r => C.bool r) := Sp.of (so Tryz.func240 rfl rfl fun r X h => gh (.q 1 (.c1 (fun x6 => .d [(2, C.bool x6)] []) [] [] .z .z)))

def Zce : Option Int := some 0
def Zcf (p0 : List Int) (x5 : Int) : Option (Int ⊕ (Int ⊕ Unit)) := cond (decide (x5 < (p0.length : Int))) ((getI p0 x5).bind fun e7 => cond (e7 != 0) (some (.inr (.inl e7))) (some (.inl (IntKind.i64.wrap (x5 + 1))))) (some (.inr (.inr ())))
def Zcg (p0 : List Int) : Option Int := (iter (Zcf p0) big 0).bind (fun z11 => match z11 with | .inl y10 => some y10 | .inr () => Zce)
instance Zch (p0 : List Int) : Sp Tryz.prog 241 [cM kI64 1 p0] (Zcg p0) (fun r => cI r) := Sp.of (so Tryz.func241 rfl rfl fun r X h => gh (.q 2 (.c0 (.d [] []) [3] [] (.l1 (fun x5 => .d [(8, cI x5)] []) [3,6,7] [] .z) .z)))

def Zci (p0 : Ya0) (p1 : Ya0) : Option Int := (Z92 p0.kind p1.kind).bind fun r3 => (Z92 p0.key p1.key).bind fun r5 => (Zcg [r3, r5]).bind fun r8 => some r8
instance Zcj (p0 : Ya0) (p1 : Ya0) : Sp Tryz.prog 343 [C.agg [cI p0.kind, cI p0.key, cI p0.id], C.agg [cI p1.kind, cI p1.key, cI p1.id]] (Zci p0 p1) (fun r => cI r) := Sp.of (so Tryz.func343 rfl rfl fun r X h => gh (.r [0,0] [1,3,6,8] [] [0,5,8,13,20,25,28,33,18,38,42,46,48] .z))

def Zck (x16 : Int) (x22 : Bool) : Option (Int × Bool) := some (x16, x22)
def Zcl (p0 : List Ya0) (p1 : Ya0) (x16 : Int) : Option (Int × Bool) := cond (decide (x16 < (p0.length : Int))) ((getI p0 x16).bind fun e18 => (Zci e18 p1).bind fun r20 => Zck x16 (r20 == 0)) (Zck x16 false)
def Zcm (p0 : List Ya0) (p1 : Ya0) (x8 : Int) (x9 : Int) : Option ((Int × Int) ⊕ (Int)) := cond (decide (x8 < x9)) ((getI p0 (IntKind.i64.wrap (shrI .u64 (IntKind.u64.wrap (IntKind.i64.wrap (x8 + x9))) 1))).bind fun e11 => (Zci e11 p1).bind fun r13 => cond (decide (r13 < 0)) (some (.inl ((IntKind.i64.wrap ((IntKind.i64.wrap (shrI .u64 (IntKind.u64.wrap (IntKind.i64.wrap (x8 + x9))) 1)) + 1)), x9))) (some (.inl (x8, (IntKind.i64.wrap (shrI .u64 (IntKind.u64.wrap (IntKind.i64.wrap (x8 + x9))) 1)))))) (some (.inr x8))
def Zcn (p0 : List Ya0) (p1 : Ya0) : Option (Int × Bool) := (iter (fun z23 => Zcm p0 p1 z23.1 z23.2) big (0, (p0.length : Int))).bind fun y24 => Zcl p0 p1 y24
instance Zco (p0 : List Ya0) (p1 : Ya0) : Sp Tryz.prog 344 [cM Yae 3 p0, C.agg [cI p1.kind, cI p1.key, cI p1.id], cV (.func (.func 343) #[] #[])] (Zcn p0 p1) (fun r => C.tup [cI r.1, C.bool r.2]) := Sp.of (so Tryz.func344 rfl rfl fun r X h => gh (.q 3 (.c1 (fun x16 => .d [(9, cI x16)] []) [0,2,4,8] [0] (.l2 (fun x8 x9 => .d [(9, cI x8), (10, cI x9)] []) [0,2,4,8] [0] (.b (.r [0] [4,5] [] [0,4,8,12,17,21,26,28] .z) .z)) (.e 9 cI fun x16 => .c1 (fun x22 => .d [(6, cI x16), (7, C.bool x22)] []) [] [] (.r [0] [9,10] [] [0,4,8,12,16,20,24,28,32,37,41,46,48,52,56,60] .z) .z))))

def Zcp (p0 : List Ya0) (p1 : Ya0) : Option (Int × Bool) := (Zcn p0 p1).bind fun r2 => some (r2.1, r2.2)
instance Zcq (p0 : List Ya0) (p1 : Ya0) : Sp Tryz.prog 260 [cM Yae 3 p0, C.agg [cI p1.kind, cI p1.key, cI p1.id]] (Zcp p0 p1) (fun r => C.tup [cI r.1, C.bool r.2]) := Sp.of (so Tryz.func260 rfl rfl fun r X h => gh .z)

def Zcr (p0 : List Ya0) (p1 : Int) (p2 : Int) : Option Int := (Zcp p0 (Ya0.mk p1 p2 0)).bind fun r1 => cond r1.2 ((getI p0 r1.1).bind fun e4 => some e4.id) (some 0)
instance Zcs (p0 : List Ya0) (p1 : Int) (p2 : Int) : Sp Tryz.prog 138 [cM Yae 3 p0, cI p1, cI p2] (Zcr p0 p1 p2) (fun r => cI r) := Sp.of (so Tryz.func138 rfl rfl fun r X h => gh .z)

def Zct (p0 : Y9y) (p1 : List Ya0) (p2 : Int) (p3 : Int) : Option (Y9v × Bool) := (Zcr p1 p2 p3).bind fun r3 => (Zbz p0 r3).bind fun r5 => some (r5.1, r5.2)
instance Zcu (p0 : Y9y) (p1 : List Ya0) (p2 : Int) (p3 : Int) : Sp Tryz.prog 261 [C.agg [cI p0.room, cM Ya6 9 p0.events, cM Ya6 9 p0.parked], cM Yae 3 p1, cI p2, cI p3] (Zct p0 p1 p2 p3) (fun r => C.tup [C.agg [cI r.1.id, cI r.1.room, cI r.1.author, cI r.1.kind, cI r.1.key, cI r.1.n, C.str r.1.text, cM kI64 1 r.1.prev, cI r.1.time], C.bool r.2]) := Sp.of (so Tryz.func261 rfl rfl fun r X h => gh (.r [0,0] [0] [8] [1,4,8,12,18,22,24,28,35,36] .z))

def Zcv (p0 : Y9y) (p1 : List Ya0) (p2 : Int) : Option Int := (Zct p0 p1 2 p2).bind fun r2 => some r2.1.n
instance Zcw (p0 : Y9y) (p1 : List Ya0) (p2 : Int) : Sp Tryz.prog 292 [C.agg [cI p0.room, cM Ya6 9 p0.events, cM Ya6 9 p0.parked], cM Yae 3 p1, cI p2] (Zcv p0 p1 p2) (fun r => cI r) := Sp.of (so Tryz.func292 rfl rfl fun r X h => gh .z)

def Zcx (x10 : Bool) : Option Int := cond x10 (some 100) (some 0)
def Zcy (p0 : Y9y) (p1 : List Ya0) (p2 : Int) : Option Int := (Zct p0 p1 3 p2).bind fun r2 => cond r2.2 (some r2.1.n) ((Zct p0 p1 1 0).bind fun r6 => cond r6.2 (Zcx (r6.1.author == p2)) (Zcx false))
instance Zcz (p0 : Y9y) (p1 : List Ya0) (p2 : Int) : Sp Tryz.prog 143 [C.agg [cI p0.room, cM Ya6 9 p0.events, cM Ya6 9 p0.parked], cM Yae 3 p1, cI p2] (Zcy p0 p1 p2) (fun r => cI r) := Sp.of (so Tryz.func143 rfl rfl fun r X h => gh (.b .z (.q 2 (.c1 (fun x10 => .d [(33, C.bool x10)] []) [] [] .z .z))))

def Zd0 (p0 : Bool) : Option Int := cond p0 (some 11) (some 0)
instance Zd1 (p0 : Bool) : Sp Tryz.prog 326 [C.bool p0] (Zd0 p0) (fun r => cI r) := Sp.of (so Tryz.func326 rfl rfl fun r X h => gh .z)

def Zd2 (x23 : Int) : Option Int := some x23
def Zd3 (p0 : Y9y) (p1 : List Ya0) (p2 : Y9v) (p3 : Int) (x4 : Bool) : Option Int := cond (p2.n == 1) ((Zct p0 p1 5 0).bind fun r6 => (Zct p0 p1 1 0).bind fun r9 => cond (p3 == 3) ((Zd0 true).bind fun r13 => Zd2 r13) (cond x4 ((Zd0 false).bind fun r16 => Zd2 r16) (cond (r6.1.n != 1) ((Zd0 (r9.1.author != p2.author)).bind fun r19 => Zd2 r19) ((Zd0 false).bind fun r21 => Zd2 r21)))) (cond (p2.n == 2) ((Zd0 (!x4)).bind fun r25 => some r25) (some 11))
def Zd4 (p0 : Y9y) (p1 : List Ya0) (p2 : Y9v) (p3 : Int) : Option Int := cond (p3 == 1) (Zd3 p0 p1 p2 p3 true) (Zd3 p0 p1 p2 p3 (p3 == 4))
instance Zd5 (p0 : Y9y) (p1 : List Ya0) (p2 : Y9v) (p3 : Int) : Sp Tryz.prog 324 [C.agg [cI p0.room, cM Ya6 9 p0.events, cM Ya6 9 p0.parked], cM Yae 3 p1, C.agg [cI p2.id, cI p2.room, cI p2.author, cI p2.kind, cI p2.key, cI p2.n, C.str p2.text, cM kI64 1 p2.prev, cI p2.time], cI p3] (Zd4 p0 p1 p2 p3) (fun r => cI r) := Sp.of (so Tryz.func324 rfl rfl fun r X h => gh (.q 1 (.c1 (fun x4 => .d [(9, C.bool x4)] []) [1,3,4,6] [1,0] .z (.b (.q 2 (.c1 (fun x23 => .d [(8, cI x23)] []) [] [] .z .z)) .z))))

def Zd6 (x15 : Int) : Option Int := some x15
def Zd7 (x25 : Int) : Option Int := some x25
def Zd8 (x32 : Int) : Option Int := some x32
def Zd9 (p2 : Y9v) (r3 : Int) (x8 : Bool) : Option Int := cond (p2.n == 4) (cond (r3 == 1) ((Zd0 true).bind fun r11 => Zd6 r11) ((Zd0 (r3 == 3)).bind fun r13 => Zd6 r13)) (cond (p2.n == 2) (cond x8 ((Zd0 true).bind fun r18 => Zd7 r18) (cond (r3 == 0) ((Zd0 true).bind fun r21 => Zd7 r21) ((Zd0 (r3 == 2)).bind fun r23 => Zd7 r23))) (cond (p2.n == 3) (cond x8 ((Zd0 true).bind fun r28 => Zd8 r28) ((Zd0 (r3 == 3)).bind fun r30 => Zd8 r30)) (some 11)))
def Zda (p0 : Y9y) (p1 : List Ya0) (p2 : Y9v) (p3 : Int) : Option Int := (Zcv p0 p1 p2.key).bind fun r3 => (Zcy p0 p1 p2.key).bind fun r5 => cond (decide (p3 < 50)) (Zd9 p2 r3 true) (Zd9 p2 r3 (decide (p3 ≤ r5)))
instance Zdb (p0 : Y9y) (p1 : List Ya0) (p2 : Y9v) (p3 : Int) : Sp Tryz.prog 325 [C.agg [cI p0.room, cM Ya6 9 p0.events, cM Ya6 9 p0.parked], cM Yae 3 p1, C.agg [cI p2.id, cI p2.room, cI p2.author, cI p2.kind, cI p2.key, cI p2.n, C.str p2.text, cM kI64 1 p2.prev, cI p2.time], cI p3] (Zda p0 p1 p2 p3) (fun r => cI r) := Sp.of (so Tryz.func325 rfl rfl fun r X h => gh (.r [0,0] [0,3,5,8] [] [1,4,8,13,21,24,28,33,18,38,40,44] (.c1 (fun x8 => .d [(11, C.bool x8)] []) [6,9] [0] .z (.b (.c1 (fun x15 => .d [(8, cI x15)] []) [] [] .z .z) (.b (.c1 (fun x25 => .d [(8, cI x25)] []) [] [] .z .z) (.b (.c1 (fun x32 => .d [(8, cI x32)] []) [] [] .z .z) .z))))))

def Zdc (x38 : Int) : Option Int := some x38
def Zdd (x55 : Int) : Option Int := some x55
def Zde (p0 : Y9y) (p2 : Y9v) (r8 : Int) (x41 : Bool) : Option Int := cond x41 ((Zd0 (decide (r8 < 50))).bind fun r43 => some r43) (cond (p2.kind == 8) ((Zbz p0 p2.key).bind fun r46 => cond r46.2 (cond (decide (r8 < 50)) ((Zd0 (r46.1.author != p2.author)).bind fun r51 => Zdd r51) ((Zd0 false).bind fun r53 => Zdd r53)) (some 6)) (some 0))
def Zdf (p0 : Y9y) (p1 : List Ya0) (p2 : Y9v) (r6 : Int) (r8 : Int) (x16 : Bool) : Option Int := cond x16 ((Zd4 p0 p1 p2 r6).bind fun r18 => some r18) (cond (r6 != 1) (some 11) (cond (p2.kind == 2) ((Zda p0 p1 p2 r8).bind fun r22 => some r22) (cond (p2.kind == 3) (cond (decide (r8 < 50)) ((Zd0 true).bind fun r26 => Zdc r26) (cond (decide (p2.n > r8)) ((Zd0 true).bind fun r29 => Zdc r29) (cond (p2.key != p2.author) ((Zcy p0 p1 p2.key).bind fun r32 => (Zd0 (decide (r32 ≥ r8))).bind fun r34 => Zdc r34) ((Zd0 false).bind fun r36 => Zdc r36)))) (cond (p2.kind == 4) (Zde p0 p2 r8 (p2.kind == 4)) (cond (p2.kind == 5) (Zde p0 p2 r8 (p2.kind == 5)) (Zde p0 p2 r8 (p2.kind == 6)))))))
def Zdg (p0 : Y9y) (p1 : List Ya0) (p2 : Y9v) (r3 : Y9v × Bool) (r6 : Int) (r8 : Int) (x11 : Bool) : Option Int := cond x11 (some 7) (cond (p2.kind == 1) (some 0) (cond r3.2 (cond (p2.kind == 2) (Zdf p0 p1 p2 r6 r8 (p2.key == p2.author)) (Zdf p0 p1 p2 r6 r8 false)) (some 10)))
def Zdh (p0 : Y9y) (p1 : List Ya0) (p2 : Y9v) : Option Int := (Zct p0 p1 1 0).bind fun r3 => (Zcv p0 p1 p2.author).bind fun r6 => (Zcy p0 p1 p2.author).bind fun r8 => cond (p2.kind == 1) (Zdg p0 p1 p2 r3 r6 r8 r3.2) (Zdg p0 p1 p2 r3 r6 r8 false)
instance Zdi (p0 : Y9y) (p1 : List Ya0) (p2 : Y9v) : Sp Tryz.prog 243 [C.agg [cI p0.room, cM Ya6 9 p0.events, cM Ya6 9 p0.parked], cM Yae 3 p1, C.agg [cI p2.id, cI p2.room, cI p2.author, cI p2.kind, cI p2.key, cI p2.n, C.str p2.text, cM kI64 1 p2.prev, cI p2.time]] (Zdh p0 p1 p2) (fun r => cI r) := Sp.of (so Tryz.func243 rfl rfl fun r X h => gh (.r [0,0,0] [0,3,5,8] [] [1,4,8,13,21,24,28,33,18,38,40,44] (.q 1 (.c1 (fun x11 => .d [(29, C.bool x11)] []) [1,3,5,8,9,10] [2,1] .z (.b .z (.b .z (.b (.c1 (fun x16 => .d [(43, C.bool x16)] []) [1,3,5,9,10] [0,1] .z (.b .z (.b .z (.b .z (.b (.c1 (fun x38 => .d [(6, cI x38)] []) [] [] .z .z) (.c1 (fun x41 => .d [(98, C.bool x41)] []) [3,5,10,63] [0,1] .z (.b .z (.b (.b (.c1 (fun x55 => .d [(6, cI x55)] []) [] [] .z .z) .z) .z)))))))) .z)))))))

def Zdj (p0 : List Ya0) : Option (List Ya0) := (chk (decide (p0.length * 24 ≤ 140737488355328))).bind fun _ => some p0
theorem Zdk (p0 : List Ya0) (r : List Ya0) (h : Zdj p0 = some r) : Ok Tryz.prog 123 [cM Yae 3 p0] [] (fun c qs => ∃ (v : Value), c = cV v ∧ qs = [oA v 136 Yae 3 r]) := by
 refine ob' h fun u hc h => ?_
 obtain rfl := Wj h
 have hc := Wo (Y45 hc)
 refine Ok.of_body (rs := [.tmp 2]) Tryz.func123 rfl rfl rfl rfl rfl fun X => ?_
 refine zw ?_
 refine Ops.h (ns := []) rfl rfl (Y60 Ycp.h rfl rfl) ?_
 rintro _ _ ⟨b, hb, rfl, rfl⟩
 refine zw ?_
 refine tf' b (fun hq => ?_) (fun hq => ?_)
 ·
  refine AW.cond rfl (fun _ => ?_) (fun hn => absurd (hq.symm.trans hn) (by decide))
  refine zw ?_
  refine AW.ret ?_
  obtain rfl := hb hq
  exact finI ⟨[cV s0], _, Y25.nil 136 Yae 3, .cons (.tmp rfl) .nil, [0], _, _, rfl, ⟨_, rfl, rfl⟩⟩
 refine AW.cond rfl (fun hn => absurd (hq.symm.trans hn) (by decide)) (fun _ => ?_)
 refine zw ?_
 refine Ops.h (ns := []) rfl rfl (Y3l (k := Yae) (ys := ([] : List Ya0)) Ycv .nil rfl rfl rfl) ?_
 rintro _ _ ⟨b1, rfl, rfl⟩
 refine zw ?_
 refine Ops.h (ns := [0]) rfl rfl (Y33 Ycv rfl rfl (by simpa using hc) (by simp; omega) rfl) ?_
 rintro _ _ ⟨v, rfl, rfl⟩
 refine zw ?_
 refine AW.ret ?_
 exact finI ⟨[cV v], _, Y25.refl _, .cons (.tmp rfl) .nil, [0], _, _, rfl, ⟨v, rfl, rfl⟩⟩
instance Zdk' (p0 : List Ya0) : Sp Tryz.prog 123 [cM Yae 3 p0] (Zdj p0) (fun r => cM Yae 3 r) := ⟨fun r h => Ok.freeze (Zdk p0 r h) (by rintro c qs ⟨v, rfl, rfl⟩; exact Frz.arr)⟩
instance Zdl (p0 : List Ya0) : SpO Tryz.prog 123 (Zdj p0) (.d [cM Yae 3 p0] [] fun r => .x fun (v : Value) => .d (cV v) [oA v 136 Yae 3 r]) := ⟨fun r h => Zdk p0 r h⟩

def Zdm (p0 : List Ya0) (p1 : Int) (p2 : Int) : Option (List Ya0) := delI p0 p1 p2
theorem Zdn {w1 : Value} (p0 : List Ya0) (p1 : Int) (p2 : Int) (r : List Ya0) (h : Zdm p0 p1 p2 = some r) : Ok Tryz.prog 327 [cV w1, cI p1, cI p2] [oA w1 136 Yae 3 p0] (fun c qs => ∃ (v : Value), c = cV v ∧ qs = [oA v 136 Yae 3 r]) := by
 obtain ⟨a, b, rfl, rfl, hij, hj, rfl⟩ := Y7w h
 refine Ok.of_body (rs := [.tmp 6]) Tryz.func327 rfl rfl rfl rfl rfl fun X => ?_
 refine AW.learn (Sim.arr_cap (p := 0) rfl) fun hw => ?_
 obtain ⟨A, cap, rfl, hc, _, _⟩ := hw
 refine zw ?_
 refine Ops.v rfl (Y7x (p := 0) Ycp.h rfl rfl rfl rfl rfl hij hj rfl) ?_
 refine zw ?_
 refine tf' (((a : Nat) : Int) == ((b : Nat) : Int)) (fun hq => ?_) (fun hq => ?_)
 ·
  refine AW.cond rfl (fun _ => ?_) (fun hn => absurd (hq.symm.trans hn) (by decide))
  refine zw ?_
  refine AW.ret ?_
  obtain rfl : a = b := by have := eq_of_beq hq; omega
  rw [List.take_append_drop]
  exact finI ⟨[cV (.slice A p0.length cap)], _, Y25.refl _, .cons (.tmp rfl) .nil, [0], _, _, rfl, ⟨_, rfl, rfl⟩⟩
 refine AW.cond rfl (fun hn => absurd (hq.symm.trans hn) (by decide)) (fun _ => ?_)
 refine zw ?_
 refine rD [] [] [] [0,4,8,12,16,20,26,28] ?_
 refine zw ?_
 refine OpsD.v rfl rfl (Y81 Ycp.h rfl rfl (by omega) hc rfl) ?_
 refine zw ?_
 refine OpsD.v rfl rfl (Y80 Ycp.h rfl rfl hj hc rfl) ?_
 refine OpsD.one ?_
 refine Y3z.h (ns := [0]) rfl rfl rfl (Y7y (v := .slice A p0.length cap) Ycv rfl rfl hij hj rfl) ?_
 rintro _ _ ⟨rfl, rfl⟩
 refine zw ?_
 refine Ops.v rfl (Y2j Ycp.h rfl rfl) ?_
 refine zw ?_
 refine Ops.v rfl (Y7z (p := 0) (h := p0.length) (v := .slice A p0.length cap) (l := a + (p0.length - b)) Ycp.h rfl rfl rfl rfl (by omega) (by simp; omega) rfl) ?_
 refine Ops.h (ns := [0]) rfl rfl (Y7t (v := .slice A p0.length cap) (l := a + (p0.length - b)) (z := (Ya0.mk 0 0 0)) Ycv Yd2 (Y4e rfl rfl) rfl (by simp <;> omega)) ?_
 rintro _ _ ⟨rfl, rfl⟩
 refine zw ?_
 refine AW.ret ?_
 exact finI ⟨[cV (Y7j (.slice A p0.length cap) (a + (p0.length - b)))], _, Y25.prefix (p := 0) (h := a + (p0.length - b)) rfl (by simp; omega), .cons (.tmp rfl) .nil, [0], _, _, rfl, ⟨_, rfl, by rw [Y82 hij hj]⟩⟩
instance Zdo (p0 : List Ya0) (p1 : Int) (p2 : Int) : SpO Tryz.prog 327 (Zdm p0 p1 p2) (.x fun (w1 : Value) => .d [cV w1, cI p1, cI p2] [oA w1 136 Yae 3 p0] fun r => .x fun (v : Value) => .d (cV v) [oA v 136 Yae 3 r]) := ⟨fun w1 r h => Zdn p0 p1 p2 r h⟩

def Zdp (p0 : List Ya0) (p1 : Int) (p2 : List Ya0) : Option (List Ya0) := insI 24 p0 p1 p2
theorem Zdq {w1 w2 : Value} (p0 : List Ya0) (p1 : Int) (p2 : List Ya0) (r : List Ya0) (h : Zdp p0 p1 p2 = some r) : Ok Tryz.prog 328 [cV w1, cI p1, cV w2] [oA w1 136 Yae 3 p0, oA w2 136 Yae 3 p2] (fun c qs => ∃ (v : Value), c = cV v ∧ qs = [oA v 136 Yae 3 r]) := by
 obtain ⟨i, rfl, hi, hm, hb, rfl⟩ := Y5h h
 refine Ok.of_body (rs := [.tmp 6]) Tryz.func328 rfl rfl rfl rfl rfl fun X => ?_
 refine AW.learn (Sim.arr_cap (p := 0) rfl) fun hw => ?_
 obtain ⟨A, cap, rfl, hc, hmax, hA⟩ := hw
 have hmax0 := hmax
 simp only [maxLen] at hmax
 refine zw ?_
 refine Ops.v rfl (Y5f Ycp.h rfl rfl hi hc rfl) ?_
 refine zw ?_
 refine AW.cond rfl (fun hn => absurd ((beq_false_of_ne (by omega)).symm.trans hn) (by decide)) (fun _ => ?_)
 refine zw ?_
 refine tf' (((i : Nat) : Int) == (p0.length : Int)) (fun hq => ?_) (fun hq => ?_)
 ·
  refine AW.cond rfl (fun _ => ?_) (fun hn => absurd (hq.symm.trans hn) (by decide))
  refine zw ?_
  refine Ops.h (ns := [0, 0]) rfl rfl (Y34 Ycv rfl rfl hb (by omega) rfl) ?_
  rintro _ _ ⟨v, rfl, rfl⟩
  refine zw ?_
  refine AW.ret ?_
  obtain rfl : i = p0.length := by have := eq_of_beq hq; omega
  rw [List.take_of_length_le (Nat.le_refl _), List.drop_of_length_le (Nat.le_refl _), List.append_nil]
  exact finI ⟨[cV v], _, Y25.refl _, .cons (.tmp rfl) .nil, [0], _, _, rfl, ⟨v, rfl, rfl⟩⟩
 have hlt : i < p0.length := by have := ne_of_beq_false hq; omega
 obtain ⟨b, rfl⟩ := hA.resolve_left (fun e => by rw [e.1] at hlt; exact absurd hlt (Nat.not_lt_zero _))
 refine AW.ghost (Y25.raw (p := 0) rfl) ?_
 rw [← Y5e b 3 p0.length cap]
 refine AW.cond rfl (fun hn => absurd (hq.symm.trans hn) (by decide)) (fun _ => ?_)
 refine AW.skip ?_
 refine AW.seq ?_
 refine AW.seq ?_
 refine AW.region ?_
 refine Ops.v rfl (Yr rfl rfl) ?_
 refine Ops.v rfl (Yr rfl rfl) ?_
 refine Ops.v rfl (Yx (r := .int .i64 ((p0.length + p2.length : Nat) : Int)) rfl rfl (Y5m (by omega) (by omega)) rfl) ?_
 refine zw ?_
 refine Ops.v rfl (Y55 Ycp.h rfl rfl) ?_
 refine zw ?_
 refine tf' (decide (((p0.length + p2.length : Nat) : Int) > (cap : Int))) (fun hg => ?_) (fun hg => ?_)
 ·
  have hg1 := Wo hg
  refine AW.cond rfl (fun _ => ?_) (fun hn => absurd (hg.symm.trans hn) (by decide))
  refine zw ?_
  refine Ops.v rfl (Y54 Ycp.h rfl rfl (by omega) (by omega) rfl) ?_
  refine Ops.v rfl (Yr rfl rfl) ?_
  refine Ops.v rfl (Yr rfl rfl) ?_
  refine Ops.v rfl (Yx (r := .int .i64 ((p0.length + p2.length : Nat) : Int)) rfl rfl (Y5m (by omega) (by omega)) rfl) ?_
  refine Ops.v rfl (Yr rfl rfl) ?_
  refine Ops.v rfl (Yx (r := .int .i64 ((p0.length + p2.length - i : Nat) : Int)) rfl rfl (Y5n (by omega) (by omega)) rfl) ?_
  refine Ops.h (ns := [0]) rfl rfl (Y5l (N := p0.length + p2.length) (k := Yae) (z0 := (Ya0.mk 0 0 0)) Ycv un_3 Yd2 (Y4e rfl rfl) rfl rfl (xs := p0.take i) (by rw [List.drop_zero, List.take_append_of_le_length (by simp; omega), List.map_take]) (by simp; omega) (by omega) (by omega) (by omega) hb (by decide) rfl) ?_
  rintro _ _ ⟨b2, c2, hc2, hm2, rfl, rfl⟩
  refine zw ?_
  refine Ops.v rfl (Y5k (o' := i) (l' := p0.length + p2.length - i) (c' := c2 - i) Ycp.h rfl rfl (by omega) (by omega) (by omega) (by omega) (by omega) (by omega) rfl) ?_
  refine zw ?_
  refine Ops.h (ns := [0, 1]) rfl rfl (Y59 (xs := p2) Ycp.h rfl rfl (by rw [List.take_of_length_le (by omega)]) (by simp; omega) rfl) ?_
  rintro _ _ ⟨rfl, rfl⟩
  refine zw ?_
  refine rD [] [] [] [0,4,8,12,16,20,24,28,34] ?_
  refine OpsD.v rfl rfl (Yr rfl rfl) ?_
  refine OpsD.v rfl rfl (Yr rfl rfl) ?_
  refine OpsD.v rfl rfl (Yr rfl rfl) ?_
  refine OpsD.v rfl rfl (Yx (r := .int .i64 ((i + p2.length : Nat) : Int)) rfl rfl (Y5m (by omega) (by omega)) rfl) ?_
  refine OpsD.v rfl rfl (Y5k (o' := i + p2.length) (l' := p0.length - i) (c' := c2 - (i + p2.length)) Ycp.h rfl rfl (by omega) (by omega) (by omega) (by omega) (by omega) (by omega) rfl) ?_
  refine zw ?_
  refine OpsD.v rfl rfl (Y5k (o' := i) (l' := p0.length - i) (c' := cap - i) Ycp.h rfl rfl (by omega) (by omega) (by omega) (by omega) (by omega) (by omega) rfl) ?_
  refine OpsD.one ?_
  refine Y3z.h (ns := [0, 1]) rfl rfl rfl (Y5g (xs := p0.drop i) Ycp.h rfl rfl (by rw [Y5o, List.drop_append_of_le_length (by simp; omega), List.take_append_of_le_length (by simp), List.take_of_length_le (by simp), List.map_drop]) (by rw [Y5o]; simp) (by simp; omega) rfl) ?_
  rintro _ _ ⟨rfl, rfl⟩
  refine zw ?_
  refine AW.ret ?_
  obtain ⟨q1, q2, q3, q4⟩ := Y5j (xs := p0) (ys := p2) (z := (Ya0.mk 0 0 0)) (m := p2.length) hlt hc2 rfl _ _ rfl rfl
  exact finI ⟨[cV _], _, Y25.arr2 (p := 0) (m := p0.length + p2.length) rfl q1 (by omega) q2 (by omega) (Y5e _ _ _ _), .cons (.tmp rfl) .nil, [0], _, _, rfl, ⟨_, rfl, rfl⟩⟩
 have hg1 := of_decide_eq_false hg
 refine AW.cond rfl (fun hn => absurd (hg.symm.trans hn) (by decide)) (fun _ => ?_)
 refine AW.skip ?_
 refine AW.seq ?_
 refine AW.region ?_
 refine Ops.v rfl (Yr rfl rfl) ?_
 refine Ops.v rfl (Yr rfl rfl) ?_
 refine Ops.v rfl (Yr rfl rfl) ?_
 refine Ops.v rfl (Yx (r := .int .i64 ((p0.length + p2.length : Nat) : Int)) rfl rfl (Y5m (by omega) (by omega)) rfl) ?_
 refine Ops.v rfl (Y54 Ycp.h rfl rfl (by omega) (by omega) rfl) ?_
 refine Ops.v rfl (Ys rfl rfl) ?_
 refine Ops.nil ?_
 refine AW.seq ?_
 refine AW.seq ?_
 refine AW.region ?_
 refine Ops.v rfl (Yr rfl rfl) ?_
 refine Ops.v rfl (Yr rfl rfl) ?_
 refine Ops.v rfl (Yr rfl rfl) ?_
 refine Ops.v rfl (Yr rfl rfl) ?_
 refine Ops.v rfl (Yx (r := .int .i64 ((i + p2.length : Nat) : Int)) rfl rfl (Y5m (by omega) (by omega)) rfl) ?_
 refine Ops.v rfl (Y5k (o' := i + p2.length) (l' := p0.length - i) (c' := cap - (i + p2.length)) Ycp.h rfl rfl (by omega) (by omega) (by omega) (by omega) (by omega) (by omega) rfl) ?_
 refine Ops.h (ns := [0, 0]) rfl rfl (Y5a (tR := 4) (k := Yae) (zs := p2) (ys := p0.map some ++ List.replicate (cap - p0.length) none) Ycv Tryz.func376 rfl rfl (by kernel_rfl) (by kernel_rfl) rfl rfl (by intro e; rw [e] at hm; exact absurd hm (by decide)) (by intro e; have := congrArg List.length e; simp at this; omega) rfl) ?_
 rintro _ _ ⟨rfl, rfl⟩
 refine zw ?_
 refine AW.cond rfl (fun _ => ?_) (fun hn => absurd hn (by decide))
 refine zw ?_
 refine rD [] [] [] [0,4,8,12,16,20,24,28,34] ?_
 refine OpsD.v rfl rfl (Yr rfl rfl) ?_
 refine OpsD.v rfl rfl (Yr rfl rfl) ?_
 refine OpsD.v rfl rfl (Yr rfl rfl) ?_
 refine OpsD.v rfl rfl (Yx (r := .int .i64 ((i + p2.length : Nat) : Int)) rfl rfl (Y5m (by omega) (by omega)) rfl) ?_
 refine OpsD.v rfl rfl (Y5k (o' := i + p2.length) (l' := p0.length - i) (c' := cap - (i + p2.length)) Ycp.h rfl rfl (by omega) (by omega) (by omega) (by omega) (by omega) (by omega) rfl) ?_
 refine zw ?_
 refine OpsD.v rfl rfl (Y5k (o' := i) (l' := p0.length + p2.length - i) (c' := cap - i) Ycp.h rfl rfl (by omega) (by omega) (by omega) (by omega) (by omega) (by omega) rfl) ?_
 refine OpsD.one ?_
 refine Y3z.h (ns := [0]) rfl rfl rfl (Y58 (xs := p0.drop i) Ycp.h rfl rfl (by rw [Y5p (by omega), List.drop_append_of_le_length (by simp; omega), List.take_append_of_le_length (by simp), List.take_of_length_le (by simp), List.map_drop]) (by rw [Y5p (by omega)]; simp) (by simp; omega) rfl) ?_
 rintro _ _ ⟨rfl, rfl⟩
 refine zw ?_
 refine Ops.v rfl (Y5k (o' := i) (l' := p0.length + p2.length - i) (c' := cap - i) Ycp.h rfl rfl (by omega) (by omega) (by omega) (by omega) (by omega) (by omega) rfl) ?_
 refine zw ?_
 refine Ops.h (ns := [0, 0]) rfl rfl (Y59 (xs := p2) Ycp.h rfl rfl (by rw [List.take_of_length_le (by omega)]) (by simp; omega) rfl) ?_
 rintro _ _ ⟨rfl, rfl⟩
 refine zw ?_
 refine AW.ret ?_
 obtain ⟨q1, q2, q3, q4⟩ := Y5i (xs := p0) (ys := p2) (m := p2.length) (c := cap) hlt (by omega) rfl _ _ rfl rfl
 exact finI ⟨[cV _], _, Y25.arr2 (p := 0) (m := p0.length + p2.length) (c := cap) rfl q1 (by omega) q2 hmax0 (Y5e _ _ _ _), .cons (.tmp rfl) .nil, [0], _, _, rfl, ⟨_, rfl, rfl⟩⟩
instance Zdr (p0 : List Ya0) (p1 : Int) (p2 : List Ya0) : SpO Tryz.prog 328 (Zdp p0 p1 p2) (.x fun (w1 : Value) => .x fun (w2 : Value) => .d [cV w1, cI p1, cV w2] [oA w1 136 Yae 3 p0, oA w2 136 Yae 3 p2] fun r => .x fun (v : Value) => .d (cV v) [oA v 136 Yae 3 r]) := ⟨fun w1 w2 r h => Zdq p0 p1 p2 r h⟩

def Zds (p1 : Ya0) (r2 : List Ya0) (r5 : Int × Bool) (x8 : Bool) : Option (List Ya0) := cond x8 ((Zdm r2 r5.1 (IntKind.i64.wrap (r5.1 + 1))).bind fun r10 => some r10) (cond (p1.id == 0) (some r2) (cond r5.2 ((getI r2 r5.1).bind fun e15 => some (List.set r2 (Int.toNat r5.1) p1)) ((Zdp r2 r5.1 [p1]).bind fun r18 => some r18)))
def Zdt (p0 : List Ya0) (p1 : Ya0) : Option (List Ya0) := (Zdj p0).bind fun r2 => (Zcp r2 p1).bind fun r5 => cond (p1.id == 0) (Zds p1 r2 r5 r5.2) (Zds p1 r2 r5 false)
instance Zdu (p0 : List Ya0) (p1 : Ya0) : SpO Tryz.prog 244 (Zdt p0 p1) (.d [cM Yae 3 p0, C.agg [cI p1.kind, cI p1.key, cI p1.id]] [] fun r => .x fun (v21 : Value) => .d (cV v21) [oA v21 136 Yae 3 r]) := ⟨so Tryz.func244 rfl rfl fun r X h => gh (.k (.q 2 (.c1 (fun x8 => .d [(16, C.bool x8)] []) [3,5,6,7] [1,0] .z (.b (.k .z) (.b .z (.b .z (.k .z)))))))⟩
instance Zdu' (p0 : List Ya0) (p1 : Ya0) : Sp Tryz.prog 244 [cM Yae 3 p0, C.agg [cI p1.kind, cI p1.key, cI p1.id]] (Zdt p0 p1) (fun r => cM Yae 3 r) := ⟨fun r h => Ok.freeze ((Zdu p0 p1).h r h) (by rintro c qs ⟨v21, rfl, rfl⟩; exact Frz.arr)⟩

def Zdv (p0 : List Ya0) (q0 : Ya0) : Option Bool := (Zc9 p0 q0).bind fun r1 => some (!r1)
instance Zdw (p0 : List Ya0) (q0 : Ya0) : SpO Tryz.prog 236 (Zdv p0 q0) (.x fun (b00 : Nat) => .d [cM Yae 3 p0, pt b00] [oB b00 136 [cI q0.kind, cI q0.key, cI q0.id]] fun r => .d (C.bool r) [oB b00 136 [cI q0.kind, cI q0.key, cI q0.id]]) := ⟨fun b00 => so Tryz.func236 rfl rfl fun r X h => gh .z⟩

def Zdx : Option Int := some (-1)
def Zdy (p0 : List (List Ya0)) (p1_0 : Ya0) (x7 : Int) : Option (Int ⊕ (Int ⊕ Unit)) := cond (decide (x7 < (p0.length : Int))) ((getI p0 x7).bind fun e9 => (Zdv e9 p1_0).bind fun r11 => cond r11 (some (.inr (.inl x7))) (some (.inl (IntKind.i64.wrap (x7 + 1))))) (some (.inr (.inr ())))
def Zdz (p0 : List (List Ya0)) (p1_0 : Ya0) : Option Int := (iter (Zdy p0 p1_0) big 0).bind (fun z15 => match z15 with | .inl y14 => some y14 | .inr () => Zdx)
instance Ze0 (p0 : List (List Ya0)) (p1_0 : Ya0) : SpO Tryz.prog 231 (Zdz p0 p1_0) (.x fun (b00 : Nat) => .d [cM Yaf 1 p0, C.clo 236 [pt b00]] [oB b00 136 [cI p1_0.kind, cI p1_0.key, cI p1_0.id]] fun r => .d (cI r) [oB b00 136 [cI p1_0.kind, cI p1_0.key, cI p1_0.id]]) := ⟨fun b00 => so Tryz.func231 rfl rfl fun r X h => gh (.q 1 (.c0 (.d [] []) [] [0] (.l1 (fun x7 => .d [(8, cI x7)] []) [0,1,7] [0] .z) .z))⟩

def Ze1 (p0 : List (List Ya0)) (p1_0 : Ya0) : Option Bool := (Zdz p0 p1_0).bind fun r1 => some (decide (r1 ≥ 0))
instance Ze2 (p0 : List (List Ya0)) (p1_0 : Ya0) : SpO Tryz.prog 116 (Ze1 p0 p1_0) (.x fun (b00 : Nat) => .d [cM Yaf 1 p0, C.clo 236 [pt b00]] [oB b00 136 [cI p1_0.kind, cI p1_0.key, cI p1_0.id]] fun r => .d (C.bool r) [oB b00 136 [cI p1_0.kind, cI p1_0.key, cI p1_0.id]]) := ⟨fun b00 => so Tryz.func116 rfl rfl fun r X h => gh .z⟩

def Ze3 (p0 : Y9v) (p1 : Y9v) (q0 : Ya4) : Option Int := (Zcc p0).bind fun r3 => (Zcc p1).bind fun r5 => cond (r3 == r5) ((Z92 (Option.getD (mget q0.depth p0.id) 0) (Option.getD (mget q0.depth p1.id) 0)).bind fun r11 => (Z92 p0.time p1.time).bind fun r13 => (Z92 p0.id p1.id).bind fun r15 => (Zcg [r11, r13, r15]).bind fun r18 => some r18) ((Zcc p0).bind fun r8 => cond r8 (some (-1)) (some 1))
instance Ze4 (p0 : Y9v) (p1 : Y9v) (q0 : Ya4) : Sp Tryz.prog 239 [C.agg [cI p0.id, cI p0.room, cI p0.author, cI p0.kind, cI p0.key, cI p0.n, C.str p0.text, cM kI64 1 p0.prev, cI p0.time], C.agg [cI p1.id, cI p1.room, cI p1.author, cI p1.kind, cI p1.key, cI p1.n, C.str p1.text, cM kI64 1 p1.prev, cI p1.time], C.ip [C.ip [cI q0.graph.room, cM Ya6 9 q0.graph.events, cM Ya6 9 q0.graph.parked, C.imap .i64 Yak q0.depth, C.imap .i64 Yal q0.before, C.imap .i64 Yal q0.after, C.imap .i64 Yak q0.refused]]] (Ze3 p0 p1 q0) (fun r => cI r) := Sp.of (so Tryz.func239 rfl rfl fun r X h => gh (.r [0,0] [0,2] [] [1,9,6,14,16] (.b (.r [0,0] [0,3,5,6,7,10,12,13,16,18,21,23] [] [1,4,8,13,16,21,25,29,32,36,41,44,49,53,60,65,68,73,80,85,88,93,58,78,98,102,106,108] .z) .z)))

def Ze5 (l205 : List Ya0) : Option (List Ya0) := some l205
def Ze6 (x194 : Int) (l204 : List Ya0) : Option ((List Ya0 × Int) ⊕ ((List Ya0))) := some (.inl (l204, (IntKind.i64.wrap (x194 + 1))))
def Ze7 (p0 : Ya4) (r176 : List Y9v) (l193 : List Ya0) (x194 : Int) : Option ((List Ya0 × Int) ⊕ ((List Ya0))) := cond (decide (x194 < (r176.length : Int))) ((getI r176 x194).bind fun e196 => (Zdh p0.graph l193 e196).bind fun r199 => cond (r199 == 0) ((Zdt l193 (Ya0.mk e196.kind e196.key e196.id)).bind fun r202 => Ze6 x194 r202) (Ze6 x194 l193)) (some (.inr l193))
def Ze8 (p0 : Ya4) (l37 : List Ya0) (l175 : List Y9v) : Option (List Ya0) := (Y8c (fun z1 z2 => Ze3 z1 z2 p0) l175).bind fun r176 => (iter (fun z206 => Ze7 p0 r176 z206.1 z206.2) big (l37, 0)).bind fun y207 => Ze5 y207
def Ze9 (x113 : Int) (l172 : List Y9v) (m173 : List (Int × Bool)) : Option ((List Y9v × (List (Int × Bool)) × Int) ⊕ ((List Y9v))) := some (.inl (l172, m173, (IntKind.i64.wrap (x113 + 1))))
def Zea (x145 : Int) (l169 : List Y9v) (m170 : List (Int × Bool)) : Option ((List Y9v × (List (Int × Bool)) × Int) ⊕ ((List Y9v × (List (Int × Bool))))) := some (.inl (l169, m170, (IntKind.i64.wrap (x145 + 1))))
def Zeb (l143 : List Y9v) (m144 : List (Int × Bool)) (x145 : Int) (e147 : Ya0) (x155 : Int) (x156 : Int) (x157 : Int) (x158 : Int) (x159 : Int) (x160 : Int) (x161 : ByteArray) (l162 : List Int) (x163 : Int) : Option ((List Y9v × (List (Int × Bool)) × Int) ⊕ ((List Y9v × (List (Int × Bool))))) := (chk (decide ((l143.length + [(Y9v.mk x155 x156 x157 x158 x159 x160 x161 l162 x163)].length) * 96 ≤ 140737488355328))).bind fun u166 => Zea x145 (l143 ++ [(Y9v.mk x155 x156 x157 x158 x159 x160 x161 l162 x163)]) (mset m144 e147.id true)
def Zec (p0 : Ya4) (e115 : List Ya0) (l143 : List Y9v) (m144 : List (Int × Bool)) (x145 : Int) : Option ((List Y9v × (List (Int × Bool)) × Int) ⊕ ((List Y9v × (List (Int × Bool))))) := cond (decide (x145 < (e115.length : Int))) ((getI e115 x145).bind fun e147 => cond (Option.getD (mget m144 e147.id) false) (Zea x145 l143 m144) ((Zbz p0.graph e147.id).bind fun r151 => Zeb l143 m144 x145 e147 r151.1.id r151.1.room r151.1.author r151.1.kind r151.1.key r151.1.n r151.1.text r151.1.prev r151.1.time)) (some (.inr (l143, m144)))
def Zed (p0 : Ya4) (p1 : List (List Ya0)) (l111 : List Y9v) (m112 : List (Int × Bool)) (x113 : Int) : Option ((List Y9v × (List (Int × Bool)) × Int) ⊕ ((List Y9v))) := cond (decide (x113 < (p1.length : Int))) ((getI p1 x113).bind fun e115 => (iter (fun z208 => Zec p0 e115 z208.1 z208.2.1 z208.2.2) big (l111, m112, 0)).bind fun (y209, y210) => Ze9 x113 y209 y210) (some (.inr l111))
def Zee (p0 : Ya4) (p1 : List (List Ya0)) (l37 : List Ya0) (m49 : List (Int × Bool)) : Option (List Ya0) := (iter (fun z211 => Zed p0 p1 z211.1 z211.2.1 z211.2.2) big (([] : List Y9v), m49, 0)).bind fun y212 => Ze8 p0 l37 y212
def Zef (l37 : List Ya0) (m43 : List (Int × Bool)) (x44 : Int) : Option (((List (Int × Bool)) × Int) ⊕ ((List (Int × Bool)))) := cond (decide (x44 < (l37.length : Int))) ((getI l37 x44).bind fun e46 => some (.inl ((mset m43 e46.id true), (IntKind.i64.wrap (x44 + 1))))) (some (.inr m43))
def Zeg (p0 : Ya4) (p1 : List (List Ya0)) (l37 : List Ya0) : Option (List Ya0) := (iter (fun z213 => Zef l37 z213.1 z213.2) big (([] : List (Int × Bool)), 0)).bind fun y214 => Zee p0 p1 l37 y214
def Zeh (x22 : Int) (l35 : List Ya0) : Option ((List Ya0 × Int) ⊕ ((List Ya0))) := some (.inl (l35, (IntKind.i64.wrap (x22 + 1))))
def Zei (p1 : List (List Ya0)) (e5 : List Ya0) (l21 : List Ya0) (x22 : Int) : Option ((List Ya0 × Int) ⊕ ((List Ya0))) := cond (decide (x22 < (e5.length : Int))) ((getI e5 x22).bind fun e24 => (Ze1 p1 e24).bind fun r27 => cond r27 (Zeh x22 l21) ((chk (decide ((l21.length + [e24].length) * 24 ≤ 140737488355328))).bind fun u32 => Zeh x22 (l21 ++ [e24]))) (some (.inr l21))
def Zej (p0 : Ya4) (p1 : List (List Ya0)) : Option (List Ya0) := cond (decide ((p1.length : Int) > 0)) ((getI p1 0).bind fun e5 => (iter (fun z215 => Zei p1 e5 z215.1 z215.2) big (([] : List Ya0), 0)).bind fun y216 => Zeg p0 p1 y216) (Zeg p0 p1 ([] : List Ya0))
instance Zek (p0 : Ya4) (p1 : List (List Ya0)) : SpO Tryz.prog 120 (Zej p0 p1) (.x fun (b00 : Nat) => .x fun (b01 : Nat) => .x fun (b02 : Nat) => .x fun (b03 : Nat) => .x fun (b04 : Nat) => .d [pt b00, cM Yaf 1 p1] [oB b00 140 [cI p0.graph.room, cM Ya6 9 p0.graph.events, cM Ya6 9 p0.graph.parked, mt b01, mt b02, mt b03, mt b04], Abs.Obj.map b01 .i64 Yak p0.depth, Abs.Obj.map b02 .i64 Yal p0.before, Abs.Obj.map b03 .i64 Yal p0.after, Abs.Obj.map b04 .i64 Yak p0.refused] fun r => .d (cM Yae 3 r) [oB b00 140 [cI p0.graph.room, cM Ya6 9 p0.graph.events, cM Ya6 9 p0.graph.parked, mt b01, mt b02, mt b03, mt b04], Abs.Obj.map b01 .i64 Yak p0.depth, Abs.Obj.map b02 .i64 Yal p0.before, Abs.Obj.map b03 .i64 Yal p0.after, Abs.Obj.map b04 .i64 Yak p0.refused]) := ⟨fun b00 b01 b02 b03 b04 => so Tryz.func120 rfl rfl fun r X h => gh (.q 2 (.c1 (fun l37 => .x fun v36 => .d [(5, cV v36)] [oA v36 136 Yae 3 l37]) [1,2,6] [2,3,4,5,6,7,0] (.b (.l2 (fun l21 x22 => .x fun v20 => .d [(5, cV v20), (29, cI x22)] [oA v20 136 Yae 3 l21]) [1,2,6,27,28] [2,3,4,5,6,7,0] (.b (.c1 (fun l35 => .x fun v34 => .d [(5, cV v34)] [oA v34 136 Yae 3 l35]) [1,2,6,27,28,29] [1,2,3,4,5,6,7] .z .z) .z)) .z) (.q 1 (.o 0 fun b38 => .c1 (fun m49 => .d [] [Abs.Obj.map b38 .i64 Yam m49]) [1,2,5,6,9] [2,3,4,5,6,7,1,8] (.O 0 fun b38 => .l2 (fun m43 x44 => .d [(45, cI x44)] [Abs.Obj.map b38 .i64 Yam m43]) [1,2,5,6,9,43,44] [2,3,4,5,6,7,1,8] .z) (.c1 (fun l175 => .x fun v174 => .d [(6, cV v174)] [oA v174 42 Ya6 9 l175]) [2,5] [1,2,3,4,5,6,7] (.O 0 fun b38 => .l3 (fun l111 m112 x113 => .x fun v110 => .d [(6, cV v110), (55, cI x113)] [oA v110 42 Ya6 9 l111, Abs.Obj.map b38 .i64 Yam m112]) [2,5,9,53,54] [1,2,3,4,5,6,7] (.b (.o 1 fun b38 => .c2 (fun l172 m173 => .x fun v171 => .d [(6, cV v171)] [oA v171 42 Ya6 9 l172, Abs.Obj.map b38 .i64 Yam m173]) [2,5,9,53,54,55] [2,3,4,5,6,7,8] (.O 1 fun b38 => .l3 (fun l143 m144 x145 => .x fun v142 => .d [(6, cV v142), (61, cI x145)] [oA v142 42 Ya6 9 l143, Abs.Obj.map b38 .i64 Yam m144]) [2,5,9,53,54,55,59,60] [2,3,4,5,6,7,8] (.b (.o 1 fun b38 => .c2 (fun l169 m170 => .x fun v168 => .d [(6, cV v168)] [oA v168 42 Ya6 9 l169, Abs.Obj.map b38 .i64 Yam m170]) [2,5,9,53,54,55,59,60,61] [2,3,4,5,6,7,8] (.b .z (.q 1 (.c9 (fun x155 x156 x157 x158 x159 x160 x161 l162 x163 => .x fun b154 => .d [(16, pt b154)] [oB b154 42 [cI x155, cI x156, cI x157, cI x158, cI x159, cI x160, C.str x161, cM kI64 1 l162, cI x163]]) [2,5,6,9,53,54,55,59,60,61] [3,4,5,6,7,8,9,2,0] (.R [0,0,0,0,0,0,0,0,0,0] [0,3,5] [11] (.light 0 true (.light 1 false (.light 2 false (.light 3 true (.light 4 false (.light 5 true (.two 6 10 (.light 7 false (.light 8 false (.light 9 false (.one 10 (.late 11 (.light 12 false .done)))))) (.one 6 (.light 7 false (.light 8 false (.light 9 false (.late 11 (.light 12 false .done))))))))))))) (.H 142 .z)) .z))) .z) .z)) .z) .z)) (.q 1 (.c1 (fun l205 => .d [(5, cM Yae 3 l205)] []) [] [2,3,4,5,6] (.l2 (fun l193 x194 => .d [(5, cM Yae 3 l193), (94, cI x194)] []) [2,92,93] [1,2,3,4,5,6,0] (.b (.c1 (fun l204 => .d [(5, cM Yae 3 l204)] []) [2,92,93,94] [0,1,2,3,4,5,6] (.r [0,0,0,0,0,0,0,0] [0,3,5] [] [1,4,8,13,16,21,26,28] .z) .z) .z)) .z)))))))⟩

def Zel (p0 : List Int) : Option (List Int) := (chk (decide (p0.length * 8 ≤ 140737488355328))).bind fun _ => some p0
theorem Zem (p0 : List Int) (r : List Int) (h : Zel p0 = some r) : Ok Tryz.prog 339 [cM kI64 1 p0] [] (fun c qs => ∃ (v : Value), c = cV v ∧ qs = [oA v 2 kI64 1 r]) := by
 refine ob' h fun u hc h => ?_
 obtain rfl := Wj h
 have hc := Wo (Y45 hc)
 refine Ok.of_body (rs := [.tmp 2]) Tryz.func339 rfl rfl rfl rfl rfl fun X => ?_
 refine zw ?_
 refine Ops.h (ns := []) rfl rfl (Y60 Yat.h rfl rfl) ?_
 rintro _ _ ⟨b, hb, rfl, rfl⟩
 refine zw ?_
 refine tf' b (fun hq => ?_) (fun hq => ?_)
 ·
  refine AW.cond rfl (fun _ => ?_) (fun hn => absurd (hq.symm.trans hn) (by decide))
  refine zw ?_
  refine AW.ret ?_
  obtain rfl := hb hq
  exact finI ⟨[cV s0], _, Y25.nil 2 kI64 1, .cons (.tmp rfl) .nil, [0], _, _, rfl, ⟨_, rfl, rfl⟩⟩
 refine AW.cond rfl (fun hn => absurd (hq.symm.trans hn) (by decide)) (fun _ => ?_)
 refine zw ?_
 refine Ops.h (ns := []) rfl rfl (Y3l (k := kI64) (ys := ([] : List Int)) Yb9 .nil rfl rfl rfl) ?_
 rintro _ _ ⟨b1, rfl, rfl⟩
 refine zw ?_
 refine Ops.h (ns := [0]) rfl rfl (Y33 Yb9 rfl rfl (by simpa using hc) (by simp; omega) rfl) ?_
 rintro _ _ ⟨v, rfl, rfl⟩
 refine zw ?_
 refine AW.ret ?_
 exact finI ⟨[cV v], _, Y25.refl _, .cons (.tmp rfl) .nil, [0], _, _, rfl, ⟨v, rfl, rfl⟩⟩
instance Zem' (p0 : List Int) : Sp Tryz.prog 339 [cM kI64 1 p0] (Zel p0) (fun r => cM kI64 1 r) := ⟨fun r h => Ok.freeze (Zem p0 r h) (by rintro c qs ⟨v, rfl, rfl⟩; exact Frz.arr)⟩
instance Zen (p0 : List Int) : SpO Tryz.prog 339 (Zel p0) (.d [cM kI64 1 p0] [] fun r => .x fun (v : Value) => .d (cV v) [oA v 2 kI64 1 r]) := ⟨fun r h => Zem p0 r h⟩

def Zeo : Option Bool := some false
def Zep (x24 : Int) (m36 : List (Int × Bool)) (l38 : List Int) : Option (((List (Int × Bool)) × List Int × Int) ⊕ (Bool ⊕ Unit)) := some (.inl (m36, l38, (IntKind.i64.wrap (x24 + 1))))
def Zeq (p0 : Y9y) (p1 : Int) (m21 : List (Int × Bool)) (l23 : List Int) (x24 : Int) : Option (((List (Int × Bool)) × List Int × Int) ⊕ (Bool ⊕ Unit)) := cond (decide (x24 < (l23.length : Int))) ((getI l23 x24).bind fun e26 => cond (e26 == p1) (some (.inr (.inl true))) (cond (Option.getD (mget m21 e26) false) (Zep x24 m21 l23) ((Zbz p0 e26).bind fun r30 => (chk (decide ((l23.length + r30.1.prev.length) * 8 ≤ 140737488355328))).bind fun u34 => Zep x24 (mset m21 e26 true) (l23 ++ r30.1.prev)))) (some (.inr (.inr ())))
def Zer (p0 : Y9y) (p1 : Int) (p2 : Y9v) : Option Bool := (Zel p2.prev).bind fun r4 => (iter (fun z39 => Zeq p0 p1 z39.1 z39.2.1 z39.2.2) big (([] : List (Int × Bool)), r4, 0)).bind (fun z41 => match z41 with | .inl y40 => some y40 | .inr () => Zeo)
instance Zes (p0 : Y9y) (p1 : Int) (p2 : Y9v) : Sp Tryz.prog 319 [C.agg [cI p0.room, cM Ya6 9 p0.events, cM Ya6 9 p0.parked], cI p1, C.agg [cI p2.id, cI p2.room, cI p2.author, cI p2.kind, cI p2.key, cI p2.n, C.str p2.text, cM kI64 1 p2.prev, cI p2.time]] (Zer p0 p1 p2) (fun r => C.bool r) := Sp.of (so Tryz.func319 rfl rfl fun r X h => gh (.k (.c0 (.d [] []) [] [] (.O 1 fun b3 => .l3 (fun m21 l23 x24 => .x fun v22 => .d [(8, cV v22), (9, cI x24)] [Abs.Obj.map b3 .i64 Yam m21, oA v22 2 kI64 1 l23]) [1,3,7] [3] (.b (.o 0 fun b3 => .c2 (fun m36 l38 => .x fun v37 => .d [(8, cV v37)] [Abs.Obj.map b3 .i64 Yam m36, oA v37 2 kI64 1 l38]) [1,3,7,9] [2] .z .z) .z)) .z)))

end Go.Proofs.YtmaefakalikkiaaGreat
