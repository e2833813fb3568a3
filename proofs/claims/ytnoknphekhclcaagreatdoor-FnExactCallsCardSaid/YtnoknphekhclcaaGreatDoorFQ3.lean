/- Printed by gen.py: plain functions for Go functions, and that the walks keep to them. -/
import Derived.Test.YtnoknphekhclcaaGreatDoorFQ2
set_option autoImplicit false
set_option linter.unusedVariables false
set_option linter.unusedSimpArgs false
set_option maxHeartbeats 8000000
set_option maxRecDepth 100000
namespace Go.Proofs.YtnoknphekhclcaaGreatDoor
open Go Go.Abs
attribute [local irreducible] AW Ops OpsD Y3z VoK HoK GhF UsC Go.Abs.Fin PkK LenT LenL Y9l BldK FzK FzLK
def Z99 (x5 : Bool) : Option Bool := some x5
def Z9a (x13 : Bool) : Option Bool := some x13
def Z9b (x21 : Bool) : Option Bool := some x21
def Z9c (x25 : Bool) : Option Bool := some x25
def Z9d (x31 : Bool) : Option Bool := some x31
def Z9e (x37 : Bool) : Option Bool := some x37
def Z9f (x43 : Bool) : Option Bool := some x43
def Z9g (x49 : Bool) : Option Bool := some x49
def Z9h (p0 : Y9z) : Option Bool := cond (p0.kind == 1) (cond (p0.key == 0) (cond (p0.n == 0) (Z99 ((p0.text.size : Int) == 0)) (Z99 false)) (Z99 false)) (cond (p0.kind == 2) ((Z8u p0.key).bind fun r7 => cond r7 ((Z8o p0.n 1 4).bind fun r10 => cond r10 (Z9a ((p0.text.size : Int) == 0)) (Z9a false)) (Z9a false)) (cond (p0.kind == 3) ((Z8u p0.key).bind fun r15 => cond r15 ((Z8o p0.n 0 100).bind fun r18 => cond r18 (Z9b ((p0.text.size : Int) == 0)) (Z9b false)) (Z9b false)) (cond (p0.kind == 4) (cond (p0.key == 0) (cond (p0.n == 0) (Z9c (decide ((p0.text.size : Int) ≤ 30))) (Z9c false)) (Z9c false)) (cond (p0.kind == 5) (cond (p0.key == 0) ((Z8o p0.n 1 2).bind fun r28 => cond r28 (Z9d ((p0.text.size : Int) == 0)) (Z9d false)) (Z9d false)) (cond (p0.kind == 6) (cond (p0.key == 0) ((Z8o p0.n 1 3).bind fun r34 => cond r34 (Z9e ((p0.text.size : Int) == 0)) (Z9e false)) (Z9e false)) (cond (p0.kind == 7) (cond (p0.key == 0) (cond (p0.n == 0) ((Z8o (p0.text.size : Int) 1 30).bind fun r41 => Z9f r41) (Z9f false)) (Z9f false)) (cond (p0.kind == 8) ((Z8s p0.key).bind fun r45 => cond r45 (cond (p0.n == 0) (Z9g ((p0.text.size : Int) == 0)) (Z9g false)) (Z9g false)) (Z9g false))))))))
instance Z9i (p0 : Y9z) : Sp Tryz.prog 218 [C.agg [cI p0.id, cI p0.room, cI p0.author, cI p0.kind, cI p0.key, cI p0.n, C.str p0.text, cM kI64 1 p0.prev, cI p0.time]] (Z9h p0) (fun r => C.bool r) := Sp.of (so Tryz.func218 rfl rfl fun r X h => gh (.r [0] [1,4,7] [] [0,5,8,12,17,20,24,29,32,36,40,44] (.b (.c1 (fun x5 => .d [(2, C.bool x5)] []) [] [] .z .z) (.b (.c1 (fun x13 => .d [(2, C.bool x13)] []) [] [] .z .z) (.b (.c1 (fun x21 => .d [(2, C.bool x21)] []) [] [] .z .z) (.b (.c1 (fun x25 => .d [(2, C.bool x25)] []) [] [] .z .z) (.b (.c1 (fun x31 => .d [(2, C.bool x31)] []) [] [] .z .z) (.b (.c1 (fun x37 => .d [(2, C.bool x37)] []) [] [] .z .z) (.b (.c1 (fun x43 => .d [(2, C.bool x43)] []) [] [] .z .z) (.c1 (fun x49 => .d [(2, C.bool x49)] []) [] [] .z .z))))))))))

def Z9j (x23 : Bool) : Option Bool := some x23
def Z9k (p0 : Y9z) : Option Bool := (Z8s p0.id).bind fun r2 => cond r2 ((Z8q p0.room).bind fun r5 => cond r5 ((Z8u p0.author).bind fun r8 => cond r8 ((Z8w p0.time).bind fun r11 => cond r11 (cond (decide ((p0.prev.length : Int) ≤ 4)) ((Z91 p0.prev 1 1000000).bind fun r15 => cond r15 ((Z97 p0.prev p0.id).bind fun r18 => cond r18 (Z9j false) ((Z9h p0).bind fun r21 => Z9j r21)) (Z9j false)) (Z9j false)) (Z9j false)) (Z9j false)) (Z9j false)) (Z9j false)
instance Z9l (p0 : Y9z) : Sp Tryz.prog 186 [C.agg [cI p0.id, cI p0.room, cI p0.author, cI p0.kind, cI p0.key, cI p0.n, C.str p0.text, cM kI64 1 p0.prev, cI p0.time]] (Z9k p0) (fun r => C.bool r) := Sp.of (so Tryz.func186 rfl rfl fun r X h => gh (.q 1 (.c1 (fun x23 => .d [(2, C.bool x23)] []) [] [] .z .z)))

def Z9m (x5 : Bool) : Option Bool := some x5
def Z9n (p0 : Y9z) : Option Bool := (Z9k p0).bind fun r2 => cond r2 (Z9m ((p0.kind == 1) == ((p0.prev.length : Int) == 0))) (Z9m false)
instance Z9o (p0 : Y9z) : Sp Tryz.prog 145 [C.agg [cI p0.id, cI p0.room, cI p0.author, cI p0.kind, cI p0.key, cI p0.n, C.str p0.text, cM kI64 1 p0.prev, cI p0.time]] (Z9n p0) (fun r => C.bool r) := Sp.of (so Tryz.func145 rfl rfl fun r X h => gh (.q 1 (.c1 (fun x5 => .d [(2, C.bool x5)] []) [] [] .z .z)))

def Z9p : Option Bool := some true
def Z9q (x15 : Int) (x27 : Bool) : Option (Int ⊕ (Bool ⊕ Unit)) := cond x27 (some (.inr (.inl false))) (some (.inl (IntKind.i64.wrap (x15 + 1))))
def Z9r (p0 : Ya3) (p1 : List Y9z) (x15 : Int) : Option (Int ⊕ (Bool ⊕ Unit)) := cond (decide (x15 < (p1.length : Int))) ((getI p1 x15).bind fun e17 => (Z9n e17).bind fun r20 => cond r20 (cond (e17.room != p0.room) (Z9q x15 true) (cond (decide (x15 > 0)) ((getI p1 (IntKind.i64.wrap (x15 - 1))).bind fun e25 => Z9q x15 (decide (e25.id ≥ e17.id))) (Z9q x15 false))) (Z9q x15 true)) (some (.inr (.inr ())))
def Z9s (p0 : Ya3) (p1 : List Y9z) : Option Bool := (iter (Z9r p0 p1) big 0).bind (fun z30 => match z30 with | .inl y29 => some y29 | .inr () => Z9p)
instance Z9t (p0 : Ya3) (p1 : List Y9z) : Sp Tryz.prog 112 [C.agg [cI p0.room, cM Yab 9 p0.events, cM Yab 9 p0.parked], cM Yab 9 p1] (Z9s p0 p1) (fun r => C.bool r) := Sp.of (so Tryz.func112 rfl rfl fun r X h => gh (.q 1 (.c0 (.d [] []) [] [] (.l1 (fun x15 => .d [(9, cI x15)] []) [1,2,7,8] [0] (.b (.q 2 (.c1 (fun x27 => .d [(38, C.bool x27)] []) [1,2,7,8,9] [1] (.r [0,0] [0,5,7,19,21] [] [1,6,8,12,16,21,24,29,32,36,40,44,48,52,56,60,64,68,72,77,80,85,88,92,96] .z) .z)) .z)) .z)))

def Z9u (p0 : Int) : Option Bool := some (p0 != p0)
instance Z9v (p0 : Int) : Sp Tryz.prog 188 [cI p0] (Z9u p0) (fun r => C.bool r) := Sp.of (so Tryz.func188 rfl rfl fun r X h => gh .z)

def Z9w (p0 : Int) (p1 : Int) : Option Int := (Z9u p0).bind fun r1 => (Z9u p1).bind fun r3 => cond r1 (cond r3 (some 0) (some (-1))) (cond r3 (some 1) (cond (decide (p0 < p1)) (some (-1)) (cond (decide (p0 > p1)) (some 1) (some 0))))
instance Z9x (p0 : Int) (p1 : Int) : Sp Tryz.prog 150 [cI p0, cI p1] (Z9w p0 p1) (fun r => cI r) := Sp.of (so Tryz.func150 rfl rfl fun r X h => gh .z)

def Z9y (p0 : Y9z) (p1 : Int) : Option Int := (Z9w p0.id p1).bind fun r2 => some r2
instance Z9z (p0 : Y9z) (p1 : Int) : Sp Tryz.prog 157 [C.agg [cI p0.id, cI p0.room, cI p0.author, cI p0.kind, cI p0.key, cI p0.n, C.str p0.text, cM kI64 1 p0.prev, cI p0.time], cI p1] (Z9y p0 p1) (fun r => cI r) := Sp.of (so Tryz.func157 rfl rfl fun r X h => gh .z)

def Za0 (x15 : Int) (x21 : Bool) : Option (Int × Bool) := some (x15, x21)
def Za1 (p0 : List Y9z) (p1 : Int) (x15 : Int) : Option (Int × Bool) := cond (decide (x15 < (p0.length : Int))) ((getI p0 x15).bind fun e17 => (Z9y e17 p1).bind fun r19 => Za0 x15 (r19 == 0)) (Za0 x15 false)
def Za2 (p0 : List Y9z) (p1 : Int) (x7 : Int) (x8 : Int) : Option ((Int × Int) ⊕ (Int)) := cond (decide (x7 < x8)) ((getI p0 (IntKind.i64.wrap (shrI .u64 (IntKind.u64.wrap (IntKind.i64.wrap (x7 + x8))) 1))).bind fun e10 => (Z9y e10 p1).bind fun r12 => cond (decide (r12 < 0)) (some (.inl ((IntKind.i64.wrap ((IntKind.i64.wrap (shrI .u64 (IntKind.u64.wrap (IntKind.i64.wrap (x7 + x8))) 1)) + 1)), x8))) (some (.inl (x7, (IntKind.i64.wrap (shrI .u64 (IntKind.u64.wrap (IntKind.i64.wrap (x7 + x8))) 1)))))) (some (.inr x7))
def Za3 (p0 : List Y9z) (p1 : Int) : Option (Int × Bool) := (iter (fun z22 => Za2 p0 p1 z22.1 z22.2) big (0, (p0.length : Int))).bind fun y23 => Za1 p0 p1 y23
instance Za4 (p0 : List Y9z) (p1 : Int) : Sp Tryz.prog 156 [cM Yab 9 p0, cI p1, cV (.func (.func 157) #[] #[])] (Za3 p0 p1) (fun r => C.tup [cI r.1, C.bool r.2]) := Sp.of (so Tryz.func156 rfl rfl fun r X h => gh (.q 3 (.c1 (fun x15 => .d [(9, cI x15)] []) [0,1,2,8] [] (.l2 (fun x7 x8 => .d [(9, cI x7), (10, cI x8)] []) [0,1,2,8] [] .z) (.e 9 cI fun x15 => .c1 (fun x21 => .d [(6, cI x15), (7, C.bool x21)] []) [] [] .z .z))))

def Za5 (p0 : List Y9z) (p1 : Int) : Option (Int × Bool) := (Za3 p0 p1).bind fun r1 => some (r1.1, r1.2)
instance Za6 (p0 : List Y9z) (p1 : Int) : Sp Tryz.prog 121 [cM Yab 9 p0, cI p1] (Za5 p0 p1) (fun r => C.tup [cI r.1, C.bool r.2]) := Sp.of (so Tryz.func121 rfl rfl fun r X h => gh .z)

def Za7 (p0 : Ya3) (p1 : Int) : Option Bool := (Za5 p0.events p1).bind fun r2 => some r2.2
instance Za8 (p0 : Ya3) (p1 : Int) : Sp Tryz.prog 117 [C.agg [cI p0.room, cM Yab 9 p0.events, cM Yab 9 p0.parked], cI p1] (Za7 p0 p1) (fun r => C.bool r) := Sp.of (so Tryz.func117 rfl rfl fun r X h => gh .z)

def Za9 (p0 : Int) (q0 : Ya3) : Option Bool := (Za7 q0 p0).bind fun r1 => some (!r1)
instance Zaa (p0 : Int) (q0 : Ya3) : SpO Tryz.prog 147 (Za9 p0 q0) (.x fun (b00 : Nat) => .d [cI p0, pt b00] [oB b00 118 [cI q0.room, cM Yab 9 q0.events, cM Yab 9 q0.parked]] fun r => .d (C.bool r) [oB b00 118 [cI q0.room, cM Yab 9 q0.events, cM Yab 9 q0.parked]]) := ⟨fun b00 => so Tryz.func147 rfl rfl fun r X h => gh .z⟩

def Zab : Option Int := some (-1)
def Zac (p0 : List Int) (p1_0 : Ya3) (x7 : Int) : Option (Int ⊕ (Int ⊕ Unit)) := cond (decide (x7 < (p0.length : Int))) ((getI p0 x7).bind fun e9 => (Za9 e9 p1_0).bind fun r11 => cond r11 (some (.inr (.inl x7))) (some (.inl (IntKind.i64.wrap (x7 + 1))))) (some (.inr (.inr ())))
def Zad (p0 : List Int) (p1_0 : Ya3) : Option Int := (iter (Zac p0 p1_0) big 0).bind (fun z15 => match z15 with | .inl y14 => some y14 | .inr () => Zab)
instance Zae (p0 : List Int) (p1_0 : Ya3) : SpO Tryz.prog 122 (Zad p0 p1_0) (.x fun (b00 : Nat) => .d [cM kI64 1 p0, C.clo 147 [pt b00]] [oB b00 118 [cI p1_0.room, cM Yab 9 p1_0.events, cM Yab 9 p1_0.parked]] fun r => .d (cI r) [oB b00 118 [cI p1_0.room, cM Yab 9 p1_0.events, cM Yab 9 p1_0.parked]]) := ⟨fun b00 => so Tryz.func122 rfl rfl fun r X h => gh (.q 1 (.c0 (.d [] []) [] [0] (.l1 (fun x7 => .d [(8, cI x7)] []) [0,1,7] [0] .z) .z))⟩

def Zaf (p0 : List Int) (p1_0 : Ya3) : Option Bool := (Zad p0 p1_0).bind fun r1 => some (decide (r1 ≥ 0))
instance Zag (p0 : List Int) (p1_0 : Ya3) : SpO Tryz.prog 82 (Zaf p0 p1_0) (.x fun (b00 : Nat) => .d [cM kI64 1 p0, C.clo 147 [pt b00]] [oB b00 118 [cI p1_0.room, cM Yab 9 p1_0.events, cM Yab 9 p1_0.parked]] fun r => .d (C.bool r) [oB b00 118 [cI p1_0.room, cM Yab 9 p1_0.events, cM Yab 9 p1_0.parked]]) := ⟨fun b00 => so Tryz.func82 rfl rfl fun r X h => gh .z⟩

def Zah (p0 : Ya3) (p1 : Y9z) : Option Bool := (Zaf p1.prev p0).bind fun r3 => some (!r3)
instance Zai (p0 : Ya3) (p1 : Y9z) : Sp Tryz.prog 115 [C.agg [cI p0.room, cM Yab 9 p0.events, cM Yab 9 p0.parked], C.agg [cI p1.id, cI p1.room, cI p1.author, cI p1.kind, cI p1.key, cI p1.n, C.str p1.text, cM kI64 1 p1.prev, cI p1.time]] (Zah p0 p1) (fun r => C.bool r) := Sp.of (so Tryz.func115 rfl rfl fun r X h => gh .z)

def Zaj (l140 : List Int) (x141 : Int) : Option (List Int × Bool) := some (l140, (x141 == 0))
def Zak (x109 : Int) (l137 : List Int) (x138 : Int) (x139 : Bool) : Option ((List Int × Int × Bool × Int) ⊕ ((List Int × Int × Bool))) := some (.inl (l137, x138, x139, (IntKind.i64.wrap (x109 + 1))))
def Zal (l106 : List Int) (x107 : Int) (x108 : Bool) (x109 : Int) (x135 : Int) : Option ((List Int × Int × Bool × Int) ⊕ ((List Int × Int × Bool))) := cond (decide (x135 > 0)) (Zak x109 (List.set l106 (Int.toNat x109) x135) (IntKind.i64.wrap (x107 - 1)) true) (Zak x109 l106 x107 x108)
def Zam (p0 : Ya3) (l106 : List Int) (e111 : Y9z) (x125 : Int) (x126 : Int) : Option ((Int × Int) ⊕ (Int)) := cond (decide (x126 < (e111.prev.length : Int))) ((getI e111.prev x126).bind fun e128 => (Za5 p0.events e128).bind fun r130 => (getI l106 r130.1).bind fun e132 => cond (e132 == 0) (some (.inr 0)) (some (.inl ((if (IntKind.i64.wrap (e132 + 1)) > x125 then (IntKind.i64.wrap (e132 + 1)) else x125), (IntKind.i64.wrap (x126 + 1)))))) (some (.inr x125))
def Zan (p0 : Ya3) (l106 : List Int) (x107 : Int) (x108 : Bool) (x109 : Int) : Option ((List Int × Int × Bool × Int) ⊕ ((List Int × Int × Bool))) := cond (decide (x109 < (p0.events.length : Int))) ((getI p0.events x109).bind fun e111 => (getI l106 x109).bind fun e114 => cond (decide (e114 > 0)) (Zak x109 l106 x107 x108) ((iter (fun z143 => Zam p0 l106 e111 z143.1 z143.2) big (1, 0)).bind fun y144 => Zal l106 x107 x108 x109 y144)) (some (.inr (l106, x107, x108)))
def Zao (p0 : Ya3) (l70 : List Int) (x71 : Int) (x74 : Bool) : Option ((List Int × Int × Bool) ⊕ ((List Int × Int))) := cond x74 ((iter (fun z145 => Zan p0 z145.1 z145.2.1 z145.2.2.1 z145.2.2.2) big (l70, x71, false, 0)).bind fun (y146, y147, y148) => some (.inl (y146, y147, y148))) (some (.inr (l70, x71)))
def Zap (p0 : Ya3) (l70 : List Int) (x71 : Int) (x72 : Bool) : Option ((List Int × Int × Bool) ⊕ ((List Int × Int))) := cond x72 (Zao p0 l70 x71 (decide (x71 > 0))) (Zao p0 l70 x71 false)
def Zaq (p0 : Ya3) : Option (List Int × Bool) := (chk (decide (0 ≤ (p0.events.length : Int) ∧ (p0.events.length : Int) * 8 ≤ 140737488355328))).bind fun u3 => (iter (fun z149 => Zap p0 z149.1 z149.2.1 z149.2.2) big ((List.replicate (Int.toNat (p0.events.length : Int)) 0), (p0.events.length : Int), true)).bind fun (y150, y151) => Zaj y150 y151
instance Zar (p0 : Ya3) : SpO Tryz.prog 118 (Zaq p0) (.d [C.agg [cI p0.room, cM Yab 9 p0.events, cM Yab 9 p0.parked]] [] fun r => .x fun (v142 : Value) => .d (C.tup [cV v142, C.bool r.2]) [oA v142 2 kI64 1 r.1]) := ⟨so Tryz.func118 rfl rfl fun r X h => gh (.r [0] [1,5] [] [0,5,8,16,21,24,14,28,32] (.a 1 fun w1 => .c2 (fun l140 x141 => .d [(5, cI x141)] [oA w1 2 kI64 1 l140]) [4] [] (.A 1 fun w1 => .l3 (fun l70 x71 x72 => .d [(5, cI x71), (6, C.bool x72)] [oA w1 2 kI64 1 l70]) [1,4] [0] (.q 1 (.c1 (fun x74 => .d [(25, C.bool x74)] []) [1,4,5] [1,0] .z (.b (.A 1 fun w1 => .l4 (fun l106 x107 x108 x109 => .d [(5, cI x107), (6, C.bool x108), (29, cI x109)] [oA w1 2 kI64 1 l106]) [1,4,27,28] [0] (.b (.a 0 fun w0 => .c3 (fun l137 x138 x139 => .d [(5, cI x138), (6, C.bool x139)] [oA w0 2 kI64 1 l137]) [1,4,27,28,29] [1] (.b .z (.q 1 (.c1 (fun x135 => .d [(9, cI x135)] []) [1,4,5,6,7,27,28,29] [2,1] (.l2 (fun x125 x126 => .d [(9, cI x125), (42, cI x126)] []) [1,4,5,6,7,27,28,29,40,41] [2,1] .z) .z))) .z) .z)) .z)))) .z))⟩
instance Zar' (p0 : Ya3) : Sp Tryz.prog 118 [C.agg [cI p0.room, cM Yab 9 p0.events, cM Yab 9 p0.parked]] (Zaq p0) (fun r => C.tup [cM kI64 1 r.1, C.bool r.2]) := ⟨fun r h => Ok.freeze ((Zar p0).h r h) (by rintro c qs ⟨v142, rfl, rfl⟩; exact Frz.tup (FrzT.cons (os := [_]) (Frz.arr) (fT (FrzT.nil))))⟩

def Zas (p0 : Y9z) (q0 : Ya3) : Option Bool := (Zah q0 p0).bind fun r2 => some (!r2)
instance Zat (p0 : Y9z) (q0 : Ya3) : SpO Tryz.prog 114 (Zas p0 q0) (.x fun (b00 : Nat) => .d [C.agg [cI p0.id, cI p0.room, cI p0.author, cI p0.kind, cI p0.key, cI p0.n, C.str p0.text, cM kI64 1 p0.prev, cI p0.time], pt b00] [oB b00 118 [cI q0.room, cM Yab 9 q0.events, cM Yab 9 q0.parked]] fun r => .d (C.bool r) [oB b00 118 [cI q0.room, cM Yab 9 q0.events, cM Yab 9 q0.parked]]) := ⟨fun b00 => so Tryz.func114 rfl rfl fun r X h => gh .z⟩

def Zau : Option Int := some (-1)
def Zav (p0 : List Y9z) (p1_0 : Ya3) (x7 : Int) : Option (Int ⊕ (Int ⊕ Unit)) := cond (decide (x7 < (p0.length : Int))) ((getI p0 x7).bind fun e9 => (Zas e9 p1_0).bind fun r11 => cond r11 (some (.inr (.inl x7))) (some (.inl (IntKind.i64.wrap (x7 + 1))))) (some (.inr (.inr ())))
def Zaw (p0 : List Y9z) (p1_0 : Ya3) : Option Int := (iter (Zav p0 p1_0) big 0).bind (fun z15 => match z15 with | .inl y14 => some y14 | .inr () => Zau)
instance Zax (p0 : List Y9z) (p1_0 : Ya3) : SpO Tryz.prog 146 (Zaw p0 p1_0) (.x fun (b00 : Nat) => .d [cM Yab 9 p0, C.clo 114 [pt b00]] [oB b00 118 [cI p1_0.room, cM Yab 9 p1_0.events, cM Yab 9 p1_0.parked]] fun r => .d (cI r) [oB b00 118 [cI p1_0.room, cM Yab 9 p1_0.events, cM Yab 9 p1_0.parked]]) := ⟨fun b00 => so Tryz.func146 rfl rfl fun r X h => gh (.q 1 (.c0 (.d [] []) [] [0] (.l1 (fun x7 => .d [(8, cI x7)] []) [0,1,7] [0] .z) .z))⟩

def Zay (p0 : List Y9z) (p1_0 : Ya3) : Option Bool := (Zaw p0 p1_0).bind fun r1 => some (decide (r1 ≥ 0))
instance Zaz (p0 : List Y9z) (p1_0 : Ya3) : SpO Tryz.prog 113 (Zay p0 p1_0) (.x fun (b00 : Nat) => .d [cM Yab 9 p0, C.clo 114 [pt b00]] [oB b00 118 [cI p1_0.room, cM Yab 9 p1_0.events, cM Yab 9 p1_0.parked]] fun r => .d (C.bool r) [oB b00 118 [cI p1_0.room, cM Yab 9 p1_0.events, cM Yab 9 p1_0.parked]]) := ⟨fun b00 => so Tryz.func113 rfl rfl fun r X h => gh .z⟩

def Zb0 (x7 : Bool) : Option Bool := some x7
def Zb1 (p0 : Y9z) (q0 : Ya3) : Option Bool := (Za7 q0 p0.id).bind fun r2 => cond r2 (Zb0 true) ((Zah q0 p0).bind fun r5 => Zb0 r5)
instance Zb2 (p0 : Y9z) (q0 : Ya3) : SpO Tryz.prog 116 (Zb1 p0 q0) (.x fun (b00 : Nat) => .d [C.agg [cI p0.id, cI p0.room, cI p0.author, cI p0.kind, cI p0.key, cI p0.n, C.str p0.text, cM kI64 1 p0.prev, cI p0.time], pt b00] [oB b00 118 [cI q0.room, cM Yab 9 q0.events, cM Yab 9 q0.parked]] fun r => .d (C.bool r) [oB b00 118 [cI q0.room, cM Yab 9 q0.events, cM Yab 9 q0.parked]]) := ⟨fun b00 => so Tryz.func116 rfl rfl fun r X h => gh (.q 1 (.c1 (fun x7 => .d [(3, C.bool x7)] []) [] [1] .z .z))⟩

def Zb3 : Option Int := some (-1)
def Zb4 (p0 : List Y9z) (p1_0 : Ya3) (x7 : Int) : Option (Int ⊕ (Int ⊕ Unit)) := cond (decide (x7 < (p0.length : Int))) ((getI p0 x7).bind fun e9 => (Zb1 e9 p1_0).bind fun r11 => cond r11 (some (.inr (.inl x7))) (some (.inl (IntKind.i64.wrap (x7 + 1))))) (some (.inr (.inr ())))
def Zb5 (p0 : List Y9z) (p1_0 : Ya3) : Option Int := (iter (Zb4 p0 p1_0) big 0).bind (fun z15 => match z15 with | .inl y14 => some y14 | .inr () => Zb3)
instance Zb6 (p0 : List Y9z) (p1_0 : Ya3) : SpO Tryz.prog 146 (Zb5 p0 p1_0) (.x fun (b00 : Nat) => .d [cM Yab 9 p0, C.clo 116 [pt b00]] [oB b00 118 [cI p1_0.room, cM Yab 9 p1_0.events, cM Yab 9 p1_0.parked]] fun r => .d (cI r) [oB b00 118 [cI p1_0.room, cM Yab 9 p1_0.events, cM Yab 9 p1_0.parked]]) := ⟨fun b00 => so Tryz.func146 rfl rfl fun r X h => gh (.q 1 (.c0 (.d [] []) [] [0] (.l1 (fun x7 => .d [(8, cI x7)] []) [0,1,7] [0] .z) .z))⟩

def Zb7 (p0 : List Y9z) (p1_0 : Ya3) : Option Bool := (Zb5 p0 p1_0).bind fun r1 => some (decide (r1 ≥ 0))
instance Zb8 (p0 : List Y9z) (p1_0 : Ya3) : SpO Tryz.prog 113 (Zb7 p0 p1_0) (.x fun (b00 : Nat) => .d [cM Yab 9 p0, C.clo 116 [pt b00]] [oB b00 118 [cI p1_0.room, cM Yab 9 p1_0.events, cM Yab 9 p1_0.parked]] fun r => .d (C.bool r) [oB b00 118 [cI p1_0.room, cM Yab 9 p1_0.events, cM Yab 9 p1_0.parked]]) := ⟨fun b00 => so Tryz.func113 rfl rfl fun r X h => gh .z⟩

def Zb9 (p0 : Ya3) (x12 : Bool) : Option Bool := cond x12 (some false) ((Zay p0.events p0).bind fun r14 => cond r14 (some false) ((Zb7 p0.parked p0).bind fun r17 => cond r17 (some false) ((Zaq p0).bind fun r20 => some r20.2)))
def Zba (p0 : Ya3) : Option Bool := (Z8q p0.room).bind fun r2 => cond r2 (cond (decide ((p0.events.length : Int) > 60)) (Zb9 p0 true) (cond (decide ((p0.parked.length : Int) > 20)) (Zb9 p0 true) ((Z9s p0 p0.events).bind fun r7 => cond r7 ((Z9s p0 p0.parked).bind fun r10 => Zb9 p0 (!r10)) (Zb9 p0 true)))) (Zb9 p0 true)
instance Zbb (p0 : Ya3) : Sp Tryz.prog 77 [C.agg [cI p0.room, cM Yab 9 p0.events, cM Yab 9 p0.parked]] (Zba p0) (fun r => C.bool r) := Sp.of (so Tryz.func77 rfl rfl fun r X h => gh (.q 2 (.c1 (fun x12 => .d [(34, C.bool x12)] []) [1] [0] .z .z)))

def Zbc (p0 : Int) (p1 : Int) (q0 : List Int) : Option Int := (getI q0 p0).bind fun e1 => (getI q0 p1).bind fun e3 => (Z9w e1 e3).bind fun r5 => some r5
instance Zbd (p0 : Int) (p1 : Int) (q0 : List Int) : SpO Tryz.prog 149 (Zbc p0 p1 q0) (.x fun (b00 : Nat) => .d [cI p0, cI p1, pt b00] [oB b00 44 [cM kI64 1 q0]] fun r => .d (cI r) [oB b00 44 [cM kI64 1 q0]]) := ⟨fun b00 => so Tryz.func149 rfl rfl fun r X h => gh (.r [0] [0,3,4,7] [] [1,4,8,13,17,20,24,29,34,36] .z)⟩

def Zbe (x62 : Int) (l122 : List Int) : Option ((List Int × Int) ⊕ ((List Int))) := some (.inl (l122, (IntKind.i64.wrap (x62 + 1))))
def Zbf (l92 : List Int) (x93 : Int) (x110 : Bool) : Option ((List Int × Int) ⊕ ((List Int))) := cond x110 ((getI l92 (IntKind.i64.wrap (x93 - 1))).bind fun e112 => (getI l92 x93).bind fun e114 => (getI (List.set l92 (Int.toNat x93) e112) (IntKind.i64.wrap (x93 - 1))).bind fun e120 => some (.inl ((List.set (List.set l92 (Int.toNat x93) e112) (Int.toNat (IntKind.i64.wrap (x93 - 1))) e114), (IntKind.i64.wrap (x93 - 1))))) (some (.inr l92))
def Zbg (p1 : Int) (p3_0 : List Int) (l92 : List Int) (x93 : Int) : Option ((List Int × Int) ⊕ ((List Int))) := cond (decide (x93 > p1)) ((getI l92 x93).bind fun e104 => (getI l92 (IntKind.i64.wrap (x93 - 1))).bind fun e106 => (Zbc e104 e106 p3_0).bind fun r108 => Zbf l92 x93 (decide (r108 < 0))) (Zbf l92 x93 false)
def Zbh (p1 : Int) (p2 : Int) (p3_0 : List Int) (l61 : List Int) (x62 : Int) : Option ((List Int × Int) ⊕ ((List Int))) := cond (decide (x62 < p2)) ((iter (fun z123 => Zbg p1 p3_0 z123.1 z123.2) big (l61, x62)).bind fun y124 => Zbe x62 y124) (some (.inr l61))
def Zbi (p0 : List Int) (p1 : Int) (p2 : Int) (p3_0 : List Int) : Option (List Int) := (iter (fun z125 => Zbh p1 p2 p3_0 z125.1 z125.2) big (p0, (IntKind.i64.wrap (p1 + 1)))).bind fun y126 => some y126
instance Zbj (p0 : List Int) (p1 : Int) (p2 : Int) (p3_0 : List Int) : SpO Tryz.prog 219 (Zbi p0 p1 p2 p3_0) (.x fun (w00 : Value) => .x fun (b01 : Nat) => .d [cV w00, cI p1, cI p2, C.clo 149 [pt b01]] [oA w00 3 kI64 1 p0, oB b01 44 [cM kI64 1 p3_0]] fun r => .d (C.tup []) [oA w00 3 kI64 1 r, oB b01 44 [cM kI64 1 p3_0]]) := ⟨fun w00 b01 => so Tryz.func219 rfl rfl fun r X h => gh (.l2 (fun l61 x62 => .d [(8, cI x62)] [oA w00 3 kI64 1 l61]) [0,1,2,3] [1] (.b (.c1 (fun l122 => .d [] [oA w00 3 kI64 1 l122]) [0,1,2,3,8] [1] (.l2 (fun l92 x93 => .d [(9, cI x93)] [oA w00 3 kI64 1 l92]) [0,1,2,3,8] [1] (.q 1 (.c1 (fun x110 => .d [(34, C.bool x110)] []) [0,1,2,3,8,9] [0,1] (.r [0] [8,13] [] [0,4,8,12,16,20,24,28,33,36,40,44,48,53,58,60,64] .z) (.b (.r [0,0] [9,13] [15,17] [0,4,8,12,16,20,24,28,32,37,40,44,48,53,56,63,64,71] (.w 16 .z)) .z)))) .z) .z))⟩

def Zbk (p1 : Int) (p2 : Int) (p3 : Int) (l12 : List Int) (x13 : Int) : Option ((List Int × Int) ⊕ ((List Int))) := cond (decide (x13 < p3)) ((getI l12 (IntKind.i64.wrap (p2 + x13))).bind fun e15 => (getI l12 (IntKind.i64.wrap (p1 + x13))).bind fun e17 => (getI (List.set l12 (Int.toNat (IntKind.i64.wrap (p1 + x13))) e15) (IntKind.i64.wrap (p2 + x13))).bind fun e23 => some (.inl ((List.set (List.set l12 (Int.toNat (IntKind.i64.wrap (p1 + x13))) e15) (Int.toNat (IntKind.i64.wrap (p2 + x13))) e17), (IntKind.i64.wrap (x13 + 1))))) (some (.inr l12))
def Zbl (p0 : List Int) (p1 : Int) (p2 : Int) (p3 : Int) (p4_0 : List Int) : Option (List Int) := (iter (fun z25 => Zbk p1 p2 p3 z25.1 z25.2) big (p0, 0)).bind fun y26 => some y26
instance Zbm (p0 : List Int) (p1 : Int) (p2 : Int) (p3 : Int) (p4_0 : List Int) : SpO Tryz.prog 247 (Zbl p0 p1 p2 p3 p4_0) (.x fun (w00 : Value) => .x fun (b01 : Nat) => .d [cV w00, cI p1, cI p2, cI p3, C.clo 149 [pt b01]] [oA w00 3 kI64 1 p0, oB b01 44 [cM kI64 1 p4_0]] fun r => .d (C.tup []) [oA w00 3 kI64 1 r, oB b01 44 [cM kI64 1 p4_0]]) := ⟨fun w00 b01 => so Tryz.func247 rfl rfl fun r X h => gh (.l2 (fun l12 x13 => .d [(10, cI x13)] [oA w00 3 kI64 1 l12]) [0,1,2,3] [1] (.b (.r [0,0] [13,19] [21,23] [0,4,8,12,16,20,24,28,32,36,40,44,48,53,56,60,64,68,72,77,80,87,88,95] (.w 22 .z)) .z))⟩

def Zbn (p2 : Int) (p4_0 : List Int) (l16 : List Int) (x17 : Int) : Option (List Int) := (Zbl l16 (IntKind.i64.wrap (p2 - x17)) p2 x17 p4_0).bind fun r18 => some r18
def Zbo (p2 : Int) (p4_0 : List Int) (l7 : List Int) (x8 : Int) (x9 : Int) : Option ((List Int × Int × Int) ⊕ ((List Int × Int))) := cond (x8 != x9) (cond (decide (x8 > x9)) ((Zbl l7 (IntKind.i64.wrap (p2 - x8)) p2 x9 p4_0).bind fun r12 => some (.inl (r12, (IntKind.i64.wrap (x8 - x9)), x9))) ((Zbl l7 (IntKind.i64.wrap (p2 - x8)) (IntKind.i64.wrap ((IntKind.i64.wrap (p2 + x9)) - x8)) x8 p4_0).bind fun r14 => some (.inl (r14, x8, (IntKind.i64.wrap (x9 - x8)))))) (some (.inr (l7, x8)))
def Zbp (p0 : List Int) (p1 : Int) (p2 : Int) (p3 : Int) (p4_0 : List Int) : Option (List Int) := (iter (fun z20 => Zbo p2 p4_0 z20.1 z20.2.1 z20.2.2) big (p0, (IntKind.i64.wrap (p2 - p1)), (IntKind.i64.wrap (p3 - p2)))).bind fun (y21, y22) => Zbn p2 p4_0 y21 y22
instance Zbq (p0 : List Int) (p1 : Int) (p2 : Int) (p3 : Int) (p4_0 : List Int) : SpO Tryz.prog 233 (Zbp p0 p1 p2 p3 p4_0) (.x fun (w00 : Value) => .x fun (b01 : Nat) => .d [cV w00, cI p1, cI p2, cI p3, C.clo 149 [pt b01]] [oA w00 3 kI64 1 p0, oB b01 44 [cM kI64 1 p4_0]] fun r => .d (C.tup []) [oA w00 3 kI64 1 r, oB b01 44 [cM kI64 1 p4_0]]) := ⟨fun w00 b01 => so Tryz.func233 rfl rfl fun r X h => gh (.q 2 (.c2 (fun l16 x17 => .d [(10, cI x17)] [oA w00 3 kI64 1 l16]) [0,2,4] [1] (.l3 (fun l7 x8 x9 => .d [(10, cI x8), (11, cI x9)] [oA w00 3 kI64 1 l7]) [0,2,4] [1] .z) .z))⟩

def Zbr (l61 : List Int) : Option (List Int) := some l61
def Zbs (x36 : Int) (l48 : List Int) (x49 : Int) : Option ((List Int × Int) ⊕ ((List Int))) := cond (decide (x49 < (IntKind.i64.wrap (x36 - 1)))) ((getI l48 (IntKind.i64.wrap (x49 + 1))).bind fun e51 => (getI l48 x49).bind fun e53 => (getI (List.set l48 (Int.toNat x49) e51) (IntKind.i64.wrap (x49 + 1))).bind fun e59 => some (.inl ((List.set (List.set l48 (Int.toNat x49) e51) (Int.toNat (IntKind.i64.wrap (x49 + 1))) e53), (IntKind.i64.wrap (x49 + 1))))) (some (.inr l48))
def Zbt (p0 : List Int) (p1 : Int) (x36 : Int) : Option (List Int) := (iter (fun z178 => Zbs x36 z178.1 z178.2) big (p0, p1)).bind fun y179 => Zbr y179
def Zbu (p0 : List Int) (p1 : Int) (p4_0 : List Int) (x18 : Int) (x19 : Int) : Option ((Int × Int) ⊕ (Int)) := cond (decide (x18 < x19)) ((getI p0 (IntKind.i64.wrap (shrI .u64 (IntKind.u64.wrap (IntKind.i64.wrap (x18 + x19))) 1))).bind fun e29 => (getI p0 p1).bind fun e31 => (Zbc e29 e31 p4_0).bind fun r33 => cond (decide (r33 < 0)) (some (.inl ((IntKind.i64.wrap ((IntKind.i64.wrap (shrI .u64 (IntKind.u64.wrap (IntKind.i64.wrap (x18 + x19))) 1)) + 1)), x19))) (some (.inl (x18, (IntKind.i64.wrap (shrI .u64 (IntKind.u64.wrap (IntKind.i64.wrap (x18 + x19))) 1)))))) (some (.inr x18))
def Zbv (l122 : List Int) : Option (List Int) := some l122
def Zbw (x97 : Int) (l109 : List Int) (x110 : Int) : Option ((List Int × Int) ⊕ ((List Int))) := cond (decide (x110 > x97)) ((getI l109 (IntKind.i64.wrap (x110 - 1))).bind fun e112 => (getI l109 x110).bind fun e114 => (getI (List.set l109 (Int.toNat x110) e112) (IntKind.i64.wrap (x110 - 1))).bind fun e120 => some (.inl ((List.set (List.set l109 (Int.toNat x110) e112) (Int.toNat (IntKind.i64.wrap (x110 - 1))) e114), (IntKind.i64.wrap (x110 - 1))))) (some (.inr l109))
def Zbx (p0 : List Int) (p2 : Int) (x97 : Int) : Option (List Int) := (iter (fun z182 => Zbw x97 z182.1 z182.2) big (p0, p2)).bind fun y183 => Zbv y183
def Zby (p0 : List Int) (p2 : Int) (p4_0 : List Int) (x79 : Int) (x80 : Int) : Option ((Int × Int) ⊕ (Int)) := cond (decide (x79 < x80)) ((getI p0 p2).bind fun e90 => (getI p0 (IntKind.i64.wrap (shrI .u64 (IntKind.u64.wrap (IntKind.i64.wrap (x79 + x80))) 1))).bind fun e92 => (Zbc e90 e92 p4_0).bind fun r94 => cond (decide (r94 < 0)) (some (.inl (x79, (IntKind.i64.wrap (shrI .u64 (IntKind.u64.wrap (IntKind.i64.wrap (x79 + x80))) 1))))) (some (.inl ((IntKind.i64.wrap ((IntKind.i64.wrap (shrI .u64 (IntKind.u64.wrap (IntKind.i64.wrap (x79 + x80))) 1)) + 1)), x80)))) (some (.inr x79))
def Zbz (p1 : Int) (p2 : Int) (p3 : Int) (p4_0 : List Int) (self_ : (List Int) → Int → Int → Int → (List Int) → Option (List Int)) (x160 : Int) (l172 : List Int) (x174 : Bool) : Option (List Int) := cond x174 ((self_ l172 (IntKind.i64.wrap (shrI .u64 (IntKind.u64.wrap (IntKind.i64.wrap (p1 + p3))) 1)) (IntKind.i64.wrap ((IntKind.i64.wrap ((IntKind.i64.wrap (shrI .u64 (IntKind.u64.wrap (IntKind.i64.wrap (p1 + p3))) 1)) + p2)) - x160)) p3 p4_0).bind fun r176 => some r176) (some l172)
def Zc0 (p1 : Int) (p2 : Int) (p3 : Int) (p4_0 : List Int) (self_ : (List Int) → Int → Int → Int → (List Int) → Option (List Int)) (x160 : Int) (l172 : List Int) : Option (List Int) := cond (decide ((IntKind.i64.wrap (shrI .u64 (IntKind.u64.wrap (IntKind.i64.wrap (p1 + p3))) 1)) < (IntKind.i64.wrap ((IntKind.i64.wrap ((IntKind.i64.wrap (shrI .u64 (IntKind.u64.wrap (IntKind.i64.wrap (p1 + p3))) 1)) + p2)) - x160)))) (Zbz p1 p2 p3 p4_0 self_ x160 l172 (decide ((IntKind.i64.wrap ((IntKind.i64.wrap ((IntKind.i64.wrap (shrI .u64 (IntKind.u64.wrap (IntKind.i64.wrap (p1 + p3))) 1)) + p2)) - x160)) < p3))) (Zbz p1 p2 p3 p4_0 self_ x160 l172 false)
def Zc1 (p1 : Int) (p2 : Int) (p3 : Int) (p4_0 : List Int) (self_ : (List Int) → Int → Int → Int → (List Int) → Option (List Int)) (x160 : Int) (l166 : List Int) (x168 : Bool) : Option (List Int) := cond x168 ((self_ l166 p1 x160 (IntKind.i64.wrap (shrI .u64 (IntKind.u64.wrap (IntKind.i64.wrap (p1 + p3))) 1)) p4_0).bind fun r170 => Zc0 p1 p2 p3 p4_0 self_ x160 r170) (Zc0 p1 p2 p3 p4_0 self_ x160 l166)
def Zc2 (p1 : Int) (p2 : Int) (p3 : Int) (p4_0 : List Int) (self_ : (List Int) → Int → Int → Int → (List Int) → Option (List Int)) (x160 : Int) (l166 : List Int) : Option (List Int) := cond (decide (p1 < x160)) (Zc1 p1 p2 p3 p4_0 self_ x160 l166 (decide (x160 < (IntKind.i64.wrap (shrI .u64 (IntKind.u64.wrap (IntKind.i64.wrap (p1 + p3))) 1))))) (Zc1 p1 p2 p3 p4_0 self_ x160 l166 false)
def Zc3 (p0 : List Int) (p1 : Int) (p2 : Int) (p3 : Int) (p4_0 : List Int) (self_ : (List Int) → Int → Int → Int → (List Int) → Option (List Int)) (x160 : Int) (x162 : Bool) : Option (List Int) := cond x162 ((Zbp p0 x160 p2 (IntKind.i64.wrap ((IntKind.i64.wrap ((IntKind.i64.wrap (shrI .u64 (IntKind.u64.wrap (IntKind.i64.wrap (p1 + p3))) 1)) + p2)) - x160)) p4_0).bind fun r164 => Zc2 p1 p2 p3 p4_0 self_ x160 r164) (Zc2 p1 p2 p3 p4_0 self_ x160 p0)
def Zc4 (p0 : List Int) (p1 : Int) (p2 : Int) (p3 : Int) (p4_0 : List Int) (self_ : (List Int) → Int → Int → Int → (List Int) → Option (List Int)) (x160 : Int) : Option (List Int) := cond (decide (x160 < p2)) (Zc3 p0 p1 p2 p3 p4_0 self_ x160 (decide (p2 < (IntKind.i64.wrap ((IntKind.i64.wrap ((IntKind.i64.wrap (shrI .u64 (IntKind.u64.wrap (IntKind.i64.wrap (p1 + p3))) 1)) + p2)) - x160))))) (Zc3 p0 p1 p2 p3 p4_0 self_ x160 false)
def Zc5 (p0 : List Int) (p1 : Int) (p2 : Int) (p3 : Int) (p4_0 : List Int) (x142 : Int) (x143 : Int) : Option ((Int × Int) ⊕ (Int)) := cond (decide (x142 < x143)) ((getI p0 (IntKind.i64.wrap ((IntKind.i64.wrap ((IntKind.i64.wrap ((IntKind.i64.wrap (shrI .u64 (IntKind.u64.wrap (IntKind.i64.wrap (p1 + p3))) 1)) + p2)) - 1)) - (IntKind.i64.wrap (shrI .u64 (IntKind.u64.wrap (IntKind.i64.wrap (x142 + x143))) 1))))).bind fun e153 => (getI p0 (IntKind.i64.wrap (shrI .u64 (IntKind.u64.wrap (IntKind.i64.wrap (x142 + x143))) 1))).bind fun e155 => (Zbc e153 e155 p4_0).bind fun r157 => cond (decide (r157 < 0)) (some (.inl (x142, (IntKind.i64.wrap (shrI .u64 (IntKind.u64.wrap (IntKind.i64.wrap (x142 + x143))) 1))))) (some (.inl ((IntKind.i64.wrap ((IntKind.i64.wrap (shrI .u64 (IntKind.u64.wrap (IntKind.i64.wrap (x142 + x143))) 1)) + 1)), x143)))) (some (.inr x142))
def Zc6 (p0 : List Int) (p1 : Int) (p2 : Int) (p3 : Int) (p4_0 : List Int) (self_ : (List Int) → Int → Int → Int → (List Int) → Option (List Int)) (x124 : Int) (x125 : Int) : Option (List Int) := (iter (fun z186 => Zc5 p0 p1 p2 p3 p4_0 z186.1 z186.2) big (x124, x125)).bind fun y187 => Zc4 p0 p1 p2 p3 p4_0 self_ y187
def Zc7 (self_ : (List Int) → Int → Int → Int → (List Int) → Option (List Int)) (p0 : List Int) (p1 : Int) (p2 : Int) (p3 : Int) (p4_0 : List Int) : Option (List Int) := cond ((IntKind.i64.wrap (p2 - p1)) == 1) ((iter (fun z180 => Zbu p0 p1 p4_0 z180.1 z180.2) big (p2, p3)).bind fun y181 => Zbt p0 p1 y181) (cond ((IntKind.i64.wrap (p3 - p2)) == 1) ((iter (fun z184 => Zby p0 p2 p4_0 z184.1 z184.2) big (p1, p2)).bind fun y185 => Zbx p0 p2 y185) (cond (decide (p2 > (IntKind.i64.wrap (shrI .u64 (IntKind.u64.wrap (IntKind.i64.wrap (p1 + p3))) 1)))) (Zc6 p0 p1 p2 p3 p4_0 self_ (IntKind.i64.wrap ((IntKind.i64.wrap ((IntKind.i64.wrap (shrI .u64 (IntKind.u64.wrap (IntKind.i64.wrap (p1 + p3))) 1)) + p2)) - p3)) (IntKind.i64.wrap (shrI .u64 (IntKind.u64.wrap (IntKind.i64.wrap (p1 + p3))) 1))) (Zc6 p0 p1 p2 p3 p4_0 self_ p1 p2)))
theorem Zc8 (self_ : (List Int) → Int → Int → Int → (List Int) → Option (List Int)) [hself_ : ∀ (p0 : List Int) (p1 : Int) (p2 : Int) (p3 : Int) (p4_0 : List Int), SpO Tryz.prog 220 (self_ p0 p1 p2 p3 p4_0) (.x fun (w00 : Value) => .x fun (b01 : Nat) => .d [cV w00, cI p1, cI p2, cI p3, C.clo 149 [pt b01]] [oA w00 3 kI64 1 p0, oB b01 44 [cM kI64 1 p4_0]] fun r => .d (C.tup []) [oA w00 3 kI64 1 r, oB b01 44 [cM kI64 1 p4_0]])] (p0 : List Int) (p1 : Int) (p2 : Int) (p3 : Int) (p4_0 : List Int) : SpO Tryz.prog 220 (Zc7 self_ p0 p1 p2 p3 p4_0) (.x fun (w00 : Value) => .x fun (b01 : Nat) => .d [cV w00, cI p1, cI p2, cI p3, C.clo 149 [pt b01]] [oA w00 3 kI64 1 p0, oB b01 44 [cM kI64 1 p4_0]] fun r => .d (C.tup []) [oA w00 3 kI64 1 r, oB b01 44 [cM kI64 1 p4_0]]) := ⟨fun w00 b01 => so Tryz.func220 rfl rfl fun r X h => gh (.b (.q 2 (.c1 (fun x36 => .d [(10, cI x36)] []) [0,1] [0,1] (.l2 (fun x18 x19 => .d [(10, cI x18), (11, cI x19)] []) [0,1,4] [0,1] (.b (.r [0] [4,8] [] [0,4,8,12,17,20,24,28,33,38,40] .z) .z)) (.c1 (fun l61 => .d [] [oA w00 3 kI64 1 l61]) [] [1] (.l2 (fun l48 x49 => .d [(13, cI x49)] [oA w00 3 kI64 1 l48]) [0,10] [1] (.b (.r [0,0] [9,13] [15,17] [0,4,8,12,16,20,24,28,32,37,40,44,48,53,56,63,64,71] (.w 16 .z)) .z)) .z))) (.b (.q 2 (.c1 (fun x97 => .d [(14, cI x97)] []) [0,2] [0,1] (.l2 (fun x79 x80 => .d [(14, cI x79), (15, cI x80)] []) [0,2,4] [0,1] (.b (.r [0] [4,8] [] [0,4,8,12,17,20,24,28,33,38,40,44] .z) .z)) (.c1 (fun l122 => .d [] [oA w00 3 kI64 1 l122]) [] [1] (.l2 (fun l109 x110 => .d [(17, cI x110)] [oA w00 3 kI64 1 l109]) [0,14] [1] (.b (.r [0,0] [9,13] [15,17] [0,4,8,12,16,20,24,28,32,37,40,44,48,53,56,63,64,71] (.w 16 .z)) .z)) .z))) (.q 3 (.c2 (fun x124 x125 => .d [(20, cI x124), (21, cI x125)] []) [0,1,2,3,4,18,19] [0,1] .z (.q 1 (.c1 (fun x160 => .d [(20, cI x160)] []) [0,1,2,3,4,18,19] [0,1] (.l2 (fun x142 x143 => .d [(20, cI x142), (21, cI x143)] []) [0,1,2,3,4,18,19,22] [0,1] (.b (.r [0] [6,10] [] [0,4,8,12,16,20,25,28,32,36,41,46,48,52] .z) .z)) (.q 1 (.c1 (fun l166 => .d [] [oA w00 3 kI64 1 l166]) [0,1,3,4,18,20,24] [1] (.c1 (fun x162 => .d [(185, C.bool x162)] []) [0,1,2,3,4,18,20,24] [0,1] .z .z) (.c1 (fun l172 => .d [] [oA w00 3 kI64 1 l172]) [0,3,4,18,24] [1] (.c1 (fun x168 => .d [(199, C.bool x168)] []) [0,1,3,4,18,20,24] [0,1] .z .z) (.c1 (fun x174 => .d [(213, C.bool x174)] []) [0,3,4,18,24] [0,1] .z .z))))))))))⟩
def Zc9 : Nat → (List Int) → Int → Int → Int → (List Int) → Option (List Int)
  | 0 => fun _ _ _ _ _ => none
  | n_ + 1 => Zc7 (Zc9 n_)
theorem Zca : ∀ (n_ : Nat) (p0 : List Int) (p1 : Int) (p2 : Int) (p3 : Int) (p4_0 : List Int), SpO Tryz.prog 220 (Zc9 n_ p0 p1 p2 p3 p4_0) (.x fun (w00 : Value) => .x fun (b01 : Nat) => .d [cV w00, cI p1, cI p2, cI p3, C.clo 149 [pt b01]] [oA w00 3 kI64 1 p0, oB b01 44 [cM kI64 1 p4_0]] fun r => .d (C.tup []) [oA w00 3 kI64 1 r, oB b01 44 [cM kI64 1 p4_0]])
  | 0, p0, p1, p2, p3, p4_0 => ⟨fun w00 b01 r h => nomatch h⟩
  | n_ + 1, p0, p1, p2, p3, p4_0 => @Zc8 (Zc9 n_) (Zca n_) p0 p1 p2 p3 p4_0
def Zcb (p0 : List Int) (p1 : Int) (p2 : Int) (p3 : Int) (p4_0 : List Int) : Option (List Int) := Zc9 big p0 p1 p2 p3 p4_0
instance Zcc (p0 : List Int) (p1 : Int) (p2 : Int) (p3 : Int) (p4_0 : List Int) : SpO Tryz.prog 220 (Zcb p0 p1 p2 p3 p4_0) (.x fun (w00 : Value) => .x fun (b01 : Nat) => .d [cV w00, cI p1, cI p2, cI p3, C.clo 149 [pt b01]] [oA w00 3 kI64 1 p0, oB b01 44 [cM kI64 1 p4_0]] fun r => .d (C.tup []) [oA w00 3 kI64 1 r, oB b01 44 [cM kI64 1 p4_0]]) := Zca big p0 p1 p2 p3 p4_0

def Zcd (x31 : Int) (l47 : List Int) : Option ((List Int × Int) ⊕ ((List Int))) := some (.inl (l47, (IntKind.i64.wrap (x31 * 2))))
def Zce (p1 : Int) (p2_0 : List Int) (x31 : Int) (l42 : List Int) (x43 : Int) : Option ((List Int × Int) ⊕ ((List Int))) := cond (decide ((IntKind.i64.wrap (x43 + x31)) < p1)) ((Zcb l42 x43 (IntKind.i64.wrap (x43 + x31)) p1 p2_0).bind fun r45 => Zcd x31 r45) (Zcd x31 l42)
def Zcf (p1 : Int) (p2_0 : List Int) (x31 : Int) (l36 : List Int) (x37 : Int) (x38 : Int) : Option ((List Int × Int × Int) ⊕ ((List Int × Int))) := cond (decide (x38 ≤ p1)) ((Zcb l36 x37 (IntKind.i64.wrap (x37 + x31)) x38 p2_0).bind fun r40 => some (.inl (r40, x38, (IntKind.i64.wrap (x38 + (IntKind.i64.wrap (2 * x31))))))) (some (.inr (l36, x37)))
def Zcg (p1 : Int) (p2_0 : List Int) (l30 : List Int) (x31 : Int) : Option ((List Int × Int) ⊕ ((List Int))) := cond (decide (x31 < p1)) ((iter (fun z48 => Zcf p1 p2_0 x31 z48.1 z48.2.1 z48.2.2) big (l30, 0, (IntKind.i64.wrap (2 * x31)))).bind fun (y49, y50) => Zce p1 p2_0 x31 y49 y50) (some (.inr l30))
def Zch (p1 : Int) (p2_0 : List Int) (l10 : List Int) (x11 : Int) : Option (List Int) := (Zbi l10 x11 p1 p2_0).bind fun r12 => (iter (fun z51 => Zcg p1 p2_0 z51.1 z51.2) big (r12, 20)).bind fun y52 => some y52
def Zci (p1 : Int) (p2_0 : List Int) (l4 : List Int) (x5 : Int) (x6 : Int) : Option ((List Int × Int × Int) ⊕ ((List Int × Int))) := cond (decide (x6 ≤ p1)) ((Zbi l4 x5 x6 p2_0).bind fun r8 => some (.inl (r8, x6, (IntKind.i64.wrap (x6 + 20))))) (some (.inr (l4, x5)))
def Zcj (p0 : List Int) (p1 : Int) (p2_0 : List Int) : Option (List Int) := (iter (fun z53 => Zci p1 p2_0 z53.1 z53.2.1 z53.2.2) big (p0, 0, 20)).bind fun (y54, y55) => Zch p1 p2_0 y54 y55
instance Zck (p0 : List Int) (p1 : Int) (p2_0 : List Int) : SpO Tryz.prog 187 (Zcj p0 p1 p2_0) (.x fun (w00 : Value) => .x fun (b01 : Nat) => .d [cV w00, cI p1, C.clo 149 [pt b01]] [oA w00 3 kI64 1 p0, oB b01 44 [cM kI64 1 p2_0]] fun r => .d (C.tup []) [oA w00 3 kI64 1 r, oB b01 44 [cM kI64 1 p2_0]]) := ⟨fun w00 b01 => so Tryz.func187 rfl rfl fun r X h => gh (.q 2 (.c2 (fun l10 x11 => .d [(7, cI x11)] [oA w00 3 kI64 1 l10]) [0,1,2,6] [1] (.l3 (fun l4 x5 x6 => .d [(7, cI x5), (8, cI x6)] [oA w00 3 kI64 1 l4]) [0,1,2,6] [1] .z) (.l2 (fun l30 x31 => .d [(6, cI x31)] [oA w00 3 kI64 1 l30]) [0,1,2] [1] (.b (.q 1 (.c2 (fun l42 x43 => .d [(7, cI x43)] [oA w00 3 kI64 1 l42]) [0,1,2,6] [1] (.l3 (fun l36 x37 x38 => .d [(7, cI x37), (8, cI x38)] [oA w00 3 kI64 1 l36]) [0,1,2,6] [1] .z) (.c1 (fun l47 => .d [] [oA w00 3 kI64 1 l47]) [0,1,2,6] [1] .z .z))) .z))))⟩

def Zcl (p0 : List Int) (p1_0 : List Int) : Option (List Int) := (Zcj p0 (p0.length : Int) p1_0).bind fun r1 => some r1
instance Zcm (p0 : List Int) (p1_0 : List Int) : SpO Tryz.prog 148 (Zcl p0 p1_0) (.x fun (w00 : Value) => .x fun (b01 : Nat) => .d [cV w00, C.clo 149 [pt b01]] [oA w00 3 kI64 1 p0, oB b01 44 [cM kI64 1 p1_0]] fun r => .d (C.tup []) [oA w00 3 kI64 1 r, oB b01 44 [cM kI64 1 p1_0]]) := ⟨fun w00 b01 => so Tryz.func148 rfl rfl fun r X h => gh .z⟩

def Zcn (l46 : List Int) : Option (List Int) := some l46
def Zco (p0 : Ya3) (r21 : List Int) (l34 : List Int) (x35 : Int) : Option ((List Int × Int) ⊕ ((List Int))) := cond (decide (x35 < (r21.length : Int))) ((getI r21 x35).bind fun e37 => (getI p0.events e37).bind fun e39 => (chk (decide ((l34.length + [e39.id].length) * 8 ≤ 140737488355328))).bind fun u43 => some (.inl ((l34 ++ [e39.id]), (IntKind.i64.wrap (x35 + 1))))) (some (.inr l34))
def Zcp (p0 : Ya3) (r2 : List Int × Bool) (l20 : List Int) : Option (List Int) := (Zcl l20 r2.1).bind fun r21 => (iter (fun z48 => Zco p0 r21 z48.1 z48.2) big (([] : List Int), 0)).bind fun y49 => Zcn y49
def Zcq (p0 : Ya3) (l12 : List Int) (x13 : Int) : Option ((List Int × Int) ⊕ ((List Int))) := cond (decide (x13 < (p0.events.length : Int))) ((chk (decide ((l12.length + [x13].length) * 8 ≤ 140737488355328))).bind fun u17 => some (.inl ((l12 ++ [x13]), (IntKind.i64.wrap (x13 + 1))))) (some (.inr l12))
def Zcr (p0 : Ya3) : Option (List Int) := (Zaq p0).bind fun r2 => (iter (fun z50 => Zcq p0 z50.1 z50.2) big (([] : List Int), 0)).bind fun y51 => Zcp p0 r2 y51
instance Zcs (p0 : Ya3) : SpO Tryz.prog 119 (Zcr p0) (.d [C.agg [cI p0.room, cM Yab 9 p0.events, cM Yab 9 p0.parked]] [] fun r => .x fun (v47 : Value) => .d (cV v47) [oA v47 2 kI64 1 r]) := ⟨so Tryz.func119 rfl rfl fun r X h => gh (.q 3 (.c1 (fun l20 => .x fun v19 => .d [(5, cV v19)] [oA v19 3 kI64 1 l20]) [1,3] [2,1] (.l2 (fun l12 x13 => .x fun v11 => .d [(5, cV v11), (19, cI x13)] [oA v11 3 kI64 1 l12]) [1,3,18] [2,1] .z) (.q 2 (.c1 (fun l46 => .x fun v45 => .d [(7, cV v45)] [oA v45 2 kI64 1 l46]) [] [] (.l2 (fun l34 x35 => .x fun v33 => .d [(7, cV v33), (33, cI x35)] [oA v33 2 kI64 1 l34]) [1,31,32] [3,1] .z) .z))))⟩
instance Zcs' (p0 : Ya3) : Sp Tryz.prog 119 [C.agg [cI p0.room, cM Yab 9 p0.events, cM Yab 9 p0.parked]] (Zcr p0) (fun r => cM kI64 1 r) := ⟨fun r h => Ok.freeze ((Zcs p0).h r h) (by rintro c qs ⟨v47, rfl, rfl⟩; exact Frz.arr)⟩

def Zct (p0 : Ya3) (p1 : Int) : Option (Y9z × Bool) := (Za5 p0.events p1).bind fun r3 => cond r3.2 ((getI p0.events r3.1).bind fun e6 => some (e6, true)) (some ((Y9z.mk 0 0 0 0 0 0 ByteArray.empty [] 0), false))
instance Zcu (p0 : Ya3) (p1 : Int) : Sp Tryz.prog 81 [C.agg [cI p0.room, cM Yab 9 p0.events, cM Yab 9 p0.parked], cI p1] (Zct p0 p1) (fun r => C.tup [C.agg [cI r.1.id, cI r.1.room, cI r.1.author, cI r.1.kind, cI r.1.key, cI r.1.n, C.str r.1.text, cM kI64 1 r.1.prev, cI r.1.time], C.bool r.2]) := Sp.of (so Tryz.func81 rfl rfl fun r X h => gh .z)

def Zcv (l20 : List (List Ya5)) : Option (List (List Ya5)) := some l20
def Zcw (p0 : Ya9) (p1 : List Int) (l10 : List (List Ya5)) (x11 : Int) : Option ((List (List Ya5) × Int) ⊕ ((List (List Ya5)))) := cond (decide (x11 < (p1.length : Int))) ((getI p1 x11).bind fun e13 => (chk (decide ((l10.length + [(Option.getD (mget p0.after e13) ([] : List Ya5))].length) * 24 ≤ 140737488355328))).bind fun u17 => some (.inl ((l10 ++ [(Option.getD (mget p0.after e13) ([] : List Ya5))]), (IntKind.i64.wrap (x11 + 1))))) (some (.inr l10))
def Zcx (p0 : Ya9) (p1 : List Int) : Option (List (List Ya5)) := (iter (fun z22 => Zcw p0 p1 z22.1 z22.2) big (([] : List (List Ya5)), 0)).bind fun y23 => Zcv y23
instance Zcy (p0 : Ya9) (p1 : List Int) : SpO Tryz.prog 152 (Zcx p0 p1) (.x fun (b00 : Nat) => .x fun (b01 : Nat) => .x fun (b02 : Nat) => .x fun (b03 : Nat) => .x fun (b04 : Nat) => .d [pt b00, cM kI64 1 p1] [oB b00 136 [cI p0.graph.room, cM Yab 9 p0.graph.events, cM Yab 9 p0.graph.parked, mt b01, mt b02, mt b03, mt b04], Abs.Obj.map b01 .i64 Yap p0.depth, Abs.Obj.map b02 .i64 Yaq p0.before, Abs.Obj.map b03 .i64 Yaq p0.after, Abs.Obj.map b04 .i64 Yap p0.refused] fun r => .x fun (v21 : Value) => .d (cV v21) [oA v21 159 Yak 1 r, oB b00 136 [cI p0.graph.room, cM Yab 9 p0.graph.events, cM Yab 9 p0.graph.parked, mt b01, mt b02, mt b03, mt b04], Abs.Obj.map b01 .i64 Yap p0.depth, Abs.Obj.map b02 .i64 Yaq p0.before, Abs.Obj.map b03 .i64 Yaq p0.after, Abs.Obj.map b04 .i64 Yap p0.refused]) := ⟨fun b00 b01 b02 b03 b04 => so Tryz.func152 rfl rfl fun r X h => gh (.q 2 (.c1 (fun l20 => .x fun v19 => .d [(5, cV v19)] [oA v19 159 Yak 1 l20]) [] [1,2,3,4,5] (.l2 (fun l10 x11 => .x fun v9 => .d [(5, cV v9), (11, cI x11)] [oA v9 159 Yak 1 l10]) [0,9,10] [1,2,3,4,5] .z) .z))⟩

def Zcz : Option Int := some (-1)
def Zd0 (p0 : List Ya5) (p1 : Ya5) (x6 : Int) : Option (Int ⊕ (Int ⊕ Unit)) := cond (decide (x6 < (p0.length : Int))) ((getI p0 x6).bind fun e8 => cond ((p1.kind == e8.kind) && ((p1.key == e8.key) && ((p1.id == e8.id) && true))) (some (.inr (.inl x6))) (some (.inl (IntKind.i64.wrap (x6 + 1))))) (some (.inr (.inr ())))
def Zd1 (p0 : List Ya5) (p1 : Ya5) : Option Int := (iter (Zd0 p0 p1) big 0).bind (fun z12 => match z12 with | .inl y11 => some y11 | .inr () => Zcz)
instance Zd2 (p0 : List Ya5) (p1 : Ya5) : Sp Tryz.prog 222 [cM Yaj 3 p0, C.agg [cI p1.kind, cI p1.key, cI p1.id]] (Zd1 p0 p1) (fun r => cI r) := Sp.of (so Tryz.func222 rfl rfl fun r X h => gh (.q 1 (.c0 (.d [] []) [] [] (.l1 (fun x6 => .d [(8, cI x6)] []) [0,3,7] [0] (.b (.r [0] [0,4] [] [1,4,8,12,17,20] .z) .z)) .z)))

def Zd3 (p0 : List Ya5) (p1 : Ya5) : Option Bool := (Zd1 p0 p1).bind fun r2 => some (decide (r2 ≥ 0))
instance Zd4 (p0 : List Ya5) (p1 : Ya5) : Sp Tryz.prog 191 [cM Yaj 3 p0, C.agg [cI p1.kind, cI p1.key, cI p1.id]] (Zd3 p0 p1) (fun r => C.bool r) := Sp.of (so Tryz.func191 rfl rfl fun r X h => gh .z)

def Zd5 (x6 : Bool) : Option Bool := some x6
def Zd6 (p0 : Y9z) : Option Bool := cond (p0.kind == 1) (Zd5 true) (cond (p0.kind == 3) (Zd5 true) (cond (p0.kind == 5) (Zd5 true) (cond (p0.kind == 2) (Zd5 (p0.key != p0.author)) (Zd5 false))))
instance Zd7 (p0 : Y9z) : Sp Tryz.prog 194 [C.agg [cI p0.id, cI p0.room, cI p0.author, cI p0.kind, cI p0.key, cI p0.n, C.str p0.text, cM kI64 1 p0.prev, cI p0.time]] (Zd6 p0) (fun r => C.bool r) := Sp.of (so Tryz.func194 rfl rfl fun r X h => gh (.q 1 (.c1 (fun x6 => .d [(2, C.bool x6)] []) [] [] .z .z)))

def Zd8 : Option Int := some 0
def Zd9 (p0 : List Int) (x5 : Int) : Option (Int ⊕ (Int ⊕ Unit)) := cond (decide (x5 < (p0.length : Int))) ((getI p0 x5).bind fun e7 => cond (e7 != 0) (some (.inr (.inl e7))) (some (.inl (IntKind.i64.wrap (x5 + 1))))) (some (.inr (.inr ())))
def Zda (p0 : List Int) : Option Int := (iter (Zd9 p0) big 0).bind (fun z11 => match z11 with | .inl y10 => some y10 | .inr () => Zd8)
instance Zdb (p0 : List Int) : Sp Tryz.prog 195 [cM kI64 1 p0] (Zda p0) (fun r => cI r) := Sp.of (so Tryz.func195 rfl rfl fun r X h => gh (.q 2 (.c0 (.d [] []) [3] [] (.l1 (fun x5 => .d [(8, cI x5)] []) [3,6,7] [] .z) .z)))

def Zdc (p0 : Ya5) (p1 : Ya5) : Option Int := (Z9w p0.kind p1.kind).bind fun r3 => (Z9w p0.key p1.key).bind fun r5 => (Zda [r3, r5]).bind fun r8 => some r8
instance Zdd (p0 : Ya5) (p1 : Ya5) : Sp Tryz.prog 226 [C.agg [cI p0.kind, cI p0.key, cI p0.id], C.agg [cI p1.kind, cI p1.key, cI p1.id]] (Zdc p0 p1) (fun r => cI r) := Sp.of (so Tryz.func226 rfl rfl fun r X h => gh (.r [0,0] [1,3,6,8] [] [0,5,8,13,20,25,28,33,18,38,42,46,48] .z))

def Zde (x16 : Int) (x22 : Bool) : Option (Int × Bool) := some (x16, x22)
def Zdf (p0 : List Ya5) (p1 : Ya5) (x16 : Int) : Option (Int × Bool) := cond (decide (x16 < (p0.length : Int))) ((getI p0 x16).bind fun e18 => (Zdc e18 p1).bind fun r20 => Zde x16 (r20 == 0)) (Zde x16 false)
def Zdg (p0 : List Ya5) (p1 : Ya5) (x8 : Int) (x9 : Int) : Option ((Int × Int) ⊕ (Int)) := cond (decide (x8 < x9)) ((getI p0 (IntKind.i64.wrap (shrI .u64 (IntKind.u64.wrap (IntKind.i64.wrap (x8 + x9))) 1))).bind fun e11 => (Zdc e11 p1).bind fun r13 => cond (decide (r13 < 0)) (some (.inl ((IntKind.i64.wrap ((IntKind.i64.wrap (shrI .u64 (IntKind.u64.wrap (IntKind.i64.wrap (x8 + x9))) 1)) + 1)), x9))) (some (.inl (x8, (IntKind.i64.wrap (shrI .u64 (IntKind.u64.wrap (IntKind.i64.wrap (x8 + x9))) 1)))))) (some (.inr x8))
def Zdh (p0 : List Ya5) (p1 : Ya5) : Option (Int × Bool) := (iter (fun z23 => Zdg p0 p1 z23.1 z23.2) big (0, (p0.length : Int))).bind fun y24 => Zdf p0 p1 y24
instance Zdi (p0 : List Ya5) (p1 : Ya5) : Sp Tryz.prog 225 [cM Yaj 3 p0, C.agg [cI p1.kind, cI p1.key, cI p1.id], cV (.func (.func 226) #[] #[])] (Zdh p0 p1) (fun r => C.tup [cI r.1, C.bool r.2]) := Sp.of (so Tryz.func225 rfl rfl fun r X h => gh (.q 3 (.c1 (fun x16 => .d [(9, cI x16)] []) [0,2,4,8] [0] (.l2 (fun x8 x9 => .d [(9, cI x8), (10, cI x9)] []) [0,2,4,8] [0] (.b (.r [0] [4,5] [] [0,4,8,12,17,21,26,28] .z) .z)) (.e 9 cI fun x16 => .c1 (fun x22 => .d [(6, cI x16), (7, C.bool x22)] []) [] [] (.r [0] [9,10] [] [0,4,8,12,16,20,24,28,32,37,41,46,48,52,56,60] .z) .z))))

def Zdj (p0 : List Ya5) (p1 : Ya5) : Option (Int × Bool) := (Zdh p0 p1).bind fun r2 => some (r2.1, r2.2)
instance Zdk (p0 : List Ya5) (p1 : Ya5) : Sp Tryz.prog 201 [cM Yaj 3 p0, C.agg [cI p1.kind, cI p1.key, cI p1.id]] (Zdj p0 p1) (fun r => C.tup [cI r.1, C.bool r.2]) := Sp.of (so Tryz.func201 rfl rfl fun r X h => gh .z)

def Zdl (p0 : List Ya5) (p1 : Int) (p2 : Int) : Option Int := (Zdj p0 (Ya5.mk p1 p2 0)).bind fun r1 => cond r1.2 ((getI p0 r1.1).bind fun e4 => some e4.id) (some 0)
instance Zdm (p0 : List Ya5) (p1 : Int) (p2 : Int) : Sp Tryz.prog 204 [cM Yaj 3 p0, cI p1, cI p2] (Zdl p0 p1 p2) (fun r => cI r) := Sp.of (so Tryz.func204 rfl rfl fun r X h => gh .z)

def Zdn (p0 : Ya3) (p1 : List Ya5) (p2 : Int) (p3 : Int) : Option (Y9z × Bool) := (Zdl p1 p2 p3).bind fun r3 => (Zct p0 r3).bind fun r5 => some (r5.1, r5.2)
instance Zdo (p0 : Ya3) (p1 : List Ya5) (p2 : Int) (p3 : Int) : Sp Tryz.prog 159 [C.agg [cI p0.room, cM Yab 9 p0.events, cM Yab 9 p0.parked], cM Yaj 3 p1, cI p2, cI p3] (Zdn p0 p1 p2 p3) (fun r => C.tup [C.agg [cI r.1.id, cI r.1.room, cI r.1.author, cI r.1.kind, cI r.1.key, cI r.1.n, C.str r.1.text, cM kI64 1 r.1.prev, cI r.1.time], C.bool r.2]) := Sp.of (so Tryz.func159 rfl rfl fun r X h => gh (.r [0,0] [0] [8] [1,4,8,12,18,22,24,28,35,36] .z))

def Zdp (p0 : Ya3) (p1 : List Ya5) (p2 : Int) : Option Int := (Zdn p0 p1 2 p2).bind fun r2 => some r2.1.n
instance Zdq (p0 : Ya3) (p1 : List Ya5) (p2 : Int) : Sp Tryz.prog 124 [C.agg [cI p0.room, cM Yab 9 p0.events, cM Yab 9 p0.parked], cM Yaj 3 p1, cI p2] (Zdp p0 p1 p2) (fun r => cI r) := Sp.of (so Tryz.func124 rfl rfl fun r X h => gh .z)

def Zdr (x10 : Bool) : Option Int := cond x10 (some 100) (some 0)
def Zds (p0 : Ya3) (p1 : List Ya5) (p2 : Int) : Option Int := (Zdn p0 p1 3 p2).bind fun r2 => cond r2.2 (some r2.1.n) ((Zdn p0 p1 1 0).bind fun r6 => cond r6.2 (Zdr (r6.1.author == p2)) (Zdr false))
instance Zdt (p0 : Ya3) (p1 : List Ya5) (p2 : Int) : Sp Tryz.prog 196 [C.agg [cI p0.room, cM Yab 9 p0.events, cM Yab 9 p0.parked], cM Yaj 3 p1, cI p2] (Zds p0 p1 p2) (fun r => cI r) := Sp.of (so Tryz.func196 rfl rfl fun r X h => gh (.b .z (.q 2 (.c1 (fun x10 => .d [(33, C.bool x10)] []) [] [] .z .z))))

def Zdu (p0 : Bool) : Option Int := cond p0 (some 11) (some 0)
instance Zdv (p0 : Bool) : Sp Tryz.prog 199 [C.bool p0] (Zdu p0) (fun r => cI r) := Sp.of (so Tryz.func199 rfl rfl fun r X h => gh .z)

def Zdw (x23 : Int) : Option Int := some x23
def Zdx (p0 : Ya3) (p1 : List Ya5) (p2 : Y9z) (p3 : Int) (x4 : Bool) : Option Int := cond (p2.n == 1) ((Zdn p0 p1 5 0).bind fun r6 => (Zdn p0 p1 1 0).bind fun r9 => cond (p3 == 3) ((Zdu true).bind fun r13 => Zdw r13) (cond x4 ((Zdu false).bind fun r16 => Zdw r16) (cond (r6.1.n != 1) ((Zdu (r9.1.author != p2.author)).bind fun r19 => Zdw r19) ((Zdu false).bind fun r21 => Zdw r21)))) (cond (p2.n == 2) ((Zdu (!x4)).bind fun r25 => some r25) (some 11))
def Zdy (p0 : Ya3) (p1 : List Ya5) (p2 : Y9z) (p3 : Int) : Option Int := cond (p3 == 1) (Zdx p0 p1 p2 p3 true) (Zdx p0 p1 p2 p3 (p3 == 4))
instance Zdz (p0 : Ya3) (p1 : List Ya5) (p2 : Y9z) (p3 : Int) : Sp Tryz.prog 197 [C.agg [cI p0.room, cM Yab 9 p0.events, cM Yab 9 p0.parked], cM Yaj 3 p1, C.agg [cI p2.id, cI p2.room, cI p2.author, cI p2.kind, cI p2.key, cI p2.n, C.str p2.text, cM kI64 1 p2.prev, cI p2.time], cI p3] (Zdy p0 p1 p2 p3) (fun r => cI r) := Sp.of (so Tryz.func197 rfl rfl fun r X h => gh (.q 1 (.c1 (fun x4 => .d [(9, C.bool x4)] []) [1,3,4,6] [1,0] .z (.b (.q 2 (.c1 (fun x23 => .d [(8, cI x23)] []) [] [] .z .z)) .z))))

def Ze0 (x15 : Int) : Option Int := some x15
def Ze1 (x25 : Int) : Option Int := some x25
def Ze2 (x32 : Int) : Option Int := some x32
def Ze3 (p2 : Y9z) (r3 : Int) (x8 : Bool) : Option Int := cond (p2.n == 4) (cond (r3 == 1) ((Zdu true).bind fun r11 => Ze0 r11) ((Zdu (r3 == 3)).bind fun r13 => Ze0 r13)) (cond (p2.n == 2) (cond x8 ((Zdu true).bind fun r18 => Ze1 r18) (cond (r3 == 0) ((Zdu true).bind fun r21 => Ze1 r21) ((Zdu (r3 == 2)).bind fun r23 => Ze1 r23))) (cond (p2.n == 3) (cond x8 ((Zdu true).bind fun r28 => Ze2 r28) ((Zdu (r3 == 3)).bind fun r30 => Ze2 r30)) (some 11)))
def Ze4 (p0 : Ya3) (p1 : List Ya5) (p2 : Y9z) (p3 : Int) : Option Int := (Zdp p0 p1 p2.key).bind fun r3 => (Zds p0 p1 p2.key).bind fun r5 => cond (decide (p3 < 50)) (Ze3 p2 r3 true) (Ze3 p2 r3 (decide (p3 ≤ r5)))
instance Ze5 (p0 : Ya3) (p1 : List Ya5) (p2 : Y9z) (p3 : Int) : Sp Tryz.prog 198 [C.agg [cI p0.room, cM Yab 9 p0.events, cM Yab 9 p0.parked], cM Yaj 3 p1, C.agg [cI p2.id, cI p2.room, cI p2.author, cI p2.kind, cI p2.key, cI p2.n, C.str p2.text, cM kI64 1 p2.prev, cI p2.time], cI p3] (Ze4 p0 p1 p2 p3) (fun r => cI r) := Sp.of (so Tryz.func198 rfl rfl fun r X h => gh (.r [0,0] [0,3,5,8] [] [1,4,8,13,21,24,28,33,18,38,40,44] (.c1 (fun x8 => .d [(11, C.bool x8)] []) [6,9] [0] .z (.b (.c1 (fun x15 => .d [(8, cI x15)] []) [] [] .z .z) (.b (.c1 (fun x25 => .d [(8, cI x25)] []) [] [] .z .z) (.b (.c1 (fun x32 => .d [(8, cI x32)] []) [] [] .z .z) .z))))))

def Ze6 (x38 : Int) : Option Int := some x38
def Ze7 (x55 : Int) : Option Int := some x55
def Ze8 (p0 : Ya3) (p2 : Y9z) (r8 : Int) (x41 : Bool) : Option Int := cond x41 ((Zdu (decide (r8 < 50))).bind fun r43 => some r43) (cond (p2.kind == 8) ((Zct p0 p2.key).bind fun r46 => cond r46.2 (cond (decide (r8 < 50)) ((Zdu (r46.1.author != p2.author)).bind fun r51 => Ze7 r51) ((Zdu false).bind fun r53 => Ze7 r53)) (some 6)) (some 0))
def Ze9 (p0 : Ya3) (p1 : List Ya5) (p2 : Y9z) (r6 : Int) (r8 : Int) (x16 : Bool) : Option Int := cond x16 ((Zdy p0 p1 p2 r6).bind fun r18 => some r18) (cond (r6 != 1) (some 11) (cond (p2.kind == 2) ((Ze4 p0 p1 p2 r8).bind fun r22 => some r22) (cond (p2.kind == 3) (cond (decide (r8 < 50)) ((Zdu true).bind fun r26 => Ze6 r26) (cond (decide (p2.n > r8)) ((Zdu true).bind fun r29 => Ze6 r29) (cond (p2.key != p2.author) ((Zds p0 p1 p2.key).bind fun r32 => (Zdu (decide (r32 ≥ r8))).bind fun r34 => Ze6 r34) ((Zdu false).bind fun r36 => Ze6 r36)))) (cond (p2.kind == 4) (Ze8 p0 p2 r8 (p2.kind == 4)) (cond (p2.kind == 5) (Ze8 p0 p2 r8 (p2.kind == 5)) (Ze8 p0 p2 r8 (p2.kind == 6)))))))
def Zea (p0 : Ya3) (p1 : List Ya5) (p2 : Y9z) (r3 : Y9z × Bool) (r6 : Int) (r8 : Int) (x11 : Bool) : Option Int := cond x11 (some 7) (cond (p2.kind == 1) (some 0) (cond r3.2 (cond (p2.kind == 2) (Ze9 p0 p1 p2 r6 r8 (p2.key == p2.author)) (Ze9 p0 p1 p2 r6 r8 false)) (some 10)))
def Zeb (p0 : Ya3) (p1 : List Ya5) (p2 : Y9z) : Option Int := (Zdn p0 p1 1 0).bind fun r3 => (Zdp p0 p1 p2.author).bind fun r6 => (Zds p0 p1 p2.author).bind fun r8 => cond (p2.kind == 1) (Zea p0 p1 p2 r3 r6 r8 r3.2) (Zea p0 p1 p2 r3 r6 r8 false)
instance Zec (p0 : Ya3) (p1 : List Ya5) (p2 : Y9z) : Sp Tryz.prog 153 [C.agg [cI p0.room, cM Yab 9 p0.events, cM Yab 9 p0.parked], cM Yaj 3 p1, C.agg [cI p2.id, cI p2.room, cI p2.author, cI p2.kind, cI p2.key, cI p2.n, C.str p2.text, cM kI64 1 p2.prev, cI p2.time]] (Zeb p0 p1 p2) (fun r => cI r) := Sp.of (so Tryz.func153 rfl rfl fun r X h => gh (.r [0,0,0] [0,3,5,8] [] [1,4,8,13,21,24,28,33,18,38,40,44] (.q 1 (.c1 (fun x11 => .d [(29, C.bool x11)] []) [1,3,5,8,9,10] [2,1] .z (.b .z (.b .z (.b (.c1 (fun x16 => .d [(43, C.bool x16)] []) [1,3,5,9,10] [0,1] .z (.b .z (.b .z (.b .z (.b (.c1 (fun x38 => .d [(6, cI x38)] []) [] [] .z .z) (.c1 (fun x41 => .d [(98, C.bool x41)] []) [3,5,10,63] [0,1] .z (.b .z (.b (.b (.c1 (fun x55 => .d [(6, cI x55)] []) [] [] .z .z) .z) .z)))))))) .z)))))))

def Zed (p0 : List Ya5) : Option (List Ya5) := (chk (decide (p0.length * 24 ≤ 140737488355328))).bind fun _ => some p0
theorem Zee (p0 : List Ya5) (r : List Ya5) (h : Zed p0 = some r) : Ok Tryz.prog 200 [cM Yaj 3 p0] [] (fun c qs => ∃ (v : Value), c = cV v ∧ qs = [oA v 194 Yaj 3 r]) := by
 refine ob' h fun u hc h => ?_
 obtain rfl := Wj h
 have hc := Wo (Y45 hc)
 refine Ok.of_body (rs := [.tmp 2]) Tryz.func200 rfl rfl rfl rfl rfl fun X => ?_
 refine zw ?_
 refine Ops.h (ns := []) rfl rfl (Y61 Yd1.h rfl rfl) ?_
 rintro _ _ ⟨b, hb, rfl, rfl⟩
 refine zw ?_
 refine tf' b (fun hq => ?_) (fun hq => ?_)
 ·
  refine AW.cond rfl (fun _ => ?_) (fun hn => absurd (hq.symm.trans hn) (by decide))
  refine zw ?_
  refine AW.ret ?_
  obtain rfl := hb hq
  exact finI ⟨[cV s0], _, Y25.nil 194 Yaj 3, .cons (.tmp rfl) .nil, [0], _, _, rfl, ⟨_, rfl, rfl⟩⟩
 refine AW.cond rfl (fun hn => absurd (hq.symm.trans hn) (by decide)) (fun _ => ?_)
 refine zw ?_
 refine Ops.h (ns := []) rfl rfl (Y3l (k := Yaj) (ys := ([] : List Ya5)) Yd7 .nil rfl rfl rfl) ?_
 rintro _ _ ⟨b1, rfl, rfl⟩
 refine zw ?_
 refine Ops.h (ns := [0]) rfl rfl (Y33 Yd7 rfl rfl (by simpa using hc) (by simp; omega) rfl) ?_
 rintro _ _ ⟨v, rfl, rfl⟩
 refine zw ?_
 refine AW.ret ?_
 exact finI ⟨[cV v], _, Y25.refl _, .cons (.tmp rfl) .nil, [0], _, _, rfl, ⟨v, rfl, rfl⟩⟩
instance Zee' (p0 : List Ya5) : Sp Tryz.prog 200 [cM Yaj 3 p0] (Zed p0) (fun r => cM Yaj 3 r) := ⟨fun r h => Ok.freeze (Zee p0 r h) (by rintro c qs ⟨v, rfl, rfl⟩; exact Frz.arr)⟩
instance Zef (p0 : List Ya5) : SpO Tryz.prog 200 (Zed p0) (.d [cM Yaj 3 p0] [] fun r => .x fun (v : Value) => .d (cV v) [oA v 194 Yaj 3 r]) := ⟨fun r h => Zee p0 r h⟩

def Zeg (p0 : List Ya5) (p1 : Int) (p2 : Int) : Option (List Ya5) := delI p0 p1 p2
theorem Zeh {w1 : Value} (p0 : List Ya5) (p1 : Int) (p2 : Int) (r : List Ya5) (h : Zeg p0 p1 p2 = some r) : Ok Tryz.prog 202 [cV w1, cI p1, cI p2] [oA w1 194 Yaj 3 p0] (fun c qs => ∃ (v : Value), c = cV v ∧ qs = [oA v 194 Yaj 3 r]) := by
 obtain ⟨a, b, rfl, rfl, hij, hj, rfl⟩ := Y7x h
 refine Ok.of_body (rs := [.tmp 6]) Tryz.func202 rfl rfl rfl rfl rfl fun X => ?_
 refine AW.learn (Sim.arr_cap (p := 0) rfl) fun hw => ?_
 obtain ⟨A, cap, rfl, hc, _, _⟩ := hw
 refine zw ?_
 refine Ops.v rfl (Y7y (p := 0) Yd1.h rfl rfl rfl rfl rfl hij hj rfl) ?_
 refine zw ?_
 refine tf' (((a : Nat) : Int) == ((b : Nat) : Int)) (fun hq => ?_) (fun hq => ?_)
 ·
  refine AW.cond rfl (fun _ => ?_) (fun hn => absurd (hq.symm.trans hn) (by decide))
  refine zw ?_
  refine AW.ret ?_
  obtain rfl : a = b := by have := eq_of_beq hq; omega
  rw [List.take_append_drop]
  exact finI ⟨[cV (.slice A p0.length cap)], _, Y25.refl _, .cons (.tmp rfl) .nil, [0], _, _, rfl, ⟨_, rfl, rfl⟩⟩
 refine AW.cond rfl (fun hn => absurd (hq.symm.trans hn) (by decide)) (fun _ => ?_)
 refine zw ?_
 refine rD [] [] [] [0,4,8,12,16,20,26,28] ?_
 refine zw ?_
 refine OpsD.v rfl rfl (Y82 Yd1.h rfl rfl (by omega) hc rfl) ?_
 refine zw ?_
 refine OpsD.v rfl rfl (Y81 Yd1.h rfl rfl hj hc rfl) ?_
 refine OpsD.one ?_
 refine Y3z.h (ns := [0]) rfl rfl rfl (Y7z (v := .slice A p0.length cap) Yd7 rfl rfl hij hj rfl) ?_
 rintro _ _ ⟨rfl, rfl⟩
 refine zw ?_
 refine Ops.v rfl (Y2j Yd1.h rfl rfl) ?_
 refine zw ?_
 refine Ops.v rfl (Y80 (p := 0) (h := p0.length) (v := .slice A p0.length cap) (l := a + (p0.length - b)) Yd1.h rfl rfl rfl rfl (by omega) (by simp; omega) rfl) ?_
 refine Ops.h (ns := [0]) rfl rfl (Y7u (v := .slice A p0.length cap) (l := a + (p0.length - b)) (z := (Ya5.mk 0 0 0)) Yd7 Yde (Y4e rfl rfl) rfl (by simp <;> omega)) ?_
 rintro _ _ ⟨rfl, rfl⟩
 refine zw ?_
 refine AW.ret ?_
 exact finI ⟨[cV (Y7k (.slice A p0.length cap) (a + (p0.length - b)))], _, Y25.prefix (p := 0) (h := a + (p0.length - b)) rfl (by simp; omega), .cons (.tmp rfl) .nil, [0], _, _, rfl, ⟨_, rfl, by rw [Y83 hij hj]⟩⟩
instance Zei (p0 : List Ya5) (p1 : Int) (p2 : Int) : SpO Tryz.prog 202 (Zeg p0 p1 p2) (.x fun (w1 : Value) => .d [cV w1, cI p1, cI p2] [oA w1 194 Yaj 3 p0] fun r => .x fun (v : Value) => .d (cV v) [oA v 194 Yaj 3 r]) := ⟨fun w1 r h => Zeh p0 p1 p2 r h⟩

def Zej (p0 : List Ya5) (p1 : Int) (p2 : List Ya5) : Option (List Ya5) := insI 24 p0 p1 p2
theorem Zek {w1 w2 : Value} (p0 : List Ya5) (p1 : Int) (p2 : List Ya5) (r : List Ya5) (h : Zej p0 p1 p2 = some r) : Ok Tryz.prog 203 [cV w1, cI p1, cV w2] [oA w1 194 Yaj 3 p0, oA w2 194 Yaj 3 p2] (fun c qs => ∃ (v : Value), c = cV v ∧ qs = [oA v 194 Yaj 3 r]) := by
 obtain ⟨i, rfl, hi, hm, hb, rfl⟩ := Y5i h
 refine Ok.of_body (rs := [.tmp 6]) Tryz.func203 rfl rfl rfl rfl rfl fun X => ?_
 refine AW.learn (Sim.arr_cap (p := 0) rfl) fun hw => ?_
 obtain ⟨A, cap, rfl, hc, hmax, hA⟩ := hw
 have hmax0 := hmax
 simp only [maxLen] at hmax
 refine zw ?_
 refine Ops.v rfl (Y5g Yd1.h rfl rfl hi hc rfl) ?_
 refine zw ?_
 refine AW.cond rfl (fun hn => absurd ((beq_false_of_ne (by omega)).symm.trans hn) (by decide)) (fun _ => ?_)
 refine zw ?_
 refine tf' (((i : Nat) : Int) == (p0.length : Int)) (fun hq => ?_) (fun hq => ?_)
 ·
  refine AW.cond rfl (fun _ => ?_) (fun hn => absurd (hq.symm.trans hn) (by decide))
  refine zw ?_
  refine Ops.h (ns := [0, 0]) rfl rfl (Y34 Yd7 rfl rfl hb (by omega) rfl) ?_
  rintro _ _ ⟨v, rfl, rfl⟩
  refine zw ?_
  refine AW.ret ?_
  obtain rfl : i = p0.length := by have := eq_of_beq hq; omega
  rw [List.take_of_length_le (Nat.le_refl _), List.drop_of_length_le (Nat.le_refl _), List.append_nil]
  exact finI ⟨[cV v], _, Y25.refl _, .cons (.tmp rfl) .nil, [0], _, _, rfl, ⟨v, rfl, rfl⟩⟩
 have hlt : i < p0.length := by have := ne_of_beq_false hq; omega
 obtain ⟨b, rfl⟩ := hA.resolve_left (fun e => by rw [e.1] at hlt; exact absurd hlt (Nat.not_lt_zero _))
 refine AW.ghost (Y25.raw (p := 0) rfl) ?_
 rw [← Y5f b 3 p0.length cap]
 refine AW.cond rfl (fun hn => absurd (hq.symm.trans hn) (by decide)) (fun _ => ?_)
 refine AW.skip ?_
 refine AW.seq ?_
 refine AW.seq ?_
 refine AW.region ?_
 refine Ops.v rfl (Yr rfl rfl) ?_
 refine Ops.v rfl (Yr rfl rfl) ?_
 refine Ops.v rfl (Yx (r := .int .i64 ((p0.length + p2.length : Nat) : Int)) rfl rfl (Y5n (by omega) (by omega)) rfl) ?_
 refine zw ?_
 refine Ops.v rfl (Y56 Yd1.h rfl rfl) ?_
 refine zw ?_
 refine tf' (decide (((p0.length + p2.length : Nat) : Int) > (cap : Int))) (fun hg => ?_) (fun hg => ?_)
 ·
  have hg1 := Wo hg
  refine AW.cond rfl (fun _ => ?_) (fun hn => absurd (hg.symm.trans hn) (by decide))
  refine zw ?_
  refine Ops.v rfl (Y55 Yd1.h rfl rfl (by omega) (by omega) rfl) ?_
  refine Ops.v rfl (Yr rfl rfl) ?_
  refine Ops.v rfl (Yr rfl rfl) ?_
  refine Ops.v rfl (Yx (r := .int .i64 ((p0.length + p2.length : Nat) : Int)) rfl rfl (Y5n (by omega) (by omega)) rfl) ?_
  refine Ops.v rfl (Yr rfl rfl) ?_
  refine Ops.v rfl (Yx (r := .int .i64 ((p0.length + p2.length - i : Nat) : Int)) rfl rfl (Y5o (by omega) (by omega)) rfl) ?_
  refine Ops.h (ns := [0]) rfl rfl (Y5m (N := p0.length + p2.length) (k := Yaj) (z0 := (Ya5.mk 0 0 0)) Yd7 un_3 Yde (Y4e rfl rfl) rfl rfl (xs := p0.take i) (by rw [List.drop_zero, List.take_append_of_le_length (by simp; omega), List.map_take]) (by simp; omega) (by omega) (by omega) (by omega) hb (by decide) rfl) ?_
  rintro _ _ ⟨b2, c2, hc2, hm2, rfl, rfl⟩
  refine zw ?_
  refine Ops.v rfl (Y5l (o' := i) (l' := p0.length + p2.length - i) (c' := c2 - i) Yd1.h rfl rfl (by omega) (by omega) (by omega) (by omega) (by omega) (by omega) rfl) ?_
  refine zw ?_
  refine Ops.h (ns := [0, 1]) rfl rfl (Y5a (xs := p2) Yd1.h rfl rfl (by rw [List.take_of_length_le (by omega)]) (by simp; omega) rfl) ?_
  rintro _ _ ⟨rfl, rfl⟩
  refine zw ?_
  refine rD [] [] [] [0,4,8,12,16,20,24,28,34] ?_
  refine OpsD.v rfl rfl (Yr rfl rfl) ?_
  refine OpsD.v rfl rfl (Yr rfl rfl) ?_
  refine OpsD.v rfl rfl (Yr rfl rfl) ?_
  refine OpsD.v rfl rfl (Yx (r := .int .i64 ((i + p2.length : Nat) : Int)) rfl rfl (Y5n (by omega) (by omega)) rfl) ?_
  refine OpsD.v rfl rfl (Y5l (o' := i + p2.length) (l' := p0.length - i) (c' := c2 - (i + p2.length)) Yd1.h rfl rfl (by omega) (by omega) (by omega) (by omega) (by omega) (by omega) rfl) ?_
  refine zw ?_
  refine OpsD.v rfl rfl (Y5l (o' := i) (l' := p0.length - i) (c' := cap - i) Yd1.h rfl rfl (by omega) (by omega) (by omega) (by omega) (by omega) (by omega) rfl) ?_
  refine OpsD.one ?_
  refine Y3z.h (ns := [0, 1]) rfl rfl rfl (Y5h (xs := p0.drop i) Yd1.h rfl rfl (by rw [Y5p, List.drop_append_of_le_length (by simp; omega), List.take_append_of_le_length (by simp), List.take_of_length_le (by simp), List.map_drop]) (by rw [Y5p]; simp) (by simp; omega) rfl) ?_
  rintro _ _ ⟨rfl, rfl⟩
  refine zw ?_
  refine AW.ret ?_
  obtain ⟨q1, q2, q3, q4⟩ := Y5k (xs := p0) (ys := p2) (z := (Ya5.mk 0 0 0)) (m := p2.length) hlt hc2 rfl _ _ rfl rfl
  exact finI ⟨[cV _], _, Y25.arr2 (p := 0) (m := p0.length + p2.length) rfl q1 (by omega) q2 (by omega) (Y5f _ _ _ _), .cons (.tmp rfl) .nil, [0], _, _, rfl, ⟨_, rfl, rfl⟩⟩
 have hg1 := of_decide_eq_false hg
 refine AW.cond rfl (fun hn => absurd (hg.symm.trans hn) (by decide)) (fun _ => ?_)
 refine AW.skip ?_
 refine AW.seq ?_
 refine AW.region ?_
 refine Ops.v rfl (Yr rfl rfl) ?_
 refine Ops.v rfl (Yr rfl rfl) ?_
 refine Ops.v rfl (Yr rfl rfl) ?_
 refine Ops.v rfl (Yx (r := .int .i64 ((p0.length + p2.length : Nat) : Int)) rfl rfl (Y5n (by omega) (by omega)) rfl) ?_
 refine Ops.v rfl (Y55 Yd1.h rfl rfl (by omega) (by omega) rfl) ?_
 refine Ops.v rfl (Ys rfl rfl) ?_
 refine Ops.nil ?_
 refine AW.seq ?_
 refine AW.seq ?_
 refine AW.region ?_
 refine Ops.v rfl (Yr rfl rfl) ?_
 refine Ops.v rfl (Yr rfl rfl) ?_
 refine Ops.v rfl (Yr rfl rfl) ?_
 refine Ops.v rfl (Yr rfl rfl) ?_
 refine Ops.v rfl (Yx (r := .int .i64 ((i + p2.length : Nat) : Int)) rfl rfl (Y5n (by omega) (by omega)) rfl) ?_
 refine Ops.v rfl (Y5l (o' := i + p2.length) (l' := p0.length - i) (c' := cap - (i + p2.length)) Yd1.h rfl rfl (by omega) (by omega) (by omega) (by omega) (by omega) (by omega) rfl) ?_
 refine Ops.h (ns := [0, 0]) rfl rfl (Y5b (tR := 4) (k := Yaj) (zs := p2) (ys := p0.map some ++ List.replicate (cap - p0.length) none) Yd7 Tryz.func227 rfl rfl (by kernel_rfl) (by kernel_rfl) rfl rfl (by intro e; rw [e] at hm; exact absurd hm (by decide)) (by intro e; have := congrArg List.length e; simp at this; omega) rfl) ?_
 rintro _ _ ⟨rfl, rfl⟩
 refine zw ?_
 refine AW.cond rfl (fun _ => ?_) (fun hn => absurd hn (by decide))
 refine zw ?_
 refine rD [] [] [] [0,4,8,12,16,20,24,28,34] ?_
 refine OpsD.v rfl rfl (Yr rfl rfl) ?_
 refine OpsD.v rfl rfl (Yr rfl rfl) ?_
 refine OpsD.v rfl rfl (Yr rfl rfl) ?_
 refine OpsD.v rfl rfl (Yx (r := .int .i64 ((i + p2.length : Nat) : Int)) rfl rfl (Y5n (by omega) (by omega)) rfl) ?_
 refine OpsD.v rfl rfl (Y5l (o' := i + p2.length) (l' := p0.length - i) (c' := cap - (i + p2.length)) Yd1.h rfl rfl (by omega) (by omega) (by omega) (by omega) (by omega) (by omega) rfl) ?_
 refine zw ?_
 refine OpsD.v rfl rfl (Y5l (o' := i) (l' := p0.length + p2.length - i) (c' := cap - i) Yd1.h rfl rfl (by omega) (by omega) (by omega) (by omega) (by omega) (by omega) rfl) ?_
 refine OpsD.one ?_
 refine Y3z.h (ns := [0]) rfl rfl rfl (Y59 (xs := p0.drop i) Yd1.h rfl rfl (by rw [Y5q (by omega), List.drop_append_of_le_length (by simp; omega), List.take_append_of_le_length (by simp), List.take_of_length_le (by simp), List.map_drop]) (by rw [Y5q (by omega)]; simp) (by simp; omega) rfl) ?_
 rintro _ _ ⟨rfl, rfl⟩
 refine zw ?_
 refine Ops.v rfl (Y5l (o' := i) (l' := p0.length + p2.length - i) (c' := cap - i) Yd1.h rfl rfl (by omega) (by omega) (by omega) (by omega) (by omega) (by omega) rfl) ?_
 refine zw ?_
 refine Ops.h (ns := [0, 0]) rfl rfl (Y5a (xs := p2) Yd1.h rfl rfl (by rw [List.take_of_length_le (by omega)]) (by simp; omega) rfl) ?_
 rintro _ _ ⟨rfl, rfl⟩
 refine zw ?_
 refine AW.ret ?_
 obtain ⟨q1, q2, q3, q4⟩ := Y5j (xs := p0) (ys := p2) (m := p2.length) (c := cap) hlt (by omega) rfl _ _ rfl rfl
 exact finI ⟨[cV _], _, Y25.arr2 (p := 0) (m := p0.length + p2.length) (c := cap) rfl q1 (by omega) q2 hmax0 (Y5f _ _ _ _), .cons (.tmp rfl) .nil, [0], _, _, rfl, ⟨_, rfl, rfl⟩⟩
instance Zel (p0 : List Ya5) (p1 : Int) (p2 : List Ya5) : SpO Tryz.prog 203 (Zej p0 p1 p2) (.x fun (w1 : Value) => .x fun (w2 : Value) => .d [cV w1, cI p1, cV w2] [oA w1 194 Yaj 3 p0, oA w2 194 Yaj 3 p2] fun r => .x fun (v : Value) => .d (cV v) [oA v 194 Yaj 3 r]) := ⟨fun w1 w2 r h => Zek p0 p1 p2 r h⟩

def Zem (p1 : Ya5) (r2 : List Ya5) (r5 : Int × Bool) (x8 : Bool) : Option (List Ya5) := cond x8 ((Zeg r2 r5.1 (IntKind.i64.wrap (r5.1 + 1))).bind fun r10 => some r10) (cond (p1.id == 0) (some r2) (cond r5.2 ((getI r2 r5.1).bind fun e15 => some (List.set r2 (Int.toNat r5.1) p1)) ((Zej r2 r5.1 [p1]).bind fun r18 => some r18)))
def Zen (p0 : List Ya5) (p1 : Ya5) : Option (List Ya5) := (Zed p0).bind fun r2 => (Zdj r2 p1).bind fun r5 => cond (p1.id == 0) (Zem p1 r2 r5 r5.2) (Zem p1 r2 r5 false)
instance Zeo (p0 : List Ya5) (p1 : Ya5) : SpO Tryz.prog 155 (Zen p0 p1) (.d [cM Yaj 3 p0, C.agg [cI p1.kind, cI p1.key, cI p1.id]] [] fun r => .x fun (v21 : Value) => .d (cV v21) [oA v21 194 Yaj 3 r]) := ⟨so Tryz.func155 rfl rfl fun r X h => gh (.k (.q 2 (.c1 (fun x8 => .d [(16, C.bool x8)] []) [3,5,6,7] [1,0] .z (.b (.k .z) (.b .z (.b .z (.k .z)))))))⟩
instance Zeo' (p0 : List Ya5) (p1 : Ya5) : Sp Tryz.prog 155 [cM Yaj 3 p0, C.agg [cI p1.kind, cI p1.key, cI p1.id]] (Zen p0 p1) (fun r => cM Yaj 3 r) := ⟨fun r h => Ok.freeze ((Zeo p0 p1).h r h) (by rintro c qs ⟨v21, rfl, rfl⟩; exact Frz.arr)⟩

def Zep (p0 : List Ya5) (q0 : Ya5) : Option Bool := (Zd3 p0 q0).bind fun r1 => some (!r1)
instance Zeq (p0 : List Ya5) (q0 : Ya5) : SpO Tryz.prog 190 (Zep p0 q0) (.x fun (b00 : Nat) => .d [cM Yaj 3 p0, pt b00] [oB b00 194 [cI q0.kind, cI q0.key, cI q0.id]] fun r => .d (C.bool r) [oB b00 194 [cI q0.kind, cI q0.key, cI q0.id]]) := ⟨fun b00 => so Tryz.func190 rfl rfl fun r X h => gh .z⟩

def Zer : Option Int := some (-1)
def Zes (p0 : List (List Ya5)) (p1_0 : Ya5) (x7 : Int) : Option (Int ⊕ (Int ⊕ Unit)) := cond (decide (x7 < (p0.length : Int))) ((getI p0 x7).bind fun e9 => (Zep e9 p1_0).bind fun r11 => cond r11 (some (.inr (.inl x7))) (some (.inl (IntKind.i64.wrap (x7 + 1))))) (some (.inr (.inr ())))
def Zet (p0 : List (List Ya5)) (p1_0 : Ya5) : Option Int := (iter (Zes p0 p1_0) big 0).bind (fun z15 => match z15 with | .inl y14 => some y14 | .inr () => Zer)
instance Zeu (p0 : List (List Ya5)) (p1_0 : Ya5) : SpO Tryz.prog 221 (Zet p0 p1_0) (.x fun (b00 : Nat) => .d [cM Yak 1 p0, C.clo 190 [pt b00]] [oB b00 194 [cI p1_0.kind, cI p1_0.key, cI p1_0.id]] fun r => .d (cI r) [oB b00 194 [cI p1_0.kind, cI p1_0.key, cI p1_0.id]]) := ⟨fun b00 => so Tryz.func221 rfl rfl fun r X h => gh (.q 1 (.c0 (.d [] []) [] [0] (.l1 (fun x7 => .d [(8, cI x7)] []) [0,1,7] [0] .z) .z))⟩

def Zev (p0 : List (List Ya5)) (p1_0 : Ya5) : Option Bool := (Zet p0 p1_0).bind fun r1 => some (decide (r1 ≥ 0))
instance Zew (p0 : List (List Ya5)) (p1_0 : Ya5) : SpO Tryz.prog 189 (Zev p0 p1_0) (.x fun (b00 : Nat) => .d [cM Yak 1 p0, C.clo 190 [pt b00]] [oB b00 194 [cI p1_0.kind, cI p1_0.key, cI p1_0.id]] fun r => .d (C.bool r) [oB b00 194 [cI p1_0.kind, cI p1_0.key, cI p1_0.id]]) := ⟨fun b00 => so Tryz.func189 rfl rfl fun r X h => gh .z⟩

def Zex (p0 : Y9z) (p1 : Y9z) (q0 : Ya9) : Option Int := (Zd6 p0).bind fun r3 => (Zd6 p1).bind fun r5 => cond (r3 == r5) ((Z9w (Option.getD (mget q0.depth p0.id) 0) (Option.getD (mget q0.depth p1.id) 0)).bind fun r11 => (Z9w p0.time p1.time).bind fun r13 => (Z9w p0.id p1.id).bind fun r15 => (Zda [r11, r13, r15]).bind fun r18 => some r18) ((Zd6 p0).bind fun r8 => cond r8 (some (-1)) (some 1))
instance Zey (p0 : Y9z) (p1 : Y9z) (q0 : Ya9) : Sp Tryz.prog 193 [C.agg [cI p0.id, cI p0.room, cI p0.author, cI p0.kind, cI p0.key, cI p0.n, C.str p0.text, cM kI64 1 p0.prev, cI p0.time], C.agg [cI p1.id, cI p1.room, cI p1.author, cI p1.kind, cI p1.key, cI p1.n, C.str p1.text, cM kI64 1 p1.prev, cI p1.time], C.ip [C.ip [cI q0.graph.room, cM Yab 9 q0.graph.events, cM Yab 9 q0.graph.parked, C.imap .i64 Yap q0.depth, C.imap .i64 Yaq q0.before, C.imap .i64 Yaq q0.after, C.imap .i64 Yap q0.refused]]] (Zex p0 p1 q0) (fun r => cI r) := Sp.of (so Tryz.func193 rfl rfl fun r X h => gh (.r [0,0] [0,2] [] [1,9,6,14,16] (.b (.r [0,0] [0,3,5,6,7,10,12,13,16,18,21,23] [] [1,4,8,13,16,21,25,29,32,36,41,44,49,53,60,65,68,73,80,85,88,93,58,78,98,102,106,108] .z) .z)))

end Go.Proofs.YtnoknphekhclcaaGreatDoor
