/- Printed by gen.py: plain functions for Go functions, and that the walks keep to them. -/
import Derived.Test.YtomachnjepgpbaaGreatAQ5
set_option autoImplicit false
set_option linter.unusedVariables false
set_option linter.unusedSimpArgs false
set_option maxHeartbeats 8000000
set_option maxRecDepth 100000
namespace Go.Proofs.YtomachnjepgpbaaGreat
open Go Go.Abs
attribute [local irreducible] AW Ops OpsD Y3z VoK HoK GhF UsC Go.Abs.Fin PkK LenT LenL Y98 BldK FzK FzLK
def Zaj : Option Int := some (-1)
def Zak (p0 : List Int) (p1_0 : Y9k) (x7 : Int) : Option (Int ⊕ (Int ⊕ Unit)) := cond (decide (x7 < (p0.length : Int))) ((getI p0 x7).bind fun e9 => (Zah e9 p1_0).bind fun r11 => cond r11 (some (.inr (.inl x7))) (some (.inl (IntKind.i64.wrap (x7 + 1))))) (some (.inr (.inr ())))
def Zal (p0 : List Int) (p1_0 : Y9k) : Option Int := (iter (Zak p0 p1_0) big 0).bind (fun z15 => match z15 with | .inl y14 => some y14 | .inr () => Zaj)
instance Zam (p0 : List Int) (p1_0 : Y9k) : SpO Tryz.prog 237 (Zal p0 p1_0) (.x fun (b00 : Nat) => .d [cM kI64 1 p0, C.clo 205 [pt b00]] [oB b00 25 [cI p1_0.room, cM Y9q 9 p1_0.events, cM Y9q 9 p1_0.parked]] fun r => .d (cI r) [oB b00 25 [cI p1_0.room, cM Y9q 9 p1_0.events, cM Y9q 9 p1_0.parked]]) := ⟨fun b00 => so Tryz.func237 rfl rfl fun r X h => gh (.q 1 (.c0 (.d [] []) [] [0] (.l1 (fun x7 => .d [(8, cI x7)] []) [0,1,7] [0] .z) .z))⟩

def Zan (p0 : List Int) (p1_0 : Y9k) : Option Bool := (Zal p0 p1_0).bind fun r1 => some (decide (r1 ≥ 0))
instance Zao (p0 : List Int) (p1_0 : Y9k) : SpO Tryz.prog 188 (Zan p0 p1_0) (.x fun (b00 : Nat) => .d [cM kI64 1 p0, C.clo 205 [pt b00]] [oB b00 25 [cI p1_0.room, cM Y9q 9 p1_0.events, cM Y9q 9 p1_0.parked]] fun r => .d (C.bool r) [oB b00 25 [cI p1_0.room, cM Y9q 9 p1_0.events, cM Y9q 9 p1_0.parked]]) := ⟨fun b00 => so Tryz.func188 rfl rfl fun r X h => gh .z⟩

def Zap (p0 : Y9k) (p1 : Y9j) : Option Bool := (Zan p1.prev p0).bind fun r3 => some (!r3)
instance Zaq (p0 : Y9k) (p1 : Y9j) : Sp Tryz.prog 142 [C.agg [cI p0.room, cM Y9q 9 p0.events, cM Y9q 9 p0.parked], C.agg [cI p1.id, cI p1.room, cI p1.author, cI p1.kind, cI p1.key, cI p1.n, C.str p1.text, cM kI64 1 p1.prev, cI p1.time]] (Zap p0 p1) (fun r => C.bool r) := Sp.of (so Tryz.func142 rfl rfl fun r X h => gh .z)

def Zar (l140 : List Int) (x141 : Int) : Option (List Int × Bool) := some (l140, (x141 == 0))
def Zas (x109 : Int) (l137 : List Int) (x138 : Int) (x139 : Bool) : Option ((List Int × Int × Bool × Int) ⊕ ((List Int × Int × Bool))) := some (.inl (l137, x138, x139, (IntKind.i64.wrap (x109 + 1))))
def Zat (l106 : List Int) (x107 : Int) (x108 : Bool) (x109 : Int) (x135 : Int) : Option ((List Int × Int × Bool × Int) ⊕ ((List Int × Int × Bool))) := cond (decide (x135 > 0)) (Zas x109 (List.set l106 (Int.toNat x109) x135) (IntKind.i64.wrap (x107 - 1)) true) (Zas x109 l106 x107 x108)
def Zau (p0 : Y9k) (l106 : List Int) (e111 : Y9j) (x125 : Int) (x126 : Int) : Option ((Int × Int) ⊕ (Int)) := cond (decide (x126 < (e111.prev.length : Int))) ((getI e111.prev x126).bind fun e128 => (Zad p0.events e128).bind fun r130 => (getI l106 r130.1).bind fun e132 => cond (e132 == 0) (some (.inr 0)) (some (.inl ((if (IntKind.i64.wrap (e132 + 1)) > x125 then (IntKind.i64.wrap (e132 + 1)) else x125), (IntKind.i64.wrap (x126 + 1)))))) (some (.inr x125))
def Zav (p0 : Y9k) (l106 : List Int) (x107 : Int) (x108 : Bool) (x109 : Int) : Option ((List Int × Int × Bool × Int) ⊕ ((List Int × Int × Bool))) := cond (decide (x109 < (p0.events.length : Int))) ((getI p0.events x109).bind fun e111 => (getI l106 x109).bind fun e114 => cond (decide (e114 > 0)) (Zas x109 l106 x107 x108) ((iter (fun z143 => Zau p0 l106 e111 z143.1 z143.2) big (1, 0)).bind fun y144 => Zat l106 x107 x108 x109 y144)) (some (.inr (l106, x107, x108)))
def Zaw (p0 : Y9k) (l70 : List Int) (x71 : Int) (x74 : Bool) : Option ((List Int × Int × Bool) ⊕ ((List Int × Int))) := cond x74 ((iter (fun z145 => Zav p0 z145.1 z145.2.1 z145.2.2.1 z145.2.2.2) big (l70, x71, false, 0)).bind fun (y146, y147, y148) => some (.inl (y146, y147, y148))) (some (.inr (l70, x71)))
def Zax (p0 : Y9k) (l70 : List Int) (x71 : Int) (x72 : Bool) : Option ((List Int × Int × Bool) ⊕ ((List Int × Int))) := cond x72 (Zaw p0 l70 x71 (decide (x71 > 0))) (Zaw p0 l70 x71 false)
def Zay (p0 : Y9k) : Option (List Int × Bool) := (chk (decide (0 ≤ (p0.events.length : Int) ∧ (p0.events.length : Int) * 8 ≤ 140737488355328))).bind fun u3 => (iter (fun z149 => Zax p0 z149.1 z149.2.1 z149.2.2) big ((List.replicate (Int.toNat (p0.events.length : Int)) 0), (p0.events.length : Int), true)).bind fun (y150, y151) => Zar y150 y151
instance Zaz (p0 : Y9k) : SpO Tryz.prog 144 (Zay p0) (.d [C.agg [cI p0.room, cM Y9q 9 p0.events, cM Y9q 9 p0.parked]] [] fun r => .x fun (v142 : Value) => .d (C.tup [cV v142, C.bool r.2]) [oA v142 2 kI64 1 r.1]) := ⟨so Tryz.func144 rfl rfl fun r X h => gh (.r [0] [1,5] [] [0,5,8,16,21,24,14,28,32] (.a 1 fun w1 => .c2 (fun l140 x141 => .d [(5, cI x141)] [oA w1 2 kI64 1 l140]) [4] [] (.A 1 fun w1 => .l3 (fun l70 x71 x72 => .d [(5, cI x71), (6, C.bool x72)] [oA w1 2 kI64 1 l70]) [1,4] [0] (.q 1 (.c1 (fun x74 => .d [(25, C.bool x74)] []) [1,4,5] [1,0] .z (.b (.A 1 fun w1 => .l4 (fun l106 x107 x108 x109 => .d [(5, cI x107), (6, C.bool x108), (29, cI x109)] [oA w1 2 kI64 1 l106]) [1,4,27,28] [0] (.b (.a 0 fun w0 => .c3 (fun l137 x138 x139 => .d [(5, cI x138), (6, C.bool x139)] [oA w0 2 kI64 1 l137]) [1,4,27,28,29] [1] (.b .z (.q 1 (.c1 (fun x135 => .d [(9, cI x135)] []) [1,4,5,6,7,27,28,29] [2,1] (.l2 (fun x125 x126 => .d [(9, cI x125), (42, cI x126)] []) [1,4,5,6,7,27,28,29,40,41] [2,1] .z) .z))) .z) .z)) .z)))) .z))⟩
instance Zaz' (p0 : Y9k) : Sp Tryz.prog 144 [C.agg [cI p0.room, cM Y9q 9 p0.events, cM Y9q 9 p0.parked]] (Zay p0) (fun r => C.tup [cM kI64 1 r.1, C.bool r.2]) := ⟨fun r h => Ok.freeze ((Zaz p0).h r h) (by rintro c qs ⟨v142, rfl, rfl⟩; exact Frz.tup (FrzT.cons (os := [_]) (Frz.arr) (fT (FrzT.nil))))⟩

def Zb0 (p0 : Y9j) (q0 : Y9k) : Option Bool := (Zap q0 p0).bind fun r2 => some (!r2)
instance Zb1 (p0 : Y9j) (q0 : Y9k) : SpO Tryz.prog 141 (Zb0 p0 q0) (.x fun (b00 : Nat) => .d [C.agg [cI p0.id, cI p0.room, cI p0.author, cI p0.kind, cI p0.key, cI p0.n, C.str p0.text, cM kI64 1 p0.prev, cI p0.time], pt b00] [oB b00 25 [cI q0.room, cM Y9q 9 q0.events, cM Y9q 9 q0.parked]] fun r => .d (C.bool r) [oB b00 25 [cI q0.room, cM Y9q 9 q0.events, cM Y9q 9 q0.parked]]) := ⟨fun b00 => so Tryz.func141 rfl rfl fun r X h => gh .z⟩

def Zb2 : Option Int := some (-1)
def Zb3 (p0 : List Y9j) (p1_0 : Y9k) (x7 : Int) : Option (Int ⊕ (Int ⊕ Unit)) := cond (decide (x7 < (p0.length : Int))) ((getI p0 x7).bind fun e9 => (Zb0 e9 p1_0).bind fun r11 => cond r11 (some (.inr (.inl x7))) (some (.inl (IntKind.i64.wrap (x7 + 1))))) (some (.inr (.inr ())))
def Zb4 (p0 : List Y9j) (p1_0 : Y9k) : Option Int := (iter (Zb3 p0 p1_0) big 0).bind (fun z15 => match z15 with | .inl y14 => some y14 | .inr () => Zb2)
instance Zb5 (p0 : List Y9j) (p1_0 : Y9k) : SpO Tryz.prog 204 (Zb4 p0 p1_0) (.x fun (b00 : Nat) => .d [cM Y9q 9 p0, C.clo 141 [pt b00]] [oB b00 25 [cI p1_0.room, cM Y9q 9 p1_0.events, cM Y9q 9 p1_0.parked]] fun r => .d (cI r) [oB b00 25 [cI p1_0.room, cM Y9q 9 p1_0.events, cM Y9q 9 p1_0.parked]]) := ⟨fun b00 => so Tryz.func204 rfl rfl fun r X h => gh (.q 1 (.c0 (.d [] []) [] [0] (.l1 (fun x7 => .d [(8, cI x7)] []) [0,1,7] [0] .z) .z))⟩

def Zb6 (p0 : List Y9j) (p1_0 : Y9k) : Option Bool := (Zb4 p0 p1_0).bind fun r1 => some (decide (r1 ≥ 0))
instance Zb7 (p0 : List Y9j) (p1_0 : Y9k) : SpO Tryz.prog 140 (Zb6 p0 p1_0) (.x fun (b00 : Nat) => .d [cM Y9q 9 p0, C.clo 141 [pt b00]] [oB b00 25 [cI p1_0.room, cM Y9q 9 p1_0.events, cM Y9q 9 p1_0.parked]] fun r => .d (C.bool r) [oB b00 25 [cI p1_0.room, cM Y9q 9 p1_0.events, cM Y9q 9 p1_0.parked]]) := ⟨fun b00 => so Tryz.func140 rfl rfl fun r X h => gh .z⟩

def Zb8 (x7 : Bool) : Option Bool := some x7
def Zb9 (p0 : Y9j) (q0 : Y9k) : Option Bool := (Zaf q0 p0.id).bind fun r2 => cond r2 (Zb8 true) ((Zap q0 p0).bind fun r5 => Zb8 r5)
instance Zba (p0 : Y9j) (q0 : Y9k) : SpO Tryz.prog 143 (Zb9 p0 q0) (.x fun (b00 : Nat) => .d [C.agg [cI p0.id, cI p0.room, cI p0.author, cI p0.kind, cI p0.key, cI p0.n, C.str p0.text, cM kI64 1 p0.prev, cI p0.time], pt b00] [oB b00 25 [cI q0.room, cM Y9q 9 q0.events, cM Y9q 9 q0.parked]] fun r => .d (C.bool r) [oB b00 25 [cI q0.room, cM Y9q 9 q0.events, cM Y9q 9 q0.parked]]) := ⟨fun b00 => so Tryz.func143 rfl rfl fun r X h => gh (.q 1 (.c1 (fun x7 => .d [(3, C.bool x7)] []) [] [1] .z .z))⟩

def Zbb : Option Int := some (-1)
def Zbc (p0 : List Y9j) (p1_0 : Y9k) (x7 : Int) : Option (Int ⊕ (Int ⊕ Unit)) := cond (decide (x7 < (p0.length : Int))) ((getI p0 x7).bind fun e9 => (Zb9 e9 p1_0).bind fun r11 => cond r11 (some (.inr (.inl x7))) (some (.inl (IntKind.i64.wrap (x7 + 1))))) (some (.inr (.inr ())))
def Zbd (p0 : List Y9j) (p1_0 : Y9k) : Option Int := (iter (Zbc p0 p1_0) big 0).bind (fun z15 => match z15 with | .inl y14 => some y14 | .inr () => Zbb)
instance Zbe (p0 : List Y9j) (p1_0 : Y9k) : SpO Tryz.prog 204 (Zbd p0 p1_0) (.x fun (b00 : Nat) => .d [cM Y9q 9 p0, C.clo 143 [pt b00]] [oB b00 25 [cI p1_0.room, cM Y9q 9 p1_0.events, cM Y9q 9 p1_0.parked]] fun r => .d (cI r) [oB b00 25 [cI p1_0.room, cM Y9q 9 p1_0.events, cM Y9q 9 p1_0.parked]]) := ⟨fun b00 => so Tryz.func204 rfl rfl fun r X h => gh (.q 1 (.c0 (.d [] []) [] [0] (.l1 (fun x7 => .d [(8, cI x7)] []) [0,1,7] [0] .z) .z))⟩

def Zbf (p0 : List Y9j) (p1_0 : Y9k) : Option Bool := (Zbd p0 p1_0).bind fun r1 => some (decide (r1 ≥ 0))
instance Zbg (p0 : List Y9j) (p1_0 : Y9k) : SpO Tryz.prog 140 (Zbf p0 p1_0) (.x fun (b00 : Nat) => .d [cM Y9q 9 p0, C.clo 143 [pt b00]] [oB b00 25 [cI p1_0.room, cM Y9q 9 p1_0.events, cM Y9q 9 p1_0.parked]] fun r => .d (C.bool r) [oB b00 25 [cI p1_0.room, cM Y9q 9 p1_0.events, cM Y9q 9 p1_0.parked]]) := ⟨fun b00 => so Tryz.func140 rfl rfl fun r X h => gh .z⟩

def Zbh (p0 : Y9k) (x12 : Bool) : Option Bool := cond x12 (some false) ((Zb6 p0.events p0).bind fun r14 => cond r14 (some false) ((Zbf p0.parked p0).bind fun r17 => cond r17 (some false) ((Zay p0).bind fun r20 => some r20.2)))
def Zbi (p0 : Y9k) : Option Bool := (Z8y p0.room).bind fun r2 => cond r2 (cond (decide ((p0.events.length : Int) > 60)) (Zbh p0 true) (cond (decide ((p0.parked.length : Int) > 20)) (Zbh p0 true) ((Za0 p0 p0.events).bind fun r7 => cond r7 ((Za0 p0 p0.parked).bind fun r10 => Zbh p0 (!r10)) (Zbh p0 true)))) (Zbh p0 true)
instance Zbj (p0 : Y9k) : Sp Tryz.prog 72 [C.agg [cI p0.room, cM Y9q 9 p0.events, cM Y9q 9 p0.parked]] (Zbi p0) (fun r => C.bool r) := Sp.of (so Tryz.func72 rfl rfl fun r X h => gh (.q 2 (.c1 (fun x12 => .d [(34, C.bool x12)] []) [1] [0] .z .z)))

def Zbk : Option Int := some 0
def Zbl (p0 : List Int) (x5 : Int) : Option (Int ⊕ (Int ⊕ Unit)) := cond (decide (x5 < (p0.length : Int))) ((getI p0 x5).bind fun e7 => cond (e7 != 0) (some (.inr (.inl e7))) (some (.inl (IntKind.i64.wrap (x5 + 1))))) (some (.inr (.inr ())))
def Zbm (p0 : List Int) : Option Int := (iter (Zbl p0) big 0).bind (fun z11 => match z11 with | .inl y10 => some y10 | .inr () => Zbk)
instance Zbn (p0 : List Int) : Sp Tryz.prog 155 [cM kI64 1 p0] (Zbm p0) (fun r => cI r) := Sp.of (so Tryz.func155 rfl rfl fun r X h => gh (.q 2 (.c0 (.d [] []) [3] [] (.l1 (fun x5 => .d [(8, cI x5)] []) [3,6,7] [] .z) .z)))

def Zbo (p0 : Y9m) (p1 : Y9m) : Option Int := (Za4 p0.kind p1.kind).bind fun r3 => (Za4 p0.key p1.key).bind fun r5 => (Zbm [r3, r5]).bind fun r8 => some r8
instance Zbp (p0 : Y9m) (p1 : Y9m) : Sp Tryz.prog 233 [C.agg [cI p0.kind, cI p0.key, cI p0.id], C.agg [cI p1.kind, cI p1.key, cI p1.id]] (Zbo p0 p1) (fun r => cI r) := Sp.of (so Tryz.func233 rfl rfl fun r X h => gh (.r [0,0] [1,3,6,8] [] [0,5,8,13,20,25,28,33,18,38,42,46,48] .z))

def Zbq (p0 : List Y9m) : Option Bool := some (decide ((p0.length : Int) ≤ 400))
def Zbr (x21 : Int) (x40 : Bool) : Option (Int ⊕ (Bool ⊕ Unit)) := cond x40 (some (.inr (.inl false))) (some (.inl (IntKind.i64.wrap (x21 + 1))))
def Zbs (p0 : List Y9m) (p1 : Int) (x21 : Int) : Option (Int ⊕ (Bool ⊕ Unit)) := cond (decide (x21 < (p0.length : Int))) ((getI p0 x21).bind fun e23 => (Z8w e23.kind 1 6).bind fun r26 => cond r26 ((Z8w e23.key 0 6).bind fun r29 => cond r29 ((Z8w e23.id p1 1000000).bind fun r32 => cond r32 (cond (decide (x21 > 0)) ((getI p0 (IntKind.i64.wrap (x21 - 1))).bind fun e36 => (Zbo e36 e23).bind fun r38 => Zbr x21 (decide (r38 ≥ 0))) (Zbr x21 false)) (Zbr x21 true)) (Zbr x21 true)) (Zbr x21 true)) (some (.inr (.inr ())))
def Zbt (p0 : List Y9m) (p1 : Int) : Option Bool := (iter (Zbs p0 p1) big 0).bind (fun z43 => match z43 with | .inl y42 => some y42 | .inr () => Zbq p0)
instance Zbu (p0 : List Y9m) (p1 : Int) : Sp Tryz.prog 174 [cM Y9r 3 p0, cI p1] (Zbt p0 p1) (fun r => C.bool r) := Sp.of (so Tryz.func174 rfl rfl fun r X h => gh (.q 1 (.c0 (.d [] []) [0] [] (.l1 (fun x21 => .d [(9, cI x21)] []) [0,1,7,8] [] (.b (.q 2 (.c1 (fun x40 => .d [(44, C.bool x40)] []) [0,1,7,8,9] [] (.r [0] [1,6,12,25,26] [] [0,5,10,12,16,20,25,30,32,36,40,44,49,52,58,60,64,68,72,76,80,84,88,92,96,101,105,110,112,116,120] .z) .z)) .z)) .z)))

def Zbv (p0 : List Y9m) : Option Bool := (Zbt p0 1).bind fun r1 => some r1
instance Zbw (p0 : List Y9m) : Sp Tryz.prog 94 [cM Y9r 3 p0] (Zbv p0) (fun r => C.bool r) := Sp.of (so Tryz.func94 rfl rfl fun r X h => gh .z)

def Zbx (p0 : Y9k) (p1 : Int) : Option (Y9j × Bool) := (Zad p0.events p1).bind fun r3 => cond r3.2 ((getI p0.events r3.1).bind fun e6 => some (e6, true)) (some ((Y9j.mk 0 0 0 0 0 0 ByteArray.empty [] 0), false))
instance Zby (p0 : Y9k) (p1 : Int) : Sp Tryz.prog 99 [C.agg [cI p0.room, cM Y9q 9 p0.events, cM Y9q 9 p0.parked], cI p1] (Zbx p0 p1) (fun r => C.tup [C.agg [cI r.1.id, cI r.1.room, cI r.1.author, cI r.1.kind, cI r.1.key, cI r.1.n, C.str r.1.text, cM kI64 1 r.1.prev, cI r.1.time], C.bool r.2]) := Sp.of (so Tryz.func99 rfl rfl fun r X h => gh .z)

def Zbz (x7 : Bool) : Option Bool := some x7
def Zc0 (p0 : Y9m) (q0 : Y9k) : Option Bool := (Zbx q0 p0.id).bind fun r2 => cond r2.2 (cond (r2.1.kind != p0.kind) (Zbz true) (Zbz (r2.1.key != p0.key))) (Zbz true)
instance Zc1 (p0 : Y9m) (q0 : Y9k) : SpO Tryz.prog 147 (Zc0 p0 q0) (.x fun (b00 : Nat) => .d [C.agg [cI p0.kind, cI p0.key, cI p0.id], pt b00] [oB b00 25 [cI q0.room, cM Y9q 9 q0.events, cM Y9q 9 q0.parked]] fun r => .d (C.bool r) [oB b00 25 [cI q0.room, cM Y9q 9 q0.events, cM Y9q 9 q0.parked]]) := ⟨fun b00 => so Tryz.func147 rfl rfl fun r X h => gh (.q 2 (.c1 (fun x7 => .d [(3, C.bool x7)] []) [] [2] .z .z))⟩

def Zc2 : Option Int := some (-1)
def Zc3 (p0 : List Y9m) (p1_0 : Y9k) (x7 : Int) : Option (Int ⊕ (Int ⊕ Unit)) := cond (decide (x7 < (p0.length : Int))) ((getI p0 x7).bind fun e9 => (Zc0 e9 p1_0).bind fun r11 => cond r11 (some (.inr (.inl x7))) (some (.inl (IntKind.i64.wrap (x7 + 1))))) (some (.inr (.inr ())))
def Zc4 (p0 : List Y9m) (p1_0 : Y9k) : Option Int := (iter (Zc3 p0 p1_0) big 0).bind (fun z15 => match z15 with | .inl y14 => some y14 | .inr () => Zc2)
instance Zc5 (p0 : List Y9m) (p1_0 : Y9k) : SpO Tryz.prog 206 (Zc4 p0 p1_0) (.x fun (b00 : Nat) => .d [cM Y9r 3 p0, C.clo 147 [pt b00]] [oB b00 25 [cI p1_0.room, cM Y9q 9 p1_0.events, cM Y9q 9 p1_0.parked]] fun r => .d (cI r) [oB b00 25 [cI p1_0.room, cM Y9q 9 p1_0.events, cM Y9q 9 p1_0.parked]]) := ⟨fun b00 => so Tryz.func206 rfl rfl fun r X h => gh (.q 1 (.c0 (.d [] []) [] [0] (.l1 (fun x7 => .d [(8, cI x7)] []) [0,1,7] [0] .z) .z))⟩

def Zc6 (p0 : List Y9m) (p1_0 : Y9k) : Option Bool := (Zc4 p0 p1_0).bind fun r1 => some (decide (r1 ≥ 0))
instance Zc7 (p0 : List Y9m) (p1_0 : Y9k) : SpO Tryz.prog 146 (Zc6 p0 p1_0) (.x fun (b00 : Nat) => .d [cM Y9r 3 p0, C.clo 147 [pt b00]] [oB b00 25 [cI p1_0.room, cM Y9q 9 p1_0.events, cM Y9q 9 p1_0.parked]] fun r => .d (C.bool r) [oB b00 25 [cI p1_0.room, cM Y9q 9 p1_0.events, cM Y9q 9 p1_0.parked]]) := ⟨fun b00 => so Tryz.func146 rfl rfl fun r X h => gh .z⟩

def Zc8 (x7 : Bool) : Option Bool := some x7
def Zc9 (p0 : Y9k) (p1 : List Y9m) : Option Bool := (Zbv p1).bind fun r2 => cond r2 ((Zc6 p1 p0).bind fun r5 => Zc8 (!r5)) (Zc8 false)
instance Zca (p0 : Y9k) (p1 : List Y9m) : Sp Tryz.prog 75 [C.agg [cI p0.room, cM Y9q 9 p0.events, cM Y9q 9 p0.parked], cM Y9r 3 p1] (Zc9 p0 p1) (fun r => C.bool r) := Sp.of (so Tryz.func75 rfl rfl fun r X h => gh (.q 1 (.c1 (fun x7 => .d [(4, C.bool x7)] []) [] [] .z .z)))

def Zcb (p0 : Int) (p1 : Int) (q0 : List Int) : Option Int := (getI q0 p0).bind fun e1 => (getI q0 p1).bind fun e3 => (Za4 e1 e3).bind fun r5 => some r5
instance Zcc (p0 : Int) (p1 : Int) (q0 : List Int) : SpO Tryz.prog 208 (Zcb p0 p1 q0) (.x fun (b00 : Nat) => .d [cI p0, cI p1, pt b00] [oB b00 39 [cM kI64 1 q0]] fun r => .d (cI r) [oB b00 39 [cM kI64 1 q0]]) := ⟨fun b00 => so Tryz.func208 rfl rfl fun r X h => gh (.r [0] [0,3,4,7] [] [1,4,8,13,17,20,24,29,34,36] .z)⟩

def Zcd (x62 : Int) (l122 : List Int) : Option ((List Int × Int) ⊕ ((List Int))) := some (.inl (l122, (IntKind.i64.wrap (x62 + 1))))
def Zce (l92 : List Int) (x93 : Int) (x110 : Bool) : Option ((List Int × Int) ⊕ ((List Int))) := cond x110 ((getI l92 (IntKind.i64.wrap (x93 - 1))).bind fun e112 => (getI l92 x93).bind fun e114 => (getI (List.set l92 (Int.toNat x93) e112) (IntKind.i64.wrap (x93 - 1))).bind fun e120 => some (.inl ((List.set (List.set l92 (Int.toNat x93) e112) (Int.toNat (IntKind.i64.wrap (x93 - 1))) e114), (IntKind.i64.wrap (x93 - 1))))) (some (.inr l92))
def Zcf (p1 : Int) (p3_0 : List Int) (l92 : List Int) (x93 : Int) : Option ((List Int × Int) ⊕ ((List Int))) := cond (decide (x93 > p1)) ((getI l92 x93).bind fun e104 => (getI l92 (IntKind.i64.wrap (x93 - 1))).bind fun e106 => (Zcb e104 e106 p3_0).bind fun r108 => Zce l92 x93 (decide (r108 < 0))) (Zce l92 x93 false)
def Zcg (p1 : Int) (p2 : Int) (p3_0 : List Int) (l61 : List Int) (x62 : Int) : Option ((List Int × Int) ⊕ ((List Int))) := cond (decide (x62 < p2)) ((iter (fun z123 => Zcf p1 p3_0 z123.1 z123.2) big (l61, x62)).bind fun y124 => Zcd x62 y124) (some (.inr l61))
def Zch (p0 : List Int) (p1 : Int) (p2 : Int) (p3_0 : List Int) : Option (List Int) := (iter (fun z125 => Zcg p1 p2 p3_0 z125.1 z125.2) big (p0, (IntKind.i64.wrap (p1 + 1)))).bind fun y126 => some y126
instance Zci (p0 : List Int) (p1 : Int) (p2 : Int) (p3_0 : List Int) : SpO Tryz.prog 266 (Zch p0 p1 p2 p3_0) (.x fun (w00 : Value) => .x fun (b01 : Nat) => .d [cV w00, cI p1, cI p2, C.clo 208 [pt b01]] [oA w00 3 kI64 1 p0, oB b01 39 [cM kI64 1 p3_0]] fun r => .d (C.tup []) [oA w00 3 kI64 1 r, oB b01 39 [cM kI64 1 p3_0]]) := ⟨fun w00 b01 => so Tryz.func266 rfl rfl fun r X h => gh (.l2 (fun l61 x62 => .d [(8, cI x62)] [oA w00 3 kI64 1 l61]) [0,1,2,3] [1] (.b (.c1 (fun l122 => .d [] [oA w00 3 kI64 1 l122]) [0,1,2,3,8] [1] (.l2 (fun l92 x93 => .d [(9, cI x93)] [oA w00 3 kI64 1 l92]) [0,1,2,3,8] [1] (.q 1 (.c1 (fun x110 => .d [(34, C.bool x110)] []) [0,1,2,3,8,9] [0,1] (.r [0] [8,13] [] [0,4,8,12,16,20,24,28,33,36,40,44,48,53,58,60,64] .z) (.b (.r [0,0] [9,13] [15,17] [0,4,8,12,16,20,24,28,32,37,40,44,48,53,56,63,64,71] (.w 16 .z)) .z)))) .z) .z))⟩

def Zcj (p1 : Int) (p2 : Int) (p3 : Int) (l12 : List Int) (x13 : Int) : Option ((List Int × Int) ⊕ ((List Int))) := cond (decide (x13 < p3)) ((getI l12 (IntKind.i64.wrap (p2 + x13))).bind fun e15 => (getI l12 (IntKind.i64.wrap (p1 + x13))).bind fun e17 => (getI (List.set l12 (Int.toNat (IntKind.i64.wrap (p1 + x13))) e15) (IntKind.i64.wrap (p2 + x13))).bind fun e23 => some (.inl ((List.set (List.set l12 (Int.toNat (IntKind.i64.wrap (p1 + x13))) e15) (Int.toNat (IntKind.i64.wrap (p2 + x13))) e17), (IntKind.i64.wrap (x13 + 1))))) (some (.inr l12))
def Zck (p0 : List Int) (p1 : Int) (p2 : Int) (p3 : Int) (p4_0 : List Int) : Option (List Int) := (iter (fun z25 => Zcj p1 p2 p3 z25.1 z25.2) big (p0, 0)).bind fun y26 => some y26
instance Zcl (p0 : List Int) (p1 : Int) (p2 : Int) (p3 : Int) (p4_0 : List Int) : SpO Tryz.prog 288 (Zck p0 p1 p2 p3 p4_0) (.x fun (w00 : Value) => .x fun (b01 : Nat) => .d [cV w00, cI p1, cI p2, cI p3, C.clo 208 [pt b01]] [oA w00 3 kI64 1 p0, oB b01 39 [cM kI64 1 p4_0]] fun r => .d (C.tup []) [oA w00 3 kI64 1 r, oB b01 39 [cM kI64 1 p4_0]]) := ⟨fun w00 b01 => so Tryz.func288 rfl rfl fun r X h => gh (.l2 (fun l12 x13 => .d [(10, cI x13)] [oA w00 3 kI64 1 l12]) [0,1,2,3] [1] (.b (.r [0,0] [13,19] [21,23] [0,4,8,12,16,20,24,28,32,36,40,44,48,53,56,60,64,68,72,77,80,87,88,95] (.w 22 .z)) .z))⟩

def Zcm (p2 : Int) (p4_0 : List Int) (l16 : List Int) (x17 : Int) : Option (List Int) := (Zck l16 (IntKind.i64.wrap (p2 - x17)) p2 x17 p4_0).bind fun r18 => some r18
def Zcn (p2 : Int) (p4_0 : List Int) (l7 : List Int) (x8 : Int) (x9 : Int) : Option ((List Int × Int × Int) ⊕ ((List Int × Int))) := cond (x8 != x9) (cond (decide (x8 > x9)) ((Zck l7 (IntKind.i64.wrap (p2 - x8)) p2 x9 p4_0).bind fun r12 => some (.inl (r12, (IntKind.i64.wrap (x8 - x9)), x9))) ((Zck l7 (IntKind.i64.wrap (p2 - x8)) (IntKind.i64.wrap ((IntKind.i64.wrap (p2 + x9)) - x8)) x8 p4_0).bind fun r14 => some (.inl (r14, x8, (IntKind.i64.wrap (x9 - x8)))))) (some (.inr (l7, x8)))
def Zco (p0 : List Int) (p1 : Int) (p2 : Int) (p3 : Int) (p4_0 : List Int) : Option (List Int) := (iter (fun z20 => Zcn p2 p4_0 z20.1 z20.2.1 z20.2.2) big (p0, (IntKind.i64.wrap (p2 - p1)), (IntKind.i64.wrap (p3 - p2)))).bind fun (y21, y22) => Zcm p2 p4_0 y21 y22
instance Zcp (p0 : List Int) (p1 : Int) (p2 : Int) (p3 : Int) (p4_0 : List Int) : SpO Tryz.prog 276 (Zco p0 p1 p2 p3 p4_0) (.x fun (w00 : Value) => .x fun (b01 : Nat) => .d [cV w00, cI p1, cI p2, cI p3, C.clo 208 [pt b01]] [oA w00 3 kI64 1 p0, oB b01 39 [cM kI64 1 p4_0]] fun r => .d (C.tup []) [oA w00 3 kI64 1 r, oB b01 39 [cM kI64 1 p4_0]]) := ⟨fun w00 b01 => so Tryz.func276 rfl rfl fun r X h => gh (.q 2 (.c2 (fun l16 x17 => .d [(10, cI x17)] [oA w00 3 kI64 1 l16]) [0,2,4] [1] (.l3 (fun l7 x8 x9 => .d [(10, cI x8), (11, cI x9)] [oA w00 3 kI64 1 l7]) [0,2,4] [1] .z) .z))⟩

def Zcq (l61 : List Int) : Option (List Int) := some l61
def Zcr (x36 : Int) (l48 : List Int) (x49 : Int) : Option ((List Int × Int) ⊕ ((List Int))) := cond (decide (x49 < (IntKind.i64.wrap (x36 - 1)))) ((getI l48 (IntKind.i64.wrap (x49 + 1))).bind fun e51 => (getI l48 x49).bind fun e53 => (getI (List.set l48 (Int.toNat x49) e51) (IntKind.i64.wrap (x49 + 1))).bind fun e59 => some (.inl ((List.set (List.set l48 (Int.toNat x49) e51) (Int.toNat (IntKind.i64.wrap (x49 + 1))) e53), (IntKind.i64.wrap (x49 + 1))))) (some (.inr l48))
def Zcs (p0 : List Int) (p1 : Int) (x36 : Int) : Option (List Int) := (iter (fun z178 => Zcr x36 z178.1 z178.2) big (p0, p1)).bind fun y179 => Zcq y179
def Zct (p0 : List Int) (p1 : Int) (p4_0 : List Int) (x18 : Int) (x19 : Int) : Option ((Int × Int) ⊕ (Int)) := cond (decide (x18 < x19)) ((getI p0 (IntKind.i64.wrap (shrI .u64 (IntKind.u64.wrap (IntKind.i64.wrap (x18 + x19))) 1))).bind fun e29 => (getI p0 p1).bind fun e31 => (Zcb e29 e31 p4_0).bind fun r33 => cond (decide (r33 < 0)) (some (.inl ((IntKind.i64.wrap ((IntKind.i64.wrap (shrI .u64 (IntKind.u64.wrap (IntKind.i64.wrap (x18 + x19))) 1)) + 1)), x19))) (some (.inl (x18, (IntKind.i64.wrap (shrI .u64 (IntKind.u64.wrap (IntKind.i64.wrap (x18 + x19))) 1)))))) (some (.inr x18))
def Zcu (l122 : List Int) : Option (List Int) := some l122
def Zcv (x97 : Int) (l109 : List Int) (x110 : Int) : Option ((List Int × Int) ⊕ ((List Int))) := cond (decide (x110 > x97)) ((getI l109 (IntKind.i64.wrap (x110 - 1))).bind fun e112 => (getI l109 x110).bind fun e114 => (getI (List.set l109 (Int.toNat x110) e112) (IntKind.i64.wrap (x110 - 1))).bind fun e120 => some (.inl ((List.set (List.set l109 (Int.toNat x110) e112) (Int.toNat (IntKind.i64.wrap (x110 - 1))) e114), (IntKind.i64.wrap (x110 - 1))))) (some (.inr l109))
def Zcw (p0 : List Int) (p2 : Int) (x97 : Int) : Option (List Int) := (iter (fun z182 => Zcv x97 z182.1 z182.2) big (p0, p2)).bind fun y183 => Zcu y183
def Zcx (p0 : List Int) (p2 : Int) (p4_0 : List Int) (x79 : Int) (x80 : Int) : Option ((Int × Int) ⊕ (Int)) := cond (decide (x79 < x80)) ((getI p0 p2).bind fun e90 => (getI p0 (IntKind.i64.wrap (shrI .u64 (IntKind.u64.wrap (IntKind.i64.wrap (x79 + x80))) 1))).bind fun e92 => (Zcb e90 e92 p4_0).bind fun r94 => cond (decide (r94 < 0)) (some (.inl (x79, (IntKind.i64.wrap (shrI .u64 (IntKind.u64.wrap (IntKind.i64.wrap (x79 + x80))) 1))))) (some (.inl ((IntKind.i64.wrap ((IntKind.i64.wrap (shrI .u64 (IntKind.u64.wrap (IntKind.i64.wrap (x79 + x80))) 1)) + 1)), x80)))) (some (.inr x79))
def Zcy (p1 : Int) (p2 : Int) (p3 : Int) (p4_0 : List Int) (self_ : (List Int) → Int → Int → Int → (List Int) → Option (List Int)) (x160 : Int) (l172 : List Int) (x174 : Bool) : Option (List Int) := cond x174 ((self_ l172 (IntKind.i64.wrap (shrI .u64 (IntKind.u64.wrap (IntKind.i64.wrap (p1 + p3))) 1)) (IntKind.i64.wrap ((IntKind.i64.wrap ((IntKind.i64.wrap (shrI .u64 (IntKind.u64.wrap (IntKind.i64.wrap (p1 + p3))) 1)) + p2)) - x160)) p3 p4_0).bind fun r176 => some r176) (some l172)
def Zcz (p1 : Int) (p2 : Int) (p3 : Int) (p4_0 : List Int) (self_ : (List Int) → Int → Int → Int → (List Int) → Option (List Int)) (x160 : Int) (l172 : List Int) : Option (List Int) := cond (decide ((IntKind.i64.wrap (shrI .u64 (IntKind.u64.wrap (IntKind.i64.wrap (p1 + p3))) 1)) < (IntKind.i64.wrap ((IntKind.i64.wrap ((IntKind.i64.wrap (shrI .u64 (IntKind.u64.wrap (IntKind.i64.wrap (p1 + p3))) 1)) + p2)) - x160)))) (Zcy p1 p2 p3 p4_0 self_ x160 l172 (decide ((IntKind.i64.wrap ((IntKind.i64.wrap ((IntKind.i64.wrap (shrI .u64 (IntKind.u64.wrap (IntKind.i64.wrap (p1 + p3))) 1)) + p2)) - x160)) < p3))) (Zcy p1 p2 p3 p4_0 self_ x160 l172 false)
def Zd0 (p1 : Int) (p2 : Int) (p3 : Int) (p4_0 : List Int) (self_ : (List Int) → Int → Int → Int → (List Int) → Option (List Int)) (x160 : Int) (l166 : List Int) (x168 : Bool) : Option (List Int) := cond x168 ((self_ l166 p1 x160 (IntKind.i64.wrap (shrI .u64 (IntKind.u64.wrap (IntKind.i64.wrap (p1 + p3))) 1)) p4_0).bind fun r170 => Zcz p1 p2 p3 p4_0 self_ x160 r170) (Zcz p1 p2 p3 p4_0 self_ x160 l166)
def Zd1 (p1 : Int) (p2 : Int) (p3 : Int) (p4_0 : List Int) (self_ : (List Int) → Int → Int → Int → (List Int) → Option (List Int)) (x160 : Int) (l166 : List Int) : Option (List Int) := cond (decide (p1 < x160)) (Zd0 p1 p2 p3 p4_0 self_ x160 l166 (decide (x160 < (IntKind.i64.wrap (shrI .u64 (IntKind.u64.wrap (IntKind.i64.wrap (p1 + p3))) 1))))) (Zd0 p1 p2 p3 p4_0 self_ x160 l166 false)
def Zd2 (p0 : List Int) (p1 : Int) (p2 : Int) (p3 : Int) (p4_0 : List Int) (self_ : (List Int) → Int → Int → Int → (List Int) → Option (List Int)) (x160 : Int) (x162 : Bool) : Option (List Int) := cond x162 ((Zco p0 x160 p2 (IntKind.i64.wrap ((IntKind.i64.wrap ((IntKind.i64.wrap (shrI .u64 (IntKind.u64.wrap (IntKind.i64.wrap (p1 + p3))) 1)) + p2)) - x160)) p4_0).bind fun r164 => Zd1 p1 p2 p3 p4_0 self_ x160 r164) (Zd1 p1 p2 p3 p4_0 self_ x160 p0)
def Zd3 (p0 : List Int) (p1 : Int) (p2 : Int) (p3 : Int) (p4_0 : List Int) (self_ : (List Int) → Int → Int → Int → (List Int) → Option (List Int)) (x160 : Int) : Option (List Int) := cond (decide (x160 < p2)) (Zd2 p0 p1 p2 p3 p4_0 self_ x160 (decide (p2 < (IntKind.i64.wrap ((IntKind.i64.wrap ((IntKind.i64.wrap (shrI .u64 (IntKind.u64.wrap (IntKind.i64.wrap (p1 + p3))) 1)) + p2)) - x160))))) (Zd2 p0 p1 p2 p3 p4_0 self_ x160 false)
def Zd4 (p0 : List Int) (p1 : Int) (p2 : Int) (p3 : Int) (p4_0 : List Int) (x142 : Int) (x143 : Int) : Option ((Int × Int) ⊕ (Int)) := cond (decide (x142 < x143)) ((getI p0 (IntKind.i64.wrap ((IntKind.i64.wrap ((IntKind.i64.wrap ((IntKind.i64.wrap (shrI .u64 (IntKind.u64.wrap (IntKind.i64.wrap (p1 + p3))) 1)) + p2)) - 1)) - (IntKind.i64.wrap (shrI .u64 (IntKind.u64.wrap (IntKind.i64.wrap (x142 + x143))) 1))))).bind fun e153 => (getI p0 (IntKind.i64.wrap (shrI .u64 (IntKind.u64.wrap (IntKind.i64.wrap (x142 + x143))) 1))).bind fun e155 => (Zcb e153 e155 p4_0).bind fun r157 => cond (decide (r157 < 0)) (some (.inl (x142, (IntKind.i64.wrap (shrI .u64 (IntKind.u64.wrap (IntKind.i64.wrap (x142 + x143))) 1))))) (some (.inl ((IntKind.i64.wrap ((IntKind.i64.wrap (shrI .u64 (IntKind.u64.wrap (IntKind.i64.wrap (x142 + x143))) 1)) + 1)), x143)))) (some (.inr x142))
def Zd5 (p0 : List Int) (p1 : Int) (p2 : Int) (p3 : Int) (p4_0 : List Int) (self_ : (List Int) → Int → Int → Int → (List Int) → Option (List Int)) (x124 : Int) (x125 : Int) : Option (List Int) := (iter (fun z186 => Zd4 p0 p1 p2 p3 p4_0 z186.1 z186.2) big (x124, x125)).bind fun y187 => Zd3 p0 p1 p2 p3 p4_0 self_ y187
def Zd6 (self_ : (List Int) → Int → Int → Int → (List Int) → Option (List Int)) (p0 : List Int) (p1 : Int) (p2 : Int) (p3 : Int) (p4_0 : List Int) : Option (List Int) := cond ((IntKind.i64.wrap (p2 - p1)) == 1) ((iter (fun z180 => Zct p0 p1 p4_0 z180.1 z180.2) big (p2, p3)).bind fun y181 => Zcs p0 p1 y181) (cond ((IntKind.i64.wrap (p3 - p2)) == 1) ((iter (fun z184 => Zcx p0 p2 p4_0 z184.1 z184.2) big (p1, p2)).bind fun y185 => Zcw p0 p2 y185) (cond (decide (p2 > (IntKind.i64.wrap (shrI .u64 (IntKind.u64.wrap (IntKind.i64.wrap (p1 + p3))) 1)))) (Zd5 p0 p1 p2 p3 p4_0 self_ (IntKind.i64.wrap ((IntKind.i64.wrap ((IntKind.i64.wrap (shrI .u64 (IntKind.u64.wrap (IntKind.i64.wrap (p1 + p3))) 1)) + p2)) - p3)) (IntKind.i64.wrap (shrI .u64 (IntKind.u64.wrap (IntKind.i64.wrap (p1 + p3))) 1))) (Zd5 p0 p1 p2 p3 p4_0 self_ p1 p2)))
theorem Zd7 (self_ : (List Int) → Int → Int → Int → (List Int) → Option (List Int)) [hself_ : ∀ (p0 : List Int) (p1 : Int) (p2 : Int) (p3 : Int) (p4_0 : List Int), SpO Tryz.prog 267 (self_ p0 p1 p2 p3 p4_0) (.x fun (w00 : Value) => .x fun (b01 : Nat) => .d [cV w00, cI p1, cI p2, cI p3, C.clo 208 [pt b01]] [oA w00 3 kI64 1 p0, oB b01 39 [cM kI64 1 p4_0]] fun r => .d (C.tup []) [oA w00 3 kI64 1 r, oB b01 39 [cM kI64 1 p4_0]])] (p0 : List Int) (p1 : Int) (p2 : Int) (p3 : Int) (p4_0 : List Int) : SpO Tryz.prog 267 (Zd6 self_ p0 p1 p2 p3 p4_0) (.x fun (w00 : Value) => .x fun (b01 : Nat) => .d [cV w00, cI p1, cI p2, cI p3, C.clo 208 [pt b01]] [oA w00 3 kI64 1 p0, oB b01 39 [cM kI64 1 p4_0]] fun r => .d (C.tup []) [oA w00 3 kI64 1 r, oB b01 39 [cM kI64 1 p4_0]]) := ⟨fun w00 b01 => so Tryz.func267 rfl rfl fun r X h => gh (.b (.q 2 (.c1 (fun x36 => .d [(10, cI x36)] []) [0,1] [0,1] (.l2 (fun x18 x19 => .d [(10, cI x18), (11, cI x19)] []) [0,1,4] [0,1] (.b (.r [0] [4,8] [] [0,4,8,12,17,20,24,28,33,38,40] .z) .z)) (.c1 (fun l61 => .d [] [oA w00 3 kI64 1 l61]) [] [1] (.l2 (fun l48 x49 => .d [(13, cI x49)] [oA w00 3 kI64 1 l48]) [0,10] [1] (.b (.r [0,0] [9,13] [15,17] [0,4,8,12,16,20,24,28,32,37,40,44,48,53,56,63,64,71] (.w 16 .z)) .z)) .z))) (.b (.q 2 (.c1 (fun x97 => .d [(14, cI x97)] []) [0,2] [0,1] (.l2 (fun x79 x80 => .d [(14, cI x79), (15, cI x80)] []) [0,2,4] [0,1] (.b (.r [0] [4,8] [] [0,4,8,12,17,20,24,28,33,38,40,44] .z) .z)) (.c1 (fun l122 => .d [] [oA w00 3 kI64 1 l122]) [] [1] (.l2 (fun l109 x110 => .d [(17, cI x110)] [oA w00 3 kI64 1 l109]) [0,14] [1] (.b (.r [0,0] [9,13] [15,17] [0,4,8,12,16,20,24,28,32,37,40,44,48,53,56,63,64,71] (.w 16 .z)) .z)) .z))) (.q 3 (.c2 (fun x124 x125 => .d [(20, cI x124), (21, cI x125)] []) [0,1,2,3,4,18,19] [0,1] .z (.q 1 (.c1 (fun x160 => .d [(20, cI x160)] []) [0,1,2,3,4,18,19] [0,1] (.l2 (fun x142 x143 => .d [(20, cI x142), (21, cI x143)] []) [0,1,2,3,4,18,19,22] [0,1] (.b (.r [0] [6,10] [] [0,4,8,12,16,20,25,28,32,36,41,46,48,52] .z) .z)) (.q 1 (.c1 (fun l166 => .d [] [oA w00 3 kI64 1 l166]) [0,1,3,4,18,20,24] [1] (.c1 (fun x162 => .d [(185, C.bool x162)] []) [0,1,2,3,4,18,20,24] [0,1] .z .z) (.c1 (fun l172 => .d [] [oA w00 3 kI64 1 l172]) [0,3,4,18,24] [1] (.c1 (fun x168 => .d [(199, C.bool x168)] []) [0,1,3,4,18,20,24] [0,1] .z .z) (.c1 (fun x174 => .d [(213, C.bool x174)] []) [0,3,4,18,24] [0,1] .z .z))))))))))⟩
def Zd8 : Nat → (List Int) → Int → Int → Int → (List Int) → Option (List Int)
  | 0 => fun _ _ _ _ _ => none
  | n_ + 1 => Zd6 (Zd8 n_)
theorem Zd9 : ∀ (n_ : Nat) (p0 : List Int) (p1 : Int) (p2 : Int) (p3 : Int) (p4_0 : List Int), SpO Tryz.prog 267 (Zd8 n_ p0 p1 p2 p3 p4_0) (.x fun (w00 : Value) => .x fun (b01 : Nat) => .d [cV w00, cI p1, cI p2, cI p3, C.clo 208 [pt b01]] [oA w00 3 kI64 1 p0, oB b01 39 [cM kI64 1 p4_0]] fun r => .d (C.tup []) [oA w00 3 kI64 1 r, oB b01 39 [cM kI64 1 p4_0]])
  | 0, p0, p1, p2, p3, p4_0 => ⟨fun w00 b01 r h => nomatch h⟩
  | n_ + 1, p0, p1, p2, p3, p4_0 => @Zd7 (Zd8 n_) (Zd9 n_) p0 p1 p2 p3 p4_0
def Zda (p0 : List Int) (p1 : Int) (p2 : Int) (p3 : Int) (p4_0 : List Int) : Option (List Int) := Zd8 big p0 p1 p2 p3 p4_0
instance Zdb (p0 : List Int) (p1 : Int) (p2 : Int) (p3 : Int) (p4_0 : List Int) : SpO Tryz.prog 267 (Zda p0 p1 p2 p3 p4_0) (.x fun (w00 : Value) => .x fun (b01 : Nat) => .d [cV w00, cI p1, cI p2, cI p3, C.clo 208 [pt b01]] [oA w00 3 kI64 1 p0, oB b01 39 [cM kI64 1 p4_0]] fun r => .d (C.tup []) [oA w00 3 kI64 1 r, oB b01 39 [cM kI64 1 p4_0]]) := Zd9 big p0 p1 p2 p3 p4_0

def Zdc (x31 : Int) (l47 : List Int) : Option ((List Int × Int) ⊕ ((List Int))) := some (.inl (l47, (IntKind.i64.wrap (x31 * 2))))
def Zdd (p1 : Int) (p2_0 : List Int) (x31 : Int) (l42 : List Int) (x43 : Int) : Option ((List Int × Int) ⊕ ((List Int))) := cond (decide ((IntKind.i64.wrap (x43 + x31)) < p1)) ((Zda l42 x43 (IntKind.i64.wrap (x43 + x31)) p1 p2_0).bind fun r45 => Zdc x31 r45) (Zdc x31 l42)
def Zde (p1 : Int) (p2_0 : List Int) (x31 : Int) (l36 : List Int) (x37 : Int) (x38 : Int) : Option ((List Int × Int × Int) ⊕ ((List Int × Int))) := cond (decide (x38 ≤ p1)) ((Zda l36 x37 (IntKind.i64.wrap (x37 + x31)) x38 p2_0).bind fun r40 => some (.inl (r40, x38, (IntKind.i64.wrap (x38 + (IntKind.i64.wrap (2 * x31))))))) (some (.inr (l36, x37)))
def Zdf (p1 : Int) (p2_0 : List Int) (l30 : List Int) (x31 : Int) : Option ((List Int × Int) ⊕ ((List Int))) := cond (decide (x31 < p1)) ((iter (fun z48 => Zde p1 p2_0 x31 z48.1 z48.2.1 z48.2.2) big (l30, 0, (IntKind.i64.wrap (2 * x31)))).bind fun (y49, y50) => Zdd p1 p2_0 x31 y49 y50) (some (.inr l30))
def Zdg (p1 : Int) (p2_0 : List Int) (l10 : List Int) (x11 : Int) : Option (List Int) := (Zch l10 x11 p1 p2_0).bind fun r12 => (iter (fun z51 => Zdf p1 p2_0 z51.1 z51.2) big (r12, 20)).bind fun y52 => some y52
def Zdh (p1 : Int) (p2_0 : List Int) (l4 : List Int) (x5 : Int) (x6 : Int) : Option ((List Int × Int × Int) ⊕ ((List Int × Int))) := cond (decide (x6 ≤ p1)) ((Zch l4 x5 x6 p2_0).bind fun r8 => some (.inl (r8, x6, (IntKind.i64.wrap (x6 + 20))))) (some (.inr (l4, x5)))
def Zdi (p0 : List Int) (p1 : Int) (p2_0 : List Int) : Option (List Int) := (iter (fun z53 => Zdh p1 p2_0 z53.1 z53.2.1 z53.2.2) big (p0, 0, 20)).bind fun (y54, y55) => Zdg p1 p2_0 y54 y55
instance Zdj (p0 : List Int) (p1 : Int) (p2_0 : List Int) : SpO Tryz.prog 243 (Zdi p0 p1 p2_0) (.x fun (w00 : Value) => .x fun (b01 : Nat) => .d [cV w00, cI p1, C.clo 208 [pt b01]] [oA w00 3 kI64 1 p0, oB b01 39 [cM kI64 1 p2_0]] fun r => .d (C.tup []) [oA w00 3 kI64 1 r, oB b01 39 [cM kI64 1 p2_0]]) := ⟨fun w00 b01 => so Tryz.func243 rfl rfl fun r X h => gh (.q 2 (.c2 (fun l10 x11 => .d [(7, cI x11)] [oA w00 3 kI64 1 l10]) [0,1,2,6] [1] (.l3 (fun l4 x5 x6 => .d [(7, cI x5), (8, cI x6)] [oA w00 3 kI64 1 l4]) [0,1,2,6] [1] .z) (.l2 (fun l30 x31 => .d [(6, cI x31)] [oA w00 3 kI64 1 l30]) [0,1,2] [1] (.b (.q 1 (.c2 (fun l42 x43 => .d [(7, cI x43)] [oA w00 3 kI64 1 l42]) [0,1,2,6] [1] (.l3 (fun l36 x37 x38 => .d [(7, cI x37), (8, cI x38)] [oA w00 3 kI64 1 l36]) [0,1,2,6] [1] .z) (.c1 (fun l47 => .d [] [oA w00 3 kI64 1 l47]) [0,1,2,6] [1] .z .z))) .z))))⟩

def Zdk (p0 : List Int) (p1_0 : List Int) : Option (List Int) := (Zdi p0 (p0.length : Int) p1_0).bind fun r1 => some r1
instance Zdl (p0 : List Int) (p1_0 : List Int) : SpO Tryz.prog 207 (Zdk p0 p1_0) (.x fun (w00 : Value) => .x fun (b01 : Nat) => .d [cV w00, C.clo 208 [pt b01]] [oA w00 3 kI64 1 p0, oB b01 39 [cM kI64 1 p1_0]] fun r => .d (C.tup []) [oA w00 3 kI64 1 r, oB b01 39 [cM kI64 1 p1_0]]) := ⟨fun w00 b01 => so Tryz.func207 rfl rfl fun r X h => gh .z⟩

def Zdm (l46 : List Int) : Option (List Int) := some l46
def Zdn (p0 : Y9k) (r21 : List Int) (l34 : List Int) (x35 : Int) : Option ((List Int × Int) ⊕ ((List Int))) := cond (decide (x35 < (r21.length : Int))) ((getI r21 x35).bind fun e37 => (getI p0.events e37).bind fun e39 => (chk (decide ((l34.length + [e39.id].length) * 8 ≤ 140737488355328))).bind fun u43 => some (.inl ((l34 ++ [e39.id]), (IntKind.i64.wrap (x35 + 1))))) (some (.inr l34))
def Zdo (p0 : Y9k) (r2 : List Int × Bool) (l20 : List Int) : Option (List Int) := (Zdk l20 r2.1).bind fun r21 => (iter (fun z48 => Zdn p0 r21 z48.1 z48.2) big (([] : List Int), 0)).bind fun y49 => Zdm y49
def Zdp (p0 : Y9k) (l12 : List Int) (x13 : Int) : Option ((List Int × Int) ⊕ ((List Int))) := cond (decide (x13 < (p0.events.length : Int))) ((chk (decide ((l12.length + [x13].length) * 8 ≤ 140737488355328))).bind fun u17 => some (.inl ((l12 ++ [x13]), (IntKind.i64.wrap (x13 + 1))))) (some (.inr l12))
def Zdq (p0 : Y9k) : Option (List Int) := (Zay p0).bind fun r2 => (iter (fun z50 => Zdp p0 z50.1 z50.2) big (([] : List Int), 0)).bind fun y51 => Zdo p0 r2 y51
instance Zdr (p0 : Y9k) : SpO Tryz.prog 148 (Zdq p0) (.d [C.agg [cI p0.room, cM Y9q 9 p0.events, cM Y9q 9 p0.parked]] [] fun r => .x fun (v47 : Value) => .d (cV v47) [oA v47 2 kI64 1 r]) := ⟨so Tryz.func148 rfl rfl fun r X h => gh (.q 3 (.c1 (fun l20 => .x fun v19 => .d [(5, cV v19)] [oA v19 3 kI64 1 l20]) [1,3] [2,1] (.l2 (fun l12 x13 => .x fun v11 => .d [(5, cV v11), (19, cI x13)] [oA v11 3 kI64 1 l12]) [1,3,18] [2,1] .z) (.q 2 (.c1 (fun l46 => .x fun v45 => .d [(7, cV v45)] [oA v45 2 kI64 1 l46]) [] [] (.l2 (fun l34 x35 => .x fun v33 => .d [(7, cV v33), (33, cI x35)] [oA v33 2 kI64 1 l34]) [1,31,32] [3,1] .z) .z))))⟩
instance Zdr' (p0 : Y9k) : Sp Tryz.prog 148 [C.agg [cI p0.room, cM Y9q 9 p0.events, cM Y9q 9 p0.parked]] (Zdq p0) (fun r => cM kI64 1 r) := ⟨fun r h => Ok.freeze ((Zdr p0).h r h) (by rintro c qs ⟨v47, rfl, rfl⟩; exact Frz.arr)⟩

def Zds (l20 : List (List Y9m)) : Option (List (List Y9m)) := some l20
def Zdt (p0 : Y9p) (p1 : List Int) (l10 : List (List Y9m)) (x11 : Int) : Option ((List (List Y9m) × Int) ⊕ ((List (List Y9m)))) := cond (decide (x11 < (p1.length : Int))) ((getI p1 x11).bind fun e13 => (chk (decide ((l10.length + [(Option.getD (mget p0.after e13) ([] : List Y9m))].length) * 24 ≤ 140737488355328))).bind fun u17 => some (.inl ((l10 ++ [(Option.getD (mget p0.after e13) ([] : List Y9m))]), (IntKind.i64.wrap (x11 + 1))))) (some (.inr l10))
def Zdu (p0 : Y9p) (p1 : List Int) : Option (List (List Y9m)) := (iter (fun z22 => Zdt p0 p1 z22.1 z22.2) big (([] : List (List Y9m)), 0)).bind fun y23 => Zds y23
instance Zdv (p0 : Y9p) (p1 : List Int) : SpO Tryz.prog 170 (Zdu p0 p1) (.x fun (b00 : Nat) => .x fun (b01 : Nat) => .x fun (b02 : Nat) => .x fun (b03 : Nat) => .x fun (b04 : Nat) => .d [pt b00, cM kI64 1 p1] [oB b00 100 [cI p0.graph.room, cM Y9q 9 p0.graph.events, cM Y9q 9 p0.graph.parked, mt b01, mt b02, mt b03, mt b04], Abs.Obj.map b01 .i64 Y9u p0.depth, Abs.Obj.map b02 .i64 Y9v p0.before, Abs.Obj.map b03 .i64 Y9v p0.after, Abs.Obj.map b04 .i64 Y9u p0.refused] fun r => .x fun (v21 : Value) => .d (cV v21) [oA v21 29 Y9s 1 r, oB b00 100 [cI p0.graph.room, cM Y9q 9 p0.graph.events, cM Y9q 9 p0.graph.parked, mt b01, mt b02, mt b03, mt b04], Abs.Obj.map b01 .i64 Y9u p0.depth, Abs.Obj.map b02 .i64 Y9v p0.before, Abs.Obj.map b03 .i64 Y9v p0.after, Abs.Obj.map b04 .i64 Y9u p0.refused]) := ⟨fun b00 b01 b02 b03 b04 => so Tryz.func170 rfl rfl fun r X h => gh (.q 2 (.c1 (fun l20 => .x fun v19 => .d [(5, cV v19)] [oA v19 29 Y9s 1 l20]) [] [1,2,3,4,5] (.l2 (fun l10 x11 => .x fun v9 => .d [(5, cV v9), (11, cI x11)] [oA v9 29 Y9s 1 l10]) [0,9,10] [1,2,3,4,5] .z) .z))⟩

def Zdw : Option Int := some (-1)
def Zdx (p0 : List Y9m) (p1 : Y9m) (x6 : Int) : Option (Int ⊕ (Int ⊕ Unit)) := cond (decide (x6 < (p0.length : Int))) ((getI p0 x6).bind fun e8 => cond ((p1.kind == e8.kind) && ((p1.key == e8.key) && ((p1.id == e8.id) && true))) (some (.inr (.inl x6))) (some (.inl (IntKind.i64.wrap (x6 + 1))))) (some (.inr (.inr ())))
def Zdy (p0 : List Y9m) (p1 : Y9m) : Option Int := (iter (Zdx p0 p1) big 0).bind (fun z12 => match z12 with | .inl y11 => some y11 | .inr () => Zdw)
instance Zdz (p0 : List Y9m) (p1 : Y9m) : Sp Tryz.prog 210 [cM Y9r 3 p0, C.agg [cI p1.kind, cI p1.key, cI p1.id]] (Zdy p0 p1) (fun r => cI r) := Sp.of (so Tryz.func210 rfl rfl fun r X h => gh (.q 1 (.c0 (.d [] []) [] [] (.l1 (fun x6 => .d [(8, cI x6)] []) [0,3,7] [0] (.b (.r [0] [0,4] [] [1,4,8,12,17,20] .z) .z)) .z)))

def Ze0 (p0 : List Y9m) (p1 : Y9m) : Option Bool := (Zdy p0 p1).bind fun r2 => some (decide (r2 ≥ 0))
instance Ze1 (p0 : List Y9m) (p1 : Y9m) : Sp Tryz.prog 151 [cM Y9r 3 p0, C.agg [cI p1.kind, cI p1.key, cI p1.id]] (Ze0 p0 p1) (fun r => C.bool r) := Sp.of (so Tryz.func151 rfl rfl fun r X h => gh .z)

def Ze2 (x6 : Bool) : Option Bool := some x6
def Ze3 (p0 : Y9j) : Option Bool := cond (p0.kind == 1) (Ze2 true) (cond (p0.kind == 3) (Ze2 true) (cond (p0.kind == 5) (Ze2 true) (cond (p0.kind == 2) (Ze2 (p0.key != p0.author)) (Ze2 false))))
instance Ze4 (p0 : Y9j) : Sp Tryz.prog 154 [C.agg [cI p0.id, cI p0.room, cI p0.author, cI p0.kind, cI p0.key, cI p0.n, C.str p0.text, cM kI64 1 p0.prev, cI p0.time]] (Ze3 p0) (fun r => C.bool r) := Sp.of (so Tryz.func154 rfl rfl fun r X h => gh (.q 1 (.c1 (fun x6 => .d [(2, C.bool x6)] []) [] [] .z .z)))

def Ze5 (x16 : Int) (x22 : Bool) : Option (Int × Bool) := some (x16, x22)
def Ze6 (p0 : List Y9m) (p1 : Y9m) (x16 : Int) : Option (Int × Bool) := cond (decide (x16 < (p0.length : Int))) ((getI p0 x16).bind fun e18 => (Zbo e18 p1).bind fun r20 => Ze5 x16 (r20 == 0)) (Ze5 x16 false)
def Ze7 (p0 : List Y9m) (p1 : Y9m) (x8 : Int) (x9 : Int) : Option ((Int × Int) ⊕ (Int)) := cond (decide (x8 < x9)) ((getI p0 (IntKind.i64.wrap (shrI .u64 (IntKind.u64.wrap (IntKind.i64.wrap (x8 + x9))) 1))).bind fun e11 => (Zbo e11 p1).bind fun r13 => cond (decide (r13 < 0)) (some (.inl ((IntKind.i64.wrap ((IntKind.i64.wrap (shrI .u64 (IntKind.u64.wrap (IntKind.i64.wrap (x8 + x9))) 1)) + 1)), x9))) (some (.inl (x8, (IntKind.i64.wrap (shrI .u64 (IntKind.u64.wrap (IntKind.i64.wrap (x8 + x9))) 1)))))) (some (.inr x8))
def Ze8 (p0 : List Y9m) (p1 : Y9m) : Option (Int × Bool) := (iter (fun z23 => Ze7 p0 p1 z23.1 z23.2) big (0, (p0.length : Int))).bind fun y24 => Ze6 p0 p1 y24
instance Ze9 (p0 : List Y9m) (p1 : Y9m) : Sp Tryz.prog 234 [cM Y9r 3 p0, C.agg [cI p1.kind, cI p1.key, cI p1.id], cV (.func (.func 233) #[] #[])] (Ze8 p0 p1) (fun r => C.tup [cI r.1, C.bool r.2]) := Sp.of (so Tryz.func234 rfl rfl fun r X h => gh (.q 3 (.c1 (fun x16 => .d [(9, cI x16)] []) [0,2,4,8] [0] (.l2 (fun x8 x9 => .d [(9, cI x8), (10, cI x9)] []) [0,2,4,8] [0] (.b (.r [0] [4,5] [] [0,4,8,12,17,21,26,28] .z) .z)) (.e 9 cI fun x16 => .c1 (fun x22 => .d [(6, cI x16), (7, C.bool x22)] []) [] [] (.r [0] [9,10] [] [0,4,8,12,16,20,24,28,32,37,41,46,48,52,56,60] .z) .z))))

def Zea (p0 : List Y9m) (p1 : Y9m) : Option (Int × Bool) := (Ze8 p0 p1).bind fun r2 => some (r2.1, r2.2)
instance Zeb (p0 : List Y9m) (p1 : Y9m) : Sp Tryz.prog 175 [cM Y9r 3 p0, C.agg [cI p1.kind, cI p1.key, cI p1.id]] (Zea p0 p1) (fun r => C.tup [cI r.1, C.bool r.2]) := Sp.of (so Tryz.func175 rfl rfl fun r X h => gh .z)

def Zec (p0 : List Y9m) (p1 : Int) (p2 : Int) : Option Int := (Zea p0 (Y9m.mk p1 p2 0)).bind fun r1 => cond r1.2 ((getI p0 r1.1).bind fun e4 => some e4.id) (some 0)
instance Zed (p0 : List Y9m) (p1 : Int) (p2 : Int) : Sp Tryz.prog 95 [cM Y9r 3 p0, cI p1, cI p2] (Zec p0 p1 p2) (fun r => cI r) := Sp.of (so Tryz.func95 rfl rfl fun r X h => gh .z)

def Zee (p0 : Y9k) (p1 : List Y9m) (p2 : Int) (p3 : Int) : Option (Y9j × Bool) := (Zec p1 p2 p3).bind fun r3 => (Zbx p0 r3).bind fun r5 => some (r5.1, r5.2)
instance Zef (p0 : Y9k) (p1 : List Y9m) (p2 : Int) (p3 : Int) : Sp Tryz.prog 177 [C.agg [cI p0.room, cM Y9q 9 p0.events, cM Y9q 9 p0.parked], cM Y9r 3 p1, cI p2, cI p3] (Zee p0 p1 p2 p3) (fun r => C.tup [C.agg [cI r.1.id, cI r.1.room, cI r.1.author, cI r.1.kind, cI r.1.key, cI r.1.n, C.str r.1.text, cM kI64 1 r.1.prev, cI r.1.time], C.bool r.2]) := Sp.of (so Tryz.func177 rfl rfl fun r X h => gh (.r [0,0] [0] [8] [1,4,8,12,18,22,24,28,35,36] .z))

def Zeg (p0 : Y9k) (p1 : List Y9m) (p2 : Int) : Option Int := (Zee p0 p1 2 p2).bind fun r2 => some r2.1.n
instance Zeh (p0 : Y9k) (p1 : List Y9m) (p2 : Int) : Sp Tryz.prog 195 [C.agg [cI p0.room, cM Y9q 9 p0.events, cM Y9q 9 p0.parked], cM Y9r 3 p1, cI p2] (Zeg p0 p1 p2) (fun r => cI r) := Sp.of (so Tryz.func195 rfl rfl fun r X h => gh .z)

def Zei (x10 : Bool) : Option Int := cond x10 (some 100) (some 0)
def Zej (p0 : Y9k) (p1 : List Y9m) (p2 : Int) : Option Int := (Zee p0 p1 3 p2).bind fun r2 => cond r2.2 (some r2.1.n) ((Zee p0 p1 1 0).bind fun r6 => cond r6.2 (Zei (r6.1.author == p2)) (Zei false))
instance Zek (p0 : Y9k) (p1 : List Y9m) (p2 : Int) : Sp Tryz.prog 100 [C.agg [cI p0.room, cM Y9q 9 p0.events, cM Y9q 9 p0.parked], cM Y9r 3 p1, cI p2] (Zej p0 p1 p2) (fun r => cI r) := Sp.of (so Tryz.func100 rfl rfl fun r X h => gh (.b .z (.q 2 (.c1 (fun x10 => .d [(33, C.bool x10)] []) [] [] .z .z))))

def Zel (p0 : Bool) : Option Int := cond p0 (some 11) (some 0)
instance Zem (p0 : Bool) : Sp Tryz.prog 216 [C.bool p0] (Zel p0) (fun r => cI r) := Sp.of (so Tryz.func216 rfl rfl fun r X h => gh .z)

def Zen (x23 : Int) : Option Int := some x23
def Zeo (p0 : Y9k) (p1 : List Y9m) (p2 : Y9j) (p3 : Int) (x4 : Bool) : Option Int := cond (p2.n == 1) ((Zee p0 p1 5 0).bind fun r6 => (Zee p0 p1 1 0).bind fun r9 => cond (p3 == 3) ((Zel true).bind fun r13 => Zen r13) (cond x4 ((Zel false).bind fun r16 => Zen r16) (cond (r6.1.n != 1) ((Zel (r9.1.author != p2.author)).bind fun r19 => Zen r19) ((Zel false).bind fun r21 => Zen r21)))) (cond (p2.n == 2) ((Zel (!x4)).bind fun r25 => some r25) (some 11))
def Zep (p0 : Y9k) (p1 : List Y9m) (p2 : Y9j) (p3 : Int) : Option Int := cond (p3 == 1) (Zeo p0 p1 p2 p3 true) (Zeo p0 p1 p2 p3 (p3 == 4))
instance Zeq (p0 : Y9k) (p1 : List Y9m) (p2 : Y9j) (p3 : Int) : Sp Tryz.prog 214 [C.agg [cI p0.room, cM Y9q 9 p0.events, cM Y9q 9 p0.parked], cM Y9r 3 p1, C.agg [cI p2.id, cI p2.room, cI p2.author, cI p2.kind, cI p2.key, cI p2.n, C.str p2.text, cM kI64 1 p2.prev, cI p2.time], cI p3] (Zep p0 p1 p2 p3) (fun r => cI r) := Sp.of (so Tryz.func214 rfl rfl fun r X h => gh (.q 1 (.c1 (fun x4 => .d [(9, C.bool x4)] []) [1,3,4,6] [1,0] .z (.b (.q 2 (.c1 (fun x23 => .d [(8, cI x23)] []) [] [] .z .z)) .z))))

def Zer (x15 : Int) : Option Int := some x15
def Zes (x25 : Int) : Option Int := some x25
def Zet (x32 : Int) : Option Int := some x32
def Zeu (p2 : Y9j) (r3 : Int) (x8 : Bool) : Option Int := cond (p2.n == 4) (cond (r3 == 1) ((Zel true).bind fun r11 => Zer r11) ((Zel (r3 == 3)).bind fun r13 => Zer r13)) (cond (p2.n == 2) (cond x8 ((Zel true).bind fun r18 => Zes r18) (cond (r3 == 0) ((Zel true).bind fun r21 => Zes r21) ((Zel (r3 == 2)).bind fun r23 => Zes r23))) (cond (p2.n == 3) (cond x8 ((Zel true).bind fun r28 => Zet r28) ((Zel (r3 == 3)).bind fun r30 => Zet r30)) (some 11)))
def Zev (p0 : Y9k) (p1 : List Y9m) (p2 : Y9j) (p3 : Int) : Option Int := (Zeg p0 p1 p2.key).bind fun r3 => (Zej p0 p1 p2.key).bind fun r5 => cond (decide (p3 < 50)) (Zeu p2 r3 true) (Zeu p2 r3 (decide (p3 ≤ r5)))
instance Zew (p0 : Y9k) (p1 : List Y9m) (p2 : Y9j) (p3 : Int) : Sp Tryz.prog 215 [C.agg [cI p0.room, cM Y9q 9 p0.events, cM Y9q 9 p0.parked], cM Y9r 3 p1, C.agg [cI p2.id, cI p2.room, cI p2.author, cI p2.kind, cI p2.key, cI p2.n, C.str p2.text, cM kI64 1 p2.prev, cI p2.time], cI p3] (Zev p0 p1 p2 p3) (fun r => cI r) := Sp.of (so Tryz.func215 rfl rfl fun r X h => gh (.r [0,0] [0,3,5,8] [] [1,4,8,13,21,24,28,33,18,38,40,44] (.c1 (fun x8 => .d [(11, C.bool x8)] []) [6,9] [0] .z (.b (.c1 (fun x15 => .d [(8, cI x15)] []) [] [] .z .z) (.b (.c1 (fun x25 => .d [(8, cI x25)] []) [] [] .z .z) (.b (.c1 (fun x32 => .d [(8, cI x32)] []) [] [] .z .z) .z))))))

def Zex (x38 : Int) : Option Int := some x38
def Zey (x55 : Int) : Option Int := some x55
def Zez (p0 : Y9k) (p2 : Y9j) (r8 : Int) (x41 : Bool) : Option Int := cond x41 ((Zel (decide (r8 < 50))).bind fun r43 => some r43) (cond (p2.kind == 8) ((Zbx p0 p2.key).bind fun r46 => cond r46.2 (cond (decide (r8 < 50)) ((Zel (r46.1.author != p2.author)).bind fun r51 => Zey r51) ((Zel false).bind fun r53 => Zey r53)) (some 6)) (some 0))
def Zf0 (p0 : Y9k) (p1 : List Y9m) (p2 : Y9j) (r6 : Int) (r8 : Int) (x16 : Bool) : Option Int := cond x16 ((Zep p0 p1 p2 r6).bind fun r18 => some r18) (cond (r6 != 1) (some 11) (cond (p2.kind == 2) ((Zev p0 p1 p2 r8).bind fun r22 => some r22) (cond (p2.kind == 3) (cond (decide (r8 < 50)) ((Zel true).bind fun r26 => Zex r26) (cond (decide (p2.n > r8)) ((Zel true).bind fun r29 => Zex r29) (cond (p2.key != p2.author) ((Zej p0 p1 p2.key).bind fun r32 => (Zel (decide (r32 ≥ r8))).bind fun r34 => Zex r34) ((Zel false).bind fun r36 => Zex r36)))) (cond (p2.kind == 4) (Zez p0 p2 r8 (p2.kind == 4)) (cond (p2.kind == 5) (Zez p0 p2 r8 (p2.kind == 5)) (Zez p0 p2 r8 (p2.kind == 6)))))))
def Zf1 (p0 : Y9k) (p1 : List Y9m) (p2 : Y9j) (r3 : Y9j × Bool) (r6 : Int) (r8 : Int) (x11 : Bool) : Option Int := cond x11 (some 7) (cond (p2.kind == 1) (some 0) (cond r3.2 (cond (p2.kind == 2) (Zf0 p0 p1 p2 r6 r8 (p2.key == p2.author)) (Zf0 p0 p1 p2 r6 r8 false)) (some 10)))
def Zf2 (p0 : Y9k) (p1 : List Y9m) (p2 : Y9j) : Option Int := (Zee p0 p1 1 0).bind fun r3 => (Zeg p0 p1 p2.author).bind fun r6 => (Zej p0 p1 p2.author).bind fun r8 => cond (p2.kind == 1) (Zf1 p0 p1 p2 r3 r6 r8 r3.2) (Zf1 p0 p1 p2 r3 r6 r8 false)
instance Zf3 (p0 : Y9k) (p1 : List Y9m) (p2 : Y9j) : Sp Tryz.prog 157 [C.agg [cI p0.room, cM Y9q 9 p0.events, cM Y9q 9 p0.parked], cM Y9r 3 p1, C.agg [cI p2.id, cI p2.room, cI p2.author, cI p2.kind, cI p2.key, cI p2.n, C.str p2.text, cM kI64 1 p2.prev, cI p2.time]] (Zf2 p0 p1 p2) (fun r => cI r) := Sp.of (so Tryz.func157 rfl rfl fun r X h => gh (.r [0,0,0] [0,3,5,8] [] [1,4,8,13,21,24,28,33,18,38,40,44] (.q 1 (.c1 (fun x11 => .d [(29, C.bool x11)] []) [1,3,5,8,9,10] [2,1] .z (.b .z (.b .z (.b (.c1 (fun x16 => .d [(43, C.bool x16)] []) [1,3,5,9,10] [0,1] .z (.b .z (.b .z (.b .z (.b (.c1 (fun x38 => .d [(6, cI x38)] []) [] [] .z .z) (.c1 (fun x41 => .d [(98, C.bool x41)] []) [3,5,10,63] [0,1] .z (.b .z (.b (.b (.c1 (fun x55 => .d [(6, cI x55)] []) [] [] .z .z) .z) .z)))))))) .z)))))))

def Zf4 (p0 : List Y9m) : Option (List Y9m) := (chk (decide (p0.length * 24 ≤ 140737488355328))).bind fun _ => some p0
theorem Zf5 (p0 : List Y9m) (r : List Y9m) (h : Zf4 p0 = some r) : Ok Tryz.prog 80 [cM Y9r 3 p0] [] (fun c qs => ∃ (v : Value), c = cV v ∧ qs = [oA v 96 Y9r 3 r]) := by
 refine ob' h fun u hc h => ?_
 obtain rfl := Wj h
 have hc := Wo (Y45 hc)
 refine Ok.of_body (rs := [.tmp 2]) Tryz.func80 rfl rfl rfl rfl rfl fun X => ?_
 refine zw ?_
 refine Ops.h (ns := []) rfl rfl (Y63 Ybc.h rfl rfl) ?_
 rintro _ _ ⟨b, hb, rfl, rfl⟩
 refine zw ?_
 refine tf' b (fun hq => ?_) (fun hq => ?_)
 ·
  refine AW.cond rfl (fun _ => ?_) (fun hn => absurd (hq.symm.trans hn) (by decide))
  refine zw ?_
  refine AW.ret ?_
  obtain rfl := hb hq
  exact finI ⟨[cV s0], _, Y25.nil 96 Y9r 3, .cons (.tmp rfl) .nil, [0], _, _, rfl, ⟨_, rfl, rfl⟩⟩
 refine AW.cond rfl (fun hn => absurd (hq.symm.trans hn) (by decide)) (fun _ => ?_)
 refine zw ?_
 refine Ops.h (ns := []) rfl rfl (Y3l (k := Y9r) (ys := ([] : List Y9m)) Ybi .nil rfl rfl rfl) ?_
 rintro _ _ ⟨b1, rfl, rfl⟩
 refine zw ?_
 refine Ops.h (ns := [0]) rfl rfl (Y33 Ybi rfl rfl (by simpa using hc) (by simp; omega) rfl) ?_
 rintro _ _ ⟨v, rfl, rfl⟩
 refine zw ?_
 refine AW.ret ?_
 exact finI ⟨[cV v], _, Y25.refl _, .cons (.tmp rfl) .nil, [0], _, _, rfl, ⟨v, rfl, rfl⟩⟩
instance Zf5' (p0 : List Y9m) : Sp Tryz.prog 80 [cM Y9r 3 p0] (Zf4 p0) (fun r => cM Y9r 3 r) := ⟨fun r h => Ok.freeze (Zf5 p0 r h) (by rintro c qs ⟨v, rfl, rfl⟩; exact Frz.arr)⟩
instance Zf6 (p0 : List Y9m) : SpO Tryz.prog 80 (Zf4 p0) (.d [cM Y9r 3 p0] [] fun r => .x fun (v : Value) => .d (cV v) [oA v 96 Y9r 3 r]) := ⟨fun r h => Zf5 p0 r h⟩

def Zf7 (p0 : List Y9m) (p1 : Int) (p2 : Int) : Option (List Y9m) := delI p0 p1 p2
theorem Zf8 {w1 : Value} (p0 : List Y9m) (p1 : Int) (p2 : Int) (r : List Y9m) (h : Zf7 p0 p1 p2 = some r) : Ok Tryz.prog 217 [cV w1, cI p1, cI p2] [oA w1 96 Y9r 3 p0] (fun c qs => ∃ (v : Value), c = cV v ∧ qs = [oA v 96 Y9r 3 r]) := by
 obtain ⟨a, b, rfl, rfl, hij, hj, rfl⟩ := Y7k h
 refine Ok.of_body (rs := [.tmp 6]) Tryz.func217 rfl rfl rfl rfl rfl fun X => ?_
 refine AW.learn (Sim.arr_cap (p := 0) rfl) fun hw => ?_
 obtain ⟨A, cap, rfl, hc, _, _⟩ := hw
 refine zw ?_
 refine Ops.v rfl (Y7l (p := 0) Ybc.h rfl rfl rfl rfl rfl hij hj rfl) ?_
 refine zw ?_
 refine tf' (((a : Nat) : Int) == ((b : Nat) : Int)) (fun hq => ?_) (fun hq => ?_)
 ·
  refine AW.cond rfl (fun _ => ?_) (fun hn => absurd (hq.symm.trans hn) (by decide))
  refine zw ?_
  refine AW.ret ?_
  obtain rfl : a = b := by have := eq_of_beq hq; omega
  rw [List.take_append_drop]
  exact finI ⟨[cV (.slice A p0.length cap)], _, Y25.refl _, .cons (.tmp rfl) .nil, [0], _, _, rfl, ⟨_, rfl, rfl⟩⟩
 refine AW.cond rfl (fun hn => absurd (hq.symm.trans hn) (by decide)) (fun _ => ?_)
 refine zw ?_
 refine rD [] [] [] [0,4,8,12,16,20,26,28] ?_
 refine zw ?_
 refine OpsD.v rfl rfl (Y7p Ybc.h rfl rfl (by omega) hc rfl) ?_
 refine zw ?_
 refine OpsD.v rfl rfl (Y7o Ybc.h rfl rfl hj hc rfl) ?_
 refine OpsD.one ?_
 refine Y3z.h (ns := [0]) rfl rfl rfl (Y7m (v := .slice A p0.length cap) Ybi rfl rfl hij hj rfl) ?_
 rintro _ _ ⟨rfl, rfl⟩
 refine zw ?_
 refine Ops.v rfl (Y2j Ybc.h rfl rfl) ?_
 refine zw ?_
 refine Ops.v rfl (Y7n (p := 0) (h := p0.length) (v := .slice A p0.length cap) (l := a + (p0.length - b)) Ybc.h rfl rfl rfl rfl (by omega) (by simp; omega) rfl) ?_
 refine Ops.h (ns := [0]) rfl rfl (Y7h (v := .slice A p0.length cap) (l := a + (p0.length - b)) (z := (Y9m.mk 0 0 0)) Ybi Ybo (Y4g rfl rfl) rfl (by simp <;> omega)) ?_
 rintro _ _ ⟨rfl, rfl⟩
 refine zw ?_
 refine AW.ret ?_
 exact finI ⟨[cV (takeV (.slice A p0.length cap) (a + (p0.length - b)))], _, Y25.prefix (p := 0) (h := a + (p0.length - b)) rfl (by simp; omega), .cons (.tmp rfl) .nil, [0], _, _, rfl, ⟨_, rfl, by rw [Y7q hij hj]⟩⟩
instance Zf9 (p0 : List Y9m) (p1 : Int) (p2 : Int) : SpO Tryz.prog 217 (Zf7 p0 p1 p2) (.x fun (w1 : Value) => .d [cV w1, cI p1, cI p2] [oA w1 96 Y9r 3 p0] fun r => .x fun (v : Value) => .d (cV v) [oA v 96 Y9r 3 r]) := ⟨fun w1 r h => Zf8 p0 p1 p2 r h⟩

def Zfa (p0 : List Y9m) (p1 : Int) (p2 : List Y9m) : Option (List Y9m) := insI 24 p0 p1 p2
theorem Zfb {w1 w2 : Value} (p0 : List Y9m) (p1 : Int) (p2 : List Y9m) (r : List Y9m) (h : Zfa p0 p1 p2 = some r) : Ok Tryz.prog 218 [cV w1, cI p1, cV w2] [oA w1 96 Y9r 3 p0, oA w2 96 Y9r 3 p2] (fun c qs => ∃ (v : Value), c = cV v ∧ qs = [oA v 96 Y9r 3 r]) := by
 obtain ⟨i, rfl, hi, hm, hb, rfl⟩ := Y5k h
 refine Ok.of_body (rs := [.tmp 6]) Tryz.func218 rfl rfl rfl rfl rfl fun X => ?_
 refine AW.learn (Sim.arr_cap (p := 0) rfl) fun hw => ?_
 obtain ⟨A, cap, rfl, hc, hmax, hA⟩ := hw
 have hmax0 := hmax
 simp only [maxLen] at hmax
 refine zw ?_
 refine Ops.v rfl (Y5i Ybc.h rfl rfl hi hc rfl) ?_
 refine zw ?_
 refine AW.cond rfl (fun hn => absurd ((beq_false_of_ne (by omega)).symm.trans hn) (by decide)) (fun _ => ?_)
 refine zw ?_
 refine tf' (((i : Nat) : Int) == (p0.length : Int)) (fun hq => ?_) (fun hq => ?_)
 ·
  refine AW.cond rfl (fun _ => ?_) (fun hn => absurd (hq.symm.trans hn) (by decide))
  refine zw ?_
  refine Ops.h (ns := [0, 0]) rfl rfl (Y34 Ybi rfl rfl hb (by omega) rfl) ?_
  rintro _ _ ⟨v, rfl, rfl⟩
  refine zw ?_
  refine AW.ret ?_
  obtain rfl : i = p0.length := by have := eq_of_beq hq; omega
  rw [List.take_of_length_le (Nat.le_refl _), List.drop_of_length_le (Nat.le_refl _), List.append_nil]
  exact finI ⟨[cV v], _, Y25.refl _, .cons (.tmp rfl) .nil, [0], _, _, rfl, ⟨v, rfl, rfl⟩⟩
 have hlt : i < p0.length := by have := ne_of_beq_false hq; omega
 obtain ⟨b, rfl⟩ := hA.resolve_left (fun e => by rw [e.1] at hlt; exact absurd hlt (Nat.not_lt_zero _))
 refine AW.ghost (Y25.raw (p := 0) rfl) ?_
 rw [← Y5h b 3 p0.length cap]
 refine AW.cond rfl (fun hn => absurd (hq.symm.trans hn) (by decide)) (fun _ => ?_)
 refine AW.skip ?_
 refine AW.seq ?_
 refine AW.seq ?_
 refine AW.region ?_
 refine Ops.v rfl (Yr rfl rfl) ?_
 refine Ops.v rfl (Yr rfl rfl) ?_
 refine Ops.v rfl (Yx (r := .int .i64 ((p0.length + p2.length : Nat) : Int)) rfl rfl (Y5p (by omega) (by omega)) rfl) ?_
 refine zw ?_
 refine Ops.v rfl (Y58 Ybc.h rfl rfl) ?_
 refine zw ?_
 refine tf' (decide (((p0.length + p2.length : Nat) : Int) > (cap : Int))) (fun hg => ?_) (fun hg => ?_)
 ·
  have hg1 := Wo hg
  refine AW.cond rfl (fun _ => ?_) (fun hn => absurd (hg.symm.trans hn) (by decide))
  refine zw ?_
  refine Ops.v rfl (Y57 Ybc.h rfl rfl (by omega) (by omega) rfl) ?_
  refine Ops.v rfl (Yr rfl rfl) ?_
  refine Ops.v rfl (Yr rfl rfl) ?_
  refine Ops.v rfl (Yx (r := .int .i64 ((p0.length + p2.length : Nat) : Int)) rfl rfl (Y5p (by omega) (by omega)) rfl) ?_
  refine Ops.v rfl (Yr rfl rfl) ?_
  refine Ops.v rfl (Yx (r := .int .i64 ((p0.length + p2.length - i : Nat) : Int)) rfl rfl (Y5q (by omega) (by omega)) rfl) ?_
  refine Ops.h (ns := [0]) rfl rfl (Y5o (N := p0.length + p2.length) (k := Y9r) (z0 := (Y9m.mk 0 0 0)) Ybi un_3 Ybo (Y4g rfl rfl) rfl rfl (xs := p0.take i) (by rw [List.drop_zero, List.take_append_of_le_length (by simp; omega), List.map_take]) (by simp; omega) (by omega) (by omega) (by omega) hb (by decide) rfl) ?_
  rintro _ _ ⟨b2, c2, hc2, hm2, rfl, rfl⟩
  refine zw ?_
  refine Ops.v rfl (Y5n (o' := i) (l' := p0.length + p2.length - i) (c' := c2 - i) Ybc.h rfl rfl (by omega) (by omega) (by omega) (by omega) (by omega) (by omega) rfl) ?_
  refine zw ?_
  refine Ops.h (ns := [0, 1]) rfl rfl (Y5c (xs := p2) Ybc.h rfl rfl (by rw [List.take_of_length_le (by omega)]) (by simp; omega) rfl) ?_
  rintro _ _ ⟨rfl, rfl⟩
  refine zw ?_
  refine rD [] [] [] [0,4,8,12,16,20,24,28,34] ?_
  refine OpsD.v rfl rfl (Yr rfl rfl) ?_
  refine OpsD.v rfl rfl (Yr rfl rfl) ?_
  refine OpsD.v rfl rfl (Yr rfl rfl) ?_
  refine OpsD.v rfl rfl (Yx (r := .int .i64 ((i + p2.length : Nat) : Int)) rfl rfl (Y5p (by omega) (by omega)) rfl) ?_
  refine OpsD.v rfl rfl (Y5n (o' := i + p2.length) (l' := p0.length - i) (c' := c2 - (i + p2.length)) Ybc.h rfl rfl (by omega) (by omega) (by omega) (by omega) (by omega) (by omega) rfl) ?_
  refine zw ?_
  refine OpsD.v rfl rfl (Y5n (o' := i) (l' := p0.length - i) (c' := cap - i) Ybc.h rfl rfl (by omega) (by omega) (by omega) (by omega) (by omega) (by omega) rfl) ?_
  refine OpsD.one ?_
  refine Y3z.h (ns := [0, 1]) rfl rfl rfl (Y5j (xs := p0.drop i) Ybc.h rfl rfl (by rw [Y5r, List.drop_append_of_le_length (by simp; omega), List.take_append_of_le_length (by simp), List.take_of_length_le (by simp), List.map_drop]) (by rw [Y5r]; simp) (by simp; omega) rfl) ?_
  rintro _ _ ⟨rfl, rfl⟩
  refine zw ?_
  refine AW.ret ?_
  obtain ⟨q1, q2, q3, q4⟩ := Y5m (xs := p0) (ys := p2) (z := (Y9m.mk 0 0 0)) (m := p2.length) hlt hc2 rfl _ _ rfl rfl
  exact finI ⟨[cV _], _, Y25.arr2 (p := 0) (m := p0.length + p2.length) rfl q1 (by omega) q2 (by omega) (Y5h _ _ _ _), .cons (.tmp rfl) .nil, [0], _, _, rfl, ⟨_, rfl, rfl⟩⟩
 have hg1 := of_decide_eq_false hg
 refine AW.cond rfl (fun hn => absurd (hg.symm.trans hn) (by decide)) (fun _ => ?_)
 refine AW.skip ?_
 refine AW.seq ?_
 refine AW.region ?_
 refine Ops.v rfl (Yr rfl rfl) ?_
 refine Ops.v rfl (Yr rfl rfl) ?_
 refine Ops.v rfl (Yr rfl rfl) ?_
 refine Ops.v rfl (Yx (r := .int .i64 ((p0.length + p2.length : Nat) : Int)) rfl rfl (Y5p (by omega) (by omega)) rfl) ?_
 refine Ops.v rfl (Y57 Ybc.h rfl rfl (by omega) (by omega) rfl) ?_
 refine Ops.v rfl (Ys rfl rfl) ?_
 refine Ops.nil ?_
 refine AW.seq ?_
 refine AW.seq ?_
 refine AW.region ?_
 refine Ops.v rfl (Yr rfl rfl) ?_
 refine Ops.v rfl (Yr rfl rfl) ?_
 refine Ops.v rfl (Yr rfl rfl) ?_
 refine Ops.v rfl (Yr rfl rfl) ?_
 refine Ops.v rfl (Yx (r := .int .i64 ((i + p2.length : Nat) : Int)) rfl rfl (Y5p (by omega) (by omega)) rfl) ?_
 refine Ops.v rfl (Y5n (o' := i + p2.length) (l' := p0.length - i) (c' := cap - (i + p2.length)) Ybc.h rfl rfl (by omega) (by omega) (by omega) (by omega) (by omega) (by omega) rfl) ?_
 refine Ops.h (ns := [0, 0]) rfl rfl (Y5d (tR := 4) (k := Y9r) (zs := p2) (ys := p0.map some ++ List.replicate (cap - p0.length) none) Ybi Tryz.func254 rfl rfl (by kernel_rfl) (by kernel_rfl) rfl rfl (by intro e; rw [e] at hm; exact absurd hm (by decide)) (by intro e; have := congrArg List.length e; simp at this; omega) rfl) ?_
 rintro _ _ ⟨rfl, rfl⟩
 refine zw ?_
 refine AW.cond rfl (fun _ => ?_) (fun hn => absurd hn (by decide))
 refine zw ?_
 refine rD [] [] [] [0,4,8,12,16,20,24,28,34] ?_
 refine OpsD.v rfl rfl (Yr rfl rfl) ?_
 refine OpsD.v rfl rfl (Yr rfl rfl) ?_
 refine OpsD.v rfl rfl (Yr rfl rfl) ?_
 refine OpsD.v rfl rfl (Yx (r := .int .i64 ((i + p2.length : Nat) : Int)) rfl rfl (Y5p (by omega) (by omega)) rfl) ?_
 refine OpsD.v rfl rfl (Y5n (o' := i + p2.length) (l' := p0.length - i) (c' := cap - (i + p2.length)) Ybc.h rfl rfl (by omega) (by omega) (by omega) (by omega) (by omega) (by omega) rfl) ?_
 refine zw ?_
 refine OpsD.v rfl rfl (Y5n (o' := i) (l' := p0.length + p2.length - i) (c' := cap - i) Ybc.h rfl rfl (by omega) (by omega) (by omega) (by omega) (by omega) (by omega) rfl) ?_
 refine OpsD.one ?_
 refine Y3z.h (ns := [0]) rfl rfl rfl (Y5b (xs := p0.drop i) Ybc.h rfl rfl (by rw [Y5s (by omega), List.drop_append_of_le_length (by simp; omega), List.take_append_of_le_length (by simp), List.take_of_length_le (by simp), List.map_drop]) (by rw [Y5s (by omega)]; simp) (by simp; omega) rfl) ?_
 rintro _ _ ⟨rfl, rfl⟩
 refine zw ?_
 refine Ops.v rfl (Y5n (o' := i) (l' := p0.length + p2.length - i) (c' := cap - i) Ybc.h rfl rfl (by omega) (by omega) (by omega) (by omega) (by omega) (by omega) rfl) ?_
 refine zw ?_
 refine Ops.h (ns := [0, 0]) rfl rfl (Y5c (xs := p2) Ybc.h rfl rfl (by rw [List.take_of_length_le (by omega)]) (by simp; omega) rfl) ?_
 rintro _ _ ⟨rfl, rfl⟩
 refine zw ?_
 refine AW.ret ?_
 obtain ⟨q1, q2, q3, q4⟩ := Y5l (xs := p0) (ys := p2) (m := p2.length) (c := cap) hlt (by omega) rfl _ _ rfl rfl
 exact finI ⟨[cV _], _, Y25.arr2 (p := 0) (m := p0.length + p2.length) (c := cap) rfl q1 (by omega) q2 hmax0 (Y5h _ _ _ _), .cons (.tmp rfl) .nil, [0], _, _, rfl, ⟨_, rfl, rfl⟩⟩
instance Zfc (p0 : List Y9m) (p1 : Int) (p2 : List Y9m) : SpO Tryz.prog 218 (Zfa p0 p1 p2) (.x fun (w1 : Value) => .x fun (w2 : Value) => .d [cV w1, cI p1, cV w2] [oA w1 96 Y9r 3 p0, oA w2 96 Y9r 3 p2] fun r => .x fun (v : Value) => .d (cV v) [oA v 96 Y9r 3 r]) := ⟨fun w1 w2 r h => Zfb p0 p1 p2 r h⟩

def Zfd (p1 : Y9m) (r2 : List Y9m) (r5 : Int × Bool) (x8 : Bool) : Option (List Y9m) := cond x8 ((Zf7 r2 r5.1 (IntKind.i64.wrap (r5.1 + 1))).bind fun r10 => some r10) (cond (p1.id == 0) (some r2) (cond r5.2 ((getI r2 r5.1).bind fun e15 => some (List.set r2 (Int.toNat r5.1) p1)) ((Zfa r2 r5.1 [p1]).bind fun r18 => some r18)))
def Zfe (p0 : List Y9m) (p1 : Y9m) : Option (List Y9m) := (Zf4 p0).bind fun r2 => (Zea r2 p1).bind fun r5 => cond (p1.id == 0) (Zfd p1 r2 r5 r5.2) (Zfd p1 r2 r5 false)
instance Zff (p0 : List Y9m) (p1 : Y9m) : SpO Tryz.prog 158 (Zfe p0 p1) (.d [cM Y9r 3 p0, C.agg [cI p1.kind, cI p1.key, cI p1.id]] [] fun r => .x fun (v21 : Value) => .d (cV v21) [oA v21 96 Y9r 3 r]) := ⟨so Tryz.func158 rfl rfl fun r X h => gh (.k (.q 2 (.c1 (fun x8 => .d [(16, C.bool x8)] []) [3,5,6,7] [1,0] .z (.b (.k .z) (.b .z (.b .z (.k .z)))))))⟩
instance Zff' (p0 : List Y9m) (p1 : Y9m) : Sp Tryz.prog 158 [cM Y9r 3 p0, C.agg [cI p1.kind, cI p1.key, cI p1.id]] (Zfe p0 p1) (fun r => cM Y9r 3 r) := ⟨fun r h => Ok.freeze ((Zff p0 p1).h r h) (by rintro c qs ⟨v21, rfl, rfl⟩; exact Frz.arr)⟩

def Zfg (p0 : List Y9m) (q0 : Y9m) : Option Bool := (Ze0 p0 q0).bind fun r1 => some (!r1)
instance Zfh (p0 : List Y9m) (q0 : Y9m) : SpO Tryz.prog 150 (Zfg p0 q0) (.x fun (b00 : Nat) => .d [cM Y9r 3 p0, pt b00] [oB b00 96 [cI q0.kind, cI q0.key, cI q0.id]] fun r => .d (C.bool r) [oB b00 96 [cI q0.kind, cI q0.key, cI q0.id]]) := ⟨fun b00 => so Tryz.func150 rfl rfl fun r X h => gh .z⟩

def Zfi : Option Int := some (-1)
def Zfj (p0 : List (List Y9m)) (p1_0 : Y9m) (x7 : Int) : Option (Int ⊕ (Int ⊕ Unit)) := cond (decide (x7 < (p0.length : Int))) ((getI p0 x7).bind fun e9 => (Zfg e9 p1_0).bind fun r11 => cond r11 (some (.inr (.inl x7))) (some (.inl (IntKind.i64.wrap (x7 + 1))))) (some (.inr (.inr ())))
def Zfk (p0 : List (List Y9m)) (p1_0 : Y9m) : Option Int := (iter (Zfj p0 p1_0) big 0).bind (fun z15 => match z15 with | .inl y14 => some y14 | .inr () => Zfi)
instance Zfl (p0 : List (List Y9m)) (p1_0 : Y9m) : SpO Tryz.prog 145 (Zfk p0 p1_0) (.x fun (b00 : Nat) => .d [cM Y9s 1 p0, C.clo 150 [pt b00]] [oB b00 96 [cI p1_0.kind, cI p1_0.key, cI p1_0.id]] fun r => .d (cI r) [oB b00 96 [cI p1_0.kind, cI p1_0.key, cI p1_0.id]]) := ⟨fun b00 => so Tryz.func145 rfl rfl fun r X h => gh (.q 1 (.c0 (.d [] []) [] [0] (.l1 (fun x7 => .d [(8, cI x7)] []) [0,1,7] [0] .z) .z))⟩

def Zfm (p0 : List (List Y9m)) (p1_0 : Y9m) : Option Bool := (Zfk p0 p1_0).bind fun r1 => some (decide (r1 ≥ 0))
instance Zfn (p0 : List (List Y9m)) (p1_0 : Y9m) : SpO Tryz.prog 73 (Zfm p0 p1_0) (.x fun (b00 : Nat) => .d [cM Y9s 1 p0, C.clo 150 [pt b00]] [oB b00 96 [cI p1_0.kind, cI p1_0.key, cI p1_0.id]] fun r => .d (C.bool r) [oB b00 96 [cI p1_0.kind, cI p1_0.key, cI p1_0.id]]) := ⟨fun b00 => so Tryz.func73 rfl rfl fun r X h => gh .z⟩

def Zfo (p0 : Y9j) (p1 : Y9j) (q0 : Y9p) : Option Int := (Ze3 p0).bind fun r3 => (Ze3 p1).bind fun r5 => cond (r3 == r5) ((Za4 (Option.getD (mget q0.depth p0.id) 0) (Option.getD (mget q0.depth p1.id) 0)).bind fun r11 => (Za4 p0.time p1.time).bind fun r13 => (Za4 p0.id p1.id).bind fun r15 => (Zbm [r11, r13, r15]).bind fun r18 => some r18) ((Ze3 p0).bind fun r8 => cond r8 (some (-1)) (some 1))
instance Zfp (p0 : Y9j) (p1 : Y9j) (q0 : Y9p) : Sp Tryz.prog 153 [C.agg [cI p0.id, cI p0.room, cI p0.author, cI p0.kind, cI p0.key, cI p0.n, C.str p0.text, cM kI64 1 p0.prev, cI p0.time], C.agg [cI p1.id, cI p1.room, cI p1.author, cI p1.kind, cI p1.key, cI p1.n, C.str p1.text, cM kI64 1 p1.prev, cI p1.time], C.ip [C.ip [cI q0.graph.room, cM Y9q 9 q0.graph.events, cM Y9q 9 q0.graph.parked, C.imap .i64 Y9u q0.depth, C.imap .i64 Y9v q0.before, C.imap .i64 Y9v q0.after, C.imap .i64 Y9u q0.refused]]] (Zfo p0 p1 q0) (fun r => cI r) := Sp.of (so Tryz.func153 rfl rfl fun r X h => gh (.r [0,0] [0,2] [] [1,9,6,14,16] (.b (.r [0,0] [0,3,5,6,7,10,12,13,16,18,21,23] [] [1,4,8,13,16,21,25,29,32,36,41,44,49,53,60,65,68,73,80,85,88,93,58,78,98,102,106,108] .z) .z)))

end Go.Proofs.YtomachnjepgpbaaGreat
