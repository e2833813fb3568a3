/- Printed by gen.py: plain functions for Go functions, and that the walks keep to them. -/
import Derived.Test.YtomachnjepgpbaaGreatAQ4
set_option autoImplicit false
set_option linter.unusedVariables false
set_option linter.unusedSimpArgs false
set_option maxHeartbeats 8000000
set_option maxRecDepth 100000
namespace Go.Proofs.YtomachnjepgpbaaGreat
open Go Go.Abs
attribute [local irreducible] AW Ops OpsD Y3z VoK HoK GhF UsC Go.Abs.Fin PkK LenT LenL Y98 BldK FzK FzLK
def Z6i (x20 : Int) : Option Int := some x20
def Z6j (p3 : Int) (x4 : Bool) (x11 : Bool) : Option Int := cond (p3 == 3) ((Z6g true).bind fun r13 => Z6i r13) (cond x4 ((Z6g false).bind fun r16 => Z6i r16) ((Z6g (!x11)).bind fun r18 => Z6i r18))
def Z6k (p0 : Y9k) (p1 : List Y9m) (p2 : Y9j) (p3 : Int) (x4 : Bool) : Option Int := cond (p2.n == 1) ((Z6a p0 p1 5 0).bind fun r6 => cond (r6.n == 1) (Z6j p3 x4 true) ((Z6a p0 p1 1 0).bind fun r9 => Z6j p3 x4 (r9.author == p2.author))) (cond (p2.n == 2) ((Z6g (!x4)).bind fun r22 => some r22) (some 11))
def Z6l (p0 : Y9k) (p1 : List Y9m) (p2 : Y9j) (p3 : Int) : Option Int := cond (p3 == 1) (Z6k p0 p1 p2 p3 true) (Z6k p0 p1 p2 p3 (p3 == 4))
instance Z6m (p0 : Y9k) (p1 : List Y9m) (p2 : Y9j) (p3 : Int) : Sp Tryz.prog 225 [C.agg [cI p0.room, cM Y9q 9 p0.events, cM Y9q 9 p0.parked], cM Y9r 3 p1, C.agg [cI p2.id, cI p2.room, cI p2.author, cI p2.kind, cI p2.key, cI p2.n, C.str p2.text, cM kI64 1 p2.prev, cI p2.time], cI p3] (Z6l p0 p1 p2 p3) (fun r => cI r) := Sp.of (so Tryz.func225 rfl rfl fun r X h => gh (.q 1 (.c1 (fun x4 => .d [(9, C.bool x4)] []) [1,3,4,6] [1,0] .z (.b (.c1 (fun x11 => .d [(10, C.bool x11)] []) [3,9] [] (.r [0,0] [0,6,11] [] [1,4,10,12,16,20,25,28,40,45,34,36,48,52,56] .z) (.c1 (fun x20 => .d [(8, cI x20)] []) [] [] .z .z)) .z))))

def Z6n (x13 : Int) : Option Int := some x13
def Z6o (x26 : Int) : Option Int := some x26
def Z6p (x36 : Int) : Option Int := some x36
def Z6q (p0 : Y9k) (p1 : List Y9m) (p2 : Y9j) (p3 : Int) : Option Int := (Z6c p0 p1 p2.key).bind fun r3 => (Z6e p0 p1 p2.key).bind fun r5 => cond (p2.n == 4) (cond (r3 == 1) ((Z6g true).bind fun r9 => Z6n r9) ((Z6g (r3 == 3)).bind fun r11 => Z6n r11)) (cond (p2.n == 2) (cond (decide (p3 < 50)) ((Z6g true).bind fun r16 => Z6o r16) (cond (decide (p3 ≤ r5)) ((Z6g true).bind fun r19 => Z6o r19) (cond (r3 == 0) ((Z6g true).bind fun r22 => Z6o r22) ((Z6g (r3 == 2)).bind fun r24 => Z6o r24)))) (cond (p2.n == 3) (cond (decide (p3 < 50)) ((Z6g true).bind fun r29 => Z6p r29) (cond (decide (p3 ≤ r5)) ((Z6g true).bind fun r32 => Z6p r32) ((Z6g (r3 == 3)).bind fun r34 => Z6p r34))) (some 11)))
instance Z6r (p0 : Y9k) (p1 : List Y9m) (p2 : Y9j) (p3 : Int) : Sp Tryz.prog 226 [C.agg [cI p0.room, cM Y9q 9 p0.events, cM Y9q 9 p0.parked], cM Y9r 3 p1, C.agg [cI p2.id, cI p2.room, cI p2.author, cI p2.kind, cI p2.key, cI p2.n, C.str p2.text, cM kI64 1 p2.prev, cI p2.time], cI p3] (Z6q p0 p1 p2 p3) (fun r => cI r) := Sp.of (so Tryz.func226 rfl rfl fun r X h => gh (.r [0,0] [0,3,5,8] [] [1,4,8,13,21,24,28,33,18,38,40,44] (.b (.c1 (fun x13 => .d [(8, cI x13)] []) [] [] .z .z) (.b (.c1 (fun x26 => .d [(8, cI x26)] []) [] [] .z .z) (.b (.c1 (fun x36 => .d [(8, cI x36)] []) [] [] .z .z) .z)))))

def Z6s (x35 : Int) : Option Int := some x35
def Z6t (x53 : Int) : Option Int := some x53
def Z6u (p0 : Y9k) (p2 : Y9j) (r10 : Int) (x38 : Bool) : Option Int := cond x38 ((Z6g (decide (r10 < 50))).bind fun r40 => some r40) (cond (p2.kind == 8) ((Zr p0.events p2.key).bind fun r43 => cond (decide (r43 < 0)) (some 6) (cond (decide (r10 < 50)) ((getI p0.events r43).bind fun e47 => (Z6g (e47.author != p2.author)).bind fun r49 => Z6t r49) ((Z6g false).bind fun r51 => Z6t r51))) (some 0))
def Z6v (p0 : Y9k) (p1 : List Y9m) (p2 : Y9j) (r8 : Int) (r10 : Int) (x13 : Bool) : Option Int := cond x13 ((Z6l p0 p1 p2 r8).bind fun r15 => some r15) (cond (r8 != 1) (some 11) (cond (p2.kind == 2) ((Z6q p0 p1 p2 r10).bind fun r19 => some r19) (cond (p2.kind == 3) (cond (decide (r10 < 50)) ((Z6g true).bind fun r23 => Z6s r23) (cond (decide (p2.n > r10)) ((Z6g true).bind fun r26 => Z6s r26) (cond (p2.key != p2.author) ((Z6e p0 p1 p2.key).bind fun r29 => (Z6g (decide (r29 ≥ r10))).bind fun r31 => Z6s r31) ((Z6g false).bind fun r33 => Z6s r33)))) (cond (p2.kind == 4) (Z6u p0 p2 r10 (p2.kind == 4)) (cond (p2.kind == 5) (Z6u p0 p2 r10 (p2.kind == 5)) (Z6u p0 p2 r10 (p2.kind == 6)))))))
def Z6w (p0 : Y9k) (p1 : List Y9m) (p2 : Y9j) : Option Int := (Z5k p1 1 0).bind fun r3 => cond (p2.kind == 1) (cond (decide (r3 > 0)) (some 7) (some 0)) (cond (decide (r3 > 0)) ((Z6c p0 p1 p2.author).bind fun r8 => (Z6e p0 p1 p2.author).bind fun r10 => cond (p2.kind == 2) (Z6v p0 p1 p2 r8 r10 (p2.key == p2.author)) (Z6v p0 p1 p2 r8 r10 false)) (some 10))
instance Z6x (p0 : Y9k) (p1 : List Y9m) (p2 : Y9j) : Sp Tryz.prog 168 [C.agg [cI p0.room, cM Y9q 9 p0.events, cM Y9q 9 p0.parked], cM Y9r 3 p1, C.agg [cI p2.id, cI p2.room, cI p2.author, cI p2.kind, cI p2.key, cI p2.n, C.str p2.text, cM kI64 1 p2.prev, cI p2.time]] (Z6w p0 p1 p2) (fun r => cI r) := Sp.of (so Tryz.func168 rfl rfl fun r X h => gh (.b .z (.b (.r [0,0] [0,3,5,8] [] [1,4,8,13,21,24,28,33,18,38,40,44] (.q 1 (.c1 (fun x13 => .d [(39, C.bool x13)] []) [1,3,5,8,9] [1,0] .z (.b .z (.b .z (.b .z (.b (.c1 (fun x35 => .d [(6, cI x35)] []) [] [] .z .z) (.c1 (fun x38 => .d [(83, C.bool x38)] []) [3,5,9,48] [0,1] .z (.b .z (.b (.b .z (.c1 (fun x53 => .d [(6, cI x53)] []) [] [] (.r [0,0] [4,8,10] [] [0,4,8,12,17,20,24,28,33,36,41,44,48,54,56] .z) .z)) .z)))))))))) .z)))

def Z6y (l249 : List Y9m) : Option (List Y9m) := some l249
def Z6z (x218 : Int) (l247 : List Y9m) : Option ((List Y9m × Int) ⊕ ((List Y9m))) := some (.inl (l247, (IntKind.i64.wrap (x218 + 1))))
def Z70 (p0 : Y9k) (l217 : List Y9m) (x218 : Int) (x230 : Int) (x231 : Int) (x232 : Int) (x233 : Int) (x234 : Int) (x235 : Int) (x236 : ByteArray) (l237 : List Int) (x238 : Int) : Option ((List Y9m × Int) ⊕ ((List Y9m))) := (Z6w p0 l217 (Y9j.mk x230 x231 x232 x233 x234 x235 x236 l237 x238)).bind fun r239 => cond (r239 == 0) ((Z62 l217 (Y9m.mk x233 x234 x230)).bind fun r242 => Z6z x218 r242) (Z6z x218 l217)
def Z71 (p0 : Y9k) (l186 : List Int) (l217 : List Y9m) (x218 : Int) : Option ((List Y9m × Int) ⊕ ((List Y9m))) := cond (decide (x218 < (l186.length : Int))) ((getI l186 x218).bind fun e220 => (Zr p0.events e220).bind fun r222 => (getI p0.events r222).bind fun e225 => Z70 p0 l217 x218 e225.id e225.room e225.author e225.kind e225.key e225.n e225.text e225.prev e225.time) (some (.inr l217))
def Z72 (p0 : Y9k) (l95 : List Y9m) (l186 : List Int) : Option (List Y9m) := (iter (fun z251 => Z71 p0 l186 z251.1 z251.2) big (l95, 0)).bind fun y252 => Z6y y252
def Z73 (l96 : List Int) (l141 : List Int) (x142 : Int) (x163 : Int) : Option ((List Int × Int) ⊕ ((List Int))) := (chk (decide ((0 : Int) ≤ x163 ∧ x163 ≤ (l141.length : Int)))).bind fun u166 => (chk (decide ((Int.toNat x163) ≤ l141.length))).bind fun u168 => (chk (decide ((([] : List Int).length + (List.take (Int.toNat x163) l141).length) * 8 ≤ 140737488355328))).bind fun u170 => (getI l96 x142).bind fun e172 => (chk (decide (((([] : List Int) ++ (List.take (Int.toNat x163) l141)).length + [e172].length) * 8 ≤ 140737488355328))).bind fun u176 => (chk (decide ((0 : Int) ≤ x163 ∧ x163 ≤ (l141.length : Int)))).bind fun u179 => (chk (decide ((Int.toNat x163) ≤ l141.length))).bind fun u181 => (chk (decide ((((([] : List Int) ++ (List.take (Int.toNat x163) l141)) ++ [e172]).length + (List.drop (Int.toNat x163) l141).length) * 8 ≤ 140737488355328))).bind fun u183 => some (.inl ((((([] : List Int) ++ (List.take (Int.toNat x163) l141)) ++ [e172]) ++ (List.drop (Int.toNat x163) l141)), (IntKind.i64.wrap (x142 + 1))))
def Z74 (x153 : Int) (x161 : Bool) : Option (Int ⊕ (Int)) := cond x161 (some (.inl (IntKind.i64.wrap (x153 - 1)))) (some (.inr x153))
def Z75 (p0 : Y9k) (p1 : List Int) (l96 : List Int) (l141 : List Int) (x142 : Int) (x153 : Int) : Option (Int ⊕ (Int)) := cond (decide (x153 > 0)) ((getI l96 x142).bind fun e155 => (getI l141 (IntKind.i64.wrap (x153 - 1))).bind fun e157 => (Z68 p0 p1 e155 e157).bind fun r159 => Z74 x153 r159) (Z74 x153 false)
def Z76 (p0 : Y9k) (p1 : List Int) (l96 : List Int) (l141 : List Int) (x142 : Int) : Option ((List Int × Int) ⊕ ((List Int))) := cond (decide (x142 < (l96.length : Int))) ((iter (Z75 p0 p1 l96 l141 x142) big (l141.length : Int)).bind fun y253 => Z73 l96 l141 x142 y253) (some (.inr l141))
def Z77 (p0 : Y9k) (p1 : List Int) (l95 : List Y9m) (l96 : List Int) : Option (List Y9m) := (iter (fun z254 => Z76 p0 p1 l96 z254.1 z254.2) big (([] : List Int), 0)).bind fun y255 => Z72 p0 l95 y255
def Z78 (x51 : Int) (l92 : List Y9m) (l93 : List Int) : Option ((List Y9m × List Int × Int) ⊕ ((List Y9m × List Int))) := some (.inl (l92, l93, (IntKind.i64.wrap (x51 + 1))))
def Z79 (x73 : Int) (l89 : List Y9m) (l90 : List Int) : Option ((List Y9m × List Int × Int) ⊕ ((List Y9m × List Int))) := some (.inl (l89, l90, (IntKind.i64.wrap (x73 + 1))))
def Z7a (p2 : List (List Y9m)) (x51 : Int) (l71 : List Y9m) (l72 : List Int) (x73 : Int) : Option ((List Y9m × List Int × Int) ⊕ ((List Y9m × List Int))) := (getI p2 x51).bind fun e74 => cond (decide (x73 < (e74.length : Int))) ((getI e74 x73).bind fun e77 => (Z5o p2 e77).bind fun r79 => cond r79 ((Z62 l71 e77).bind fun r82 => Z79 x73 r82 l72) ((Zx l72 e77.id).bind fun r86 => Z79 x73 l71 r86)) (some (.inr (l71, l72)))
def Z7b (p2 : List (List Y9m)) (l49 : List Y9m) (l50 : List Int) (x51 : Int) : Option ((List Y9m × List Int × Int) ⊕ ((List Y9m × List Int))) := cond (decide (x51 < (p2.length : Int))) ((iter (fun z256 => Z7a p2 x51 z256.1 z256.2.1 z256.2.2) big (l49, l50, 0)).bind fun (y257, y258) => Z78 x51 y257 y258) (some (.inr (l49, l50)))
def Z7c (p0 : Y9k) (p1 : List Int) (p2 : List (List Y9m)) : Option (List Y9m) := (iter (fun z259 => Z7b p2 z259.1 z259.2.1 z259.2.2) big (([] : List Y9m), ([] : List Int), 0)).bind fun (y260, y261) => Z77 p0 p1 y260 y261
instance Z7d (p0 : Y9k) (p1 : List Int) (p2 : List (List Y9m)) : SpO Tryz.prog 83 (Z7c p0 p1 p2) (.d [C.agg [cI p0.room, cM Y9q 9 p0.events, cM Y9q 9 p0.parked], cM kI64 1 p1, cM Y9s 1 p2] [] fun r => .x fun (v250 : Value) => .d (cV v250) [oA v250 96 Y9r 3 r]) := ⟨so Tryz.func83 rfl rfl fun r X h => gh (.q 3 (.c2 (fun l95 l96 => .x fun v94 => .d [(7, cV v94), (8, cM kI64 1 l96)] [oA v94 96 Y9r 3 l95]) [1,3] [2] (.l3 (fun l49 l50 x51 => .x fun v48 => .d [(7, cV v48), (8, cM kI64 1 l50), (9, cI x51)] [oA v48 96 Y9r 3 l49]) [1,2,3] [2] (.b (.c2 (fun l92 l93 => .x fun v91 => .d [(7, cV v91), (8, cM kI64 1 l93)] [oA v91 96 Y9r 3 l92]) [1,2,3,9] [1] (.l3 (fun l71 l72 x73 => .x fun v70 => .d [(7, cV v70), (8, cM kI64 1 l72), (10, cI x73)] [oA v70 96 Y9r 3 l71]) [1,2,3,9] [1] (.b (.c2 (fun l89 l90 => .x fun v88 => .d [(7, cV v88), (8, cM kI64 1 l90)] [oA v88 96 Y9r 3 l89]) [1,2,3,9,10] [1] (.b (.k .z) .z) .z) .z)) .z) .z)) (.q 1 (.c1 (fun l186 => .x fun v185 => .d [(11, cV v185)] [oA v185 2 kI64 1 l186]) [3,7] [2,1] (.l2 (fun l141 x142 => .x fun v140 => .d [(11, cV v140), (12, cI x142)] [oA v140 2 kI64 1 l141]) [1,3,7,8] [2,1] (.b (.q 2 (.c1 (fun x163 => .d [(13, cI x163)] []) [1,3,7,8,11,12] [1,2,0] (.l1 (fun x153 => .d [(13, cI x153)] []) [1,3,7,8,11,12] [1,2,0] (.q 1 (.c1 (fun x161 => .d [(86, C.bool x161)] []) [1,3,7,8,11,12,13] [0,1,2] (.r [0,0,0] [3,8,13] [] [0,4,8,13,16,20,24,28,33,36,40,44,48,53,58,60] .z) .z))) .z)) .z)) (.c1 (fun l249 => .x fun v248 => .d [(7, cV v248)] [oA v248 96 Y9r 3 l249]) [] [] (.l2 (fun l217 x218 => .x fun v216 => .d [(7, cV v216), (15, cI x218)] [oA v216 96 Y9r 3 l217]) [3,11] [1,0] (.b (.c1 (fun l247 => .x fun v246 => .d [(7, cV v246)] [oA v246 96 Y9r 3 l247]) [3,11,15] [1,2] (.c9 (fun x230 x231 x232 x233 x234 x235 x236 l237 x238 => .x fun b229 => .d [(16, pt b229)] [oB b229 42 [cI x230, cI x231, cI x232, cI x233, cI x234, cI x235, C.str x236, cM kI64 1 l237, cI x238]]) [3,7,11,15] [1,0,2] (.R [0,0,0] [1,3,7,10] [12] (.light 0 false (.light 1 true (.light 2 false (.light 3 true (.light 4 false (.light 5 false (.light 6 false (.light 7 true (.two 8 11 (.light 9 false (.light 10 true (.one 11 (.late 12 (.done))))) (.one 8 (.light 9 false (.light 10 true (.late 12 (.done)))))))))))))) (.H 87 .z)) (.b (.k .z) .z)) .z) .z)) .z)))))⟩
instance Z7d' (p0 : Y9k) (p1 : List Int) (p2 : List (List Y9m)) : Sp Tryz.prog 83 [C.agg [cI p0.room, cM Y9q 9 p0.events, cM Y9q 9 p0.parked], cM kI64 1 p1, cM Y9s 1 p2] (Z7c p0 p1 p2) (fun r => cM Y9r 3 r) := ⟨fun r h => Ok.freeze ((Z7d p0 p1 p2).h r h) (by rintro c qs ⟨v250, rfl, rfl⟩; exact Frz.arr)⟩

def Z7e (p0 : Y9k) (p1 : Int) : Option Y9j := (Zr p0.events p1).bind fun r3 => cond (decide (r3 < 0)) (some (Y9j.mk 0 0 0 0 0 0 ByteArray.empty [] 0)) ((getI p0.events r3).bind fun e6 => (Z39 e6).bind fun r8 => some r8)
instance Z7f (p0 : Y9k) (p1 : Int) : Sp Tryz.prog 93 [C.agg [cI p0.room, cM Y9q 9 p0.events, cM Y9q 9 p0.parked], cI p1] (Z7e p0 p1) (fun r => C.agg [cI r.id, cI r.room, cI r.author, cI r.kind, cI r.key, cI r.n, C.str r.text, cM kI64 1 r.prev, cI r.time]) := Sp.of (so Tryz.func93 rfl rfl fun r X h => gh .z)

def Z7g : Option Bool := some false
def Z7h (p0 : Y9k) (p1 : Int) (l35 : List Bool) (l37 : List Int) : Option ((List Bool × List Int) ⊕ (Bool ⊕ Unit)) := cond (decide ((l37.length : Int) > 0)) ((getI l37 0).bind fun e39 => (chk (decide ((0 : Int) ≤ 1 ∧ 1 ≤ (l37.length : Int)))).bind fun u42 => (Zr p0.events e39).bind fun r44 => cond (e39 == p1) (some (.inr (.inl true))) ((getI l35 r44).bind fun e47 => cond e47 (some (.inl (l35, (List.drop (Int.toNat 1) l37)))) ((getI p0.events r44).bind fun e50 => (chk (decide (((List.drop (Int.toNat 1) l37).length + e50.prev.length) * 8 ≤ 140737488355328))).bind fun u53 => some (.inl ((List.set l35 (Int.toNat r44) true), ((List.drop (Int.toNat 1) l37) ++ e50.prev)))))) (some (.inr (.inr ())))
def Z7i (p0 : Y9k) (p1 : Int) (p2 : Int) (x7 : Bool) : Option Bool := cond x7 (some false) ((chk (decide (0 ≤ (p0.events.length : Int) ∧ (p0.events.length : Int) * 1 ≤ 140737488355328))).bind fun u10 => (Z7e p0 p2).bind fun r13 => (chk (decide ((([] : List Int).length + r13.prev.length) * 8 ≤ 140737488355328))).bind fun u16 => (iter (fun z55 => Z7h p0 p1 z55.1 z55.2) big ((List.replicate (Int.toNat (p0.events.length : Int)) false), (([] : List Int) ++ r13.prev))).bind (fun z57 => match z57 with | .inl y56 => some y56 | .inr () => Z7g))
def Z7j (p0 : Y9k) (p1 : Int) (p2 : Int) : Option Bool := (Zr p0.events p1).bind fun r2 => cond (decide (r2 < 0)) (Z7i p0 p1 p2 true) ((Zr p0.events p2).bind fun r5 => Z7i p0 p1 p2 (decide (r5 < 0)))
instance Z7k (p0 : Y9k) (p1 : Int) (p2 : Int) : Sp Tryz.prog 169 [C.agg [cI p0.room, cM Y9q 9 p0.events, cM Y9q 9 p0.parked], cI p1, cI p2] (Z7j p0 p1 p2) C.bool := sp Tryz.func169 rfl rfl fun r X h => by
 unfold Z7j at h
 refine zw ?_
 refine ox fun b1 => ?_
 refine Ops.v rfl (Ys rfl rfl) ?_
 refine Ops.nil ?_
 refine AW.seq ?_
 refine AW.seq ?_
 refine AW.cut (τ := Bool) (fun x7 => ⟨[(1, cI p1), (2, cI p2), (3, pt b1), (22, C.bool x7)], [oB b1 25 [cI p0.room, cM Y9q 9 p0.events, cM Y9q 9 p0.parked]]⟩) (fun x7 => Z7i p0 p1 p2 x7 = some r) ?_ ?_
 ·
  refine zw ?_
  refine oc h fun r2 g3 h => ?_
  refine zw ?_
  refine cnd h (fun hb4 h => ?_) fun hb4 h => ?_
  ·
   refine zw ?_
   exact ⟨true, h, Y25.both (ns := [0]) rfl rfl⟩
  refine zw ?_
  refine gcl h rfl rfl rfl rfl hb4 inferInstance rfl rfl fun r5 g6 h => ?_
  refine zw ?_
  exact ⟨decide (r5 < 0), h, Y25.both (ns := [0]) rfl rfl⟩
 intro x7 h
 replace h : Z7i p0 p1 p2 x7 = some r := h
 unfold Z7i at h
 refine cnd h (fun hb8 h => ?_) fun hb8 h => ?_
 ·
  refine AW.ct hb8 rfl ?_
  refine zw ?_
  refine AW.ret ?_
  rw [← Wj h]
  exact finI ⟨[C.bool false], _, Y25.refl _, (.cons (.tmp rfl) .nil), [], _, _, rfl, ⟨rfl, rfl⟩⟩
 refine AW.cf hb8 rfl ?_
 refine zw ?_
 refine ob' h fun u10 c9 h => ?_
 refine Ops.h (ns := []) rfl rfl (mS (k := Y9t) (u := false) c9 Ybp ze_4 (Y4g rfl rfl)) ?_
 rintro _ _ ⟨b11, rfl, rfl⟩
 refine zw ?_
 refine Ops.h (ns := []) rfl rfl (Y3l (k := kI64) (ys := ([] : List Int)) Yai .nil rfl rfl rfl) ?_
 rintro _ _ ⟨b12, rfl, rfl⟩
 refine zw ?_
 refine oc h fun r13 g14 h => ?_
 refine Ops.v rfl (Y70 Ybq rfl rfl rfl) ?_
 refine ob' h fun u16 c15 h => ?_
 refine Ops.h (ns := [0]) rfl rfl (Y33 Yai rfl rfl (Wo (Y45 c15)) (Y49 (by decide) c15) rfl) ?_
 rintro _ _ ⟨v17, rfl, rfl⟩
 refine Ops.v rfl (Ys rfl rfl) ?_
 refine Ops.nil ?_
 refine AW.seq ?_
 refine AW.cut (τ := Unit) (fun (_ : Unit) => ⟨[], []⟩) (fun (_ : Unit) => Z7g = some r) ?_ ?_
 ·
  refine zw ?_
  refine ob' h fun o58 g59 q60 => ?_
  refine AW.loop (τ := List Bool × List Int × Value) (x := ((List.replicate (Int.toNat (p0.events.length : Int)) false), (([] : List Int) ++ r13.prev), v17)) (fun (l35, l37, v36) => ⟨[(1, cI p1), (3, pt b1), (7, cV (sn b11 (p0.events.length : Int))), (8, cV v36)], [oA (sn b11 (p0.events.length : Int)) 4 Y9t 1 l35, Obj.que v36 2 kI64 1 l37, oB b1 25 [cI p0.room, cM Y9q 9 p0.events, cM Y9q 9 p0.parked]]⟩) (fun k (l35, l37, v36) => iter (fun z55 => Z7h p0 p1 z55.1 z55.2) k (l35, l37) = some o58) g59 ((Y25.que (p := 0) rfl).trans (Y25.both (ns := [1, 0, 0]) rfl rfl)) ?_
  rintro k ⟨l35, l37, v36⟩ i62
  refine Y4f (show iter (fun z55 => Z7h p0 p1 z55.1 z55.2) k (l35, l37) = some o58 from i62) fun k61 y63 hlt_k61 h h64 => ?_
  replace h : Z7h p0 p1 l35 l37 = some y63 := h
  unfold Z7h at h
  refine zw ?_
  refine Ops.v rfl (Y7s (p := 1) Yaj.h rfl rfl rfl) ?_
  refine zw ?_
  refine cnd h (fun hb38 h => ?_) fun hb38 h => ?_
  ·
   refine AW.ct hb38 rfl ?_
   refine zw ?_
   refine ob' h fun e39 g40 h => ?_
   refine Ops.v rfl (Y7t (p := 1) Yaj.h rfl rfl rfl g40 rfl) ?_
   refine Ops.v rfl (Y7u (p := 1) ld_2.h rfl rfl (Y2f g40).2.2 rfl rfl) ?_
   refine zw ?_
   refine ob' h fun u42 c41 h => ?_
   refine Ops.h (ns := [1]) rfl rfl (Y7v (l := (Int.toNat 1)) Yaj.h rfl rfl (Wo (Y45 c41)) rfl rfl) ?_
   rintro _ _ ⟨v43, rfl, rfl⟩
   refine zw ?_
   refine oc h fun r44 g45 h => ?_
   refine zw ?_
   refine cnd h (fun hb46 h => ?_) fun hb46 h => ?_
   ·
    refine AW.ct hb46 rfl ?_
    refine zw ?_
    refine AW.ret ?_
    obtain rfl := Wj h
    obtain rfl := Wj h64
    replace h := q60
    rw [← Wj h]
    exact finI ⟨[C.bool true], _, Y25.refl _, (.cons (.tmp rfl) .nil), [], _, _, rfl, ⟨rfl, rfl⟩⟩
   refine AW.cf hb46 rfl ?_
   refine zw ?_
   refine ob' h fun e47 g48 h => ?_
   refine zw ?_
   refine cnd h (fun hb49 h => ?_) fun hb49 h => ?_
   ·
    refine AW.cond rfl (fun hn => absurd ((Y46 hb49).symm.trans hn) (by decide)) (fun _ => ?_)
    refine zw ?_
    obtain rfl := Wj h
    exact ⟨k61, (l35, (List.drop (Int.toNat 1) l37), v43), hlt_k61, h64, Y25.both (ns := [1, 0, 0]) rfl rfl⟩
   refine AW.cond rfl (fun _ => ?_) (fun hn => absurd ((Y47 hb49).symm.trans hn) (by decide))
   refine zw ?_
   refine Ops.hd (ns := [1]) rfl rfl (Y3f (e' := true) ld_4.h rfl rfl (One.val rfl) (Y2f g48).2.2 rfl rfl) ?_
   refine zw ?_
   refine oi h fun e50 g51 h => ?_
   refine zw ?_
   refine ob' h fun u53 c52 h => ?_
   refine Ops.h (ns := [1]) rfl rfl (Y7y Yai rfl rfl (Wo (Y45 c52)) (Y49 (by decide) c52) rfl) ?_
   rintro _ _ ⟨v54, rfl, rfl⟩
   refine zw ?_
   obtain rfl := Wj h
   exact ⟨k61, ((List.set l35 (Int.toNat r44) true), ((List.drop (Int.toNat 1) l37) ++ e50.prev), v54), hlt_k61, h64, Y25.both (ns := [1, 0, 0]) rfl rfl⟩
  refine AW.cf hb38 rfl ?_
  refine AW.exit ?_
  obtain rfl := Wj h
  obtain rfl := Wj h64
  replace h := q60
  exact ⟨(), h, Y25.both (ns := []) rfl rfl⟩
 rintro ⟨⟩ h
 replace h : Z7g = some r := h
 unfold Z7g at h
 refine zw ?_
 refine AW.ret ?_
 rw [← Wj h]
 exact finI ⟨[C.bool false], _, Y25.refl _, (.cons (.tmp rfl) .nil), [], _, _, rfl, ⟨rfl, rfl⟩⟩

def Z7l (l38 : List Int) (l260 : List (List Y9m)) (l261 : List (List Y9m)) (l262 : List Int) : Option Y9n := some (Y9n.mk l38 l260 l261 l262)
def Z7m (x152 : Int) (l257 : List (List Y9m)) (l258 : List (List Y9m)) (l259 : List Int) : Option ((List (List Y9m) × List (List Y9m) × List Int × Int) ⊕ ((List (List Y9m) × List (List Y9m) × List Int))) := some (.inl (l257, l258, l259, (IntKind.i64.wrap (x152 + 1))))
def Z7n (l149 : List (List Y9m)) (l150 : List (List Y9m)) (x152 : Int) (r156 : Int) (e158 : Y9j) (r220 : List Y9m) (e225 : List Y9m) (l241 : List Int) (x251 : Bool) : Option ((List (List Y9m) × List (List Y9m) × List Int × Int) ⊕ ((List (List Y9m) × List (List Y9m) × List Int))) := cond x251 ((Z62 e225 (Y9m.mk e158.kind e158.key e158.id)).bind fun r253 => (getI (List.set l150 (Int.toNat r156) (([] : List Y9m) ++ e225)) r156).bind fun e255 => Z7m x152 (List.set l149 (Int.toNat r156) r220) (List.set (List.set l150 (Int.toNat r156) (([] : List Y9m) ++ e225)) (Int.toNat r156) r253) l241) (Z7m x152 (List.set l149 (Int.toNat r156) r220) (List.set l150 (Int.toNat r156) (([] : List Y9m) ++ e225)) l241)
def Z7o (l149 : List (List Y9m)) (l150 : List (List Y9m)) (x152 : Int) (r156 : Int) (e158 : Y9j) (r220 : List Y9m) (e225 : List Y9m) (l241 : List Int) : Option ((List (List Y9m) × List (List Y9m) × List Int × Int) ⊕ ((List (List Y9m) × List (List Y9m) × List Int))) := (chk (decide ((([] : List Y9m).length + e225.length) * 24 ≤ 140737488355328))).bind fun u244 => (getI l150 r156).bind fun e246 => (getI l241 r156).bind fun e248 => cond (e248 == 0) (Z7n l149 l150 x152 r156 e158 r220 e225 l241 (decide (e158.kind ≤ 6))) (Z7n l149 l150 x152 r156 e158 r220 e225 l241 false)
def Z7p (l149 : List (List Y9m)) (l150 : List (List Y9m)) (l151 : List Int) (x152 : Int) (r156 : Int) (e158 : Y9j) (r220 : List Y9m) (e225 : List Y9m) (r227 : Int) (x237 : Bool) : Option ((List (List Y9m) × List (List Y9m) × List Int × Int) ⊕ ((List (List Y9m) × List (List Y9m) × List Int))) := cond x237 ((getI (List.set l151 (Int.toNat r156) r227) r156).bind fun e239 => Z7o l149 l150 x152 r156 e158 r220 e225 (List.set (List.set l151 (Int.toNat r156) r227) (Int.toNat r156) 6)) (Z7o l149 l150 x152 r156 e158 r220 e225 (List.set l151 (Int.toNat r156) r227))
def Z7q (p0 : Y9k) (l38 : List Int) (l149 : List (List Y9m)) (l150 : List (List Y9m)) (l151 : List Int) (x152 : Int) (r156 : Int) (e158 : Y9j) (l214 : List (List Y9m)) : Option ((List (List Y9m) × List (List Y9m) × List Int × Int) ⊕ ((List (List Y9m) × List (List Y9m) × List Int))) := (Z7c p0 l38 l214).bind fun r220 => (getI l149 r156).bind fun e223 => (getI (List.set l149 (Int.toNat r156) r220) r156).bind fun e225 => (Z6w p0 e225 e158).bind fun r227 => (getI l151 r156).bind fun e229 => (getI (List.set l151 (Int.toNat r156) r227) r156).bind fun e231 => cond (e231 == 0) (cond (e158.kind == 8) ((Z7j p0 e158.key e158.id).bind fun r235 => Z7p l149 l150 l151 x152 r156 e158 r220 e225 r227 (!r235)) (Z7p l149 l150 l151 x152 r156 e158 r220 e225 r227 false)) (Z7p l149 l150 l151 x152 r156 e158 r220 e225 r227 false)
def Z7r (p0 : Y9k) (l150 : List (List Y9m)) (e158 : Y9j) (l187 : List (List Y9m)) (x188 : Int) : Option ((List (List Y9m) × Int) ⊕ ((List (List Y9m)))) := cond (decide (x188 < (e158.prev.length : Int))) ((getI e158.prev x188).bind fun e203 => (Zr p0.events e203).bind fun r205 => (getI l150 r205).bind fun e207 => (chk (decide ((l187.length + [e207].length) * 24 ≤ 140737488355328))).bind fun u211 => some (.inl ((l187 ++ [e207]), (IntKind.i64.wrap (x188 + 1))))) (some (.inr l187))
def Z7s (p0 : Y9k) (l38 : List Int) (r42 : List Int) (l149 : List (List Y9m)) (l150 : List (List Y9m)) (l151 : List Int) (x152 : Int) : Option ((List (List Y9m) × List (List Y9m) × List Int × Int) ⊕ ((List (List Y9m) × List (List Y9m) × List Int))) := cond (decide (x152 < (p0.events.length : Int))) ((getI r42 x152).bind fun e154 => (Zr p0.events e154).bind fun r156 => (getI p0.events r156).bind fun e158 => (iter (fun z267 => Z7r p0 l150 e158 z267.1 z267.2) big (([] : List (List Y9m)), 0)).bind fun y268 => Z7q p0 l38 l149 l150 l151 x152 r156 e158 y268) (some (.inr (l149, l150, l151)))
def Z7t (p0 : Y9k) (l38 : List Int) : Option Y9n := (Z5f p0).bind fun r42 => (iter (fun z269 => Z7s p0 l38 r42 z269.1 z269.2.1 z269.2.2.1 z269.2.2.2) big ((List.replicate (Int.toNat (p0.events.length : Int)) []), (List.replicate (Int.toNat (p0.events.length : Int)) []), (List.replicate (Int.toNat (p0.events.length : Int)) 0), 0)).bind fun (y270, y271, y272) => Z7l l38 y270 y271 y272
def Z7u (p0 : Y9k) : Option Y9n := (Z2v p0.events).bind fun r2 => (chk (decide (0 ≤ (p0.events.length : Int) ∧ (p0.events.length : Int) * 24 ≤ 140737488355328))).bind fun u5 => (chk (decide (0 ≤ (p0.events.length : Int) ∧ (p0.events.length : Int) * 24 ≤ 140737488355328))).bind fun u8 => (chk (decide (0 ≤ (p0.events.length : Int) ∧ (p0.events.length : Int) * 8 ≤ 140737488355328))).bind fun u11 => Z7t p0 r2
instance Z7v (p0 : Y9k) : SpO Tryz.prog 86 (Z7u p0) (.d [C.agg [cI p0.room, cM Y9q 9 p0.events, cM Y9q 9 p0.parked]] [] fun r => .x fun (b263 : Nat) => .x fun (v264 : Value) => .x fun (v265 : Value) => .x fun (v266 : Value) => .d (pt b263) [oB b263 106 [cM kI64 1 r.depths, cV v264, cV v265, cV v266], oA v264 29 Y9s 1 r.ahead, oA v265 29 Y9s 1 r.behind, oA v266 2 kI64 1 r.code]) := ⟨so Tryz.func86 rfl rfl fun r X h => gh (.q 2 (.c1 (fun l38 => .x fun b37 => .x fun v39 => .x fun v40 => .x fun v41 => .d [(4, pt b37)] [oB b37 106 [cM kI64 1 l38, cV v39, cV v40, cV v41], oA v39 29 Y9s 1 (List.replicate (Int.toNat (p0.events.length : Int)) []), oA v40 29 Y9s 1 (List.replicate (Int.toNat (p0.events.length : Int)) []), oA v41 2 kI64 1 (List.replicate (Int.toNat (p0.events.length : Int)) 0)]) [1,3] [0] (.R [0] [1] [] (.light 0 false (.light 1 true (.light 3 false (.light 5 false (.light 7 false (.four 2 4 6 8 (.three 4 6 8 (.two 6 8 (.one 8 (.light 9 false (.one 10 (.light 11 false .done)))) (.one 6 (.light 9 false (.one 10 (.light 11 false .done))))) (.two 4 8 (.one 8 (.light 9 false (.one 10 (.light 11 false .done)))) (.one 4 (.light 9 false (.one 10 (.light 11 false .done))))) (.two 4 6 (.one 6 (.light 9 false (.one 10 (.light 11 false .done)))) (.one 4 (.light 9 false (.one 10 (.light 11 false .done)))))) (.three 2 6 8 (.two 6 8 (.one 8 (.light 9 false (.one 10 (.light 11 false .done)))) (.one 6 (.light 9 false (.one 10 (.light 11 false .done))))) (.two 2 8 (.one 8 (.light 9 false (.one 10 (.light 11 false .done)))) (.one 2 (.light 9 false (.one 10 (.light 11 false .done))))) (.two 2 6 (.one 6 (.light 9 false (.one 10 (.light 11 false .done)))) (.one 2 (.light 9 false (.one 10 (.light 11 false .done)))))) (.three 2 4 8 (.two 4 8 (.one 8 (.light 9 false (.one 10 (.light 11 false .done)))) (.one 4 (.light 9 false (.one 10 (.light 11 false .done))))) (.two 2 8 (.one 8 (.light 9 false (.one 10 (.light 11 false .done)))) (.one 2 (.light 9 false (.one 10 (.light 11 false .done))))) (.two 2 4 (.one 4 (.light 9 false (.one 10 (.light 11 false .done)))) (.one 2 (.light 9 false (.one 10 (.light 11 false .done)))))) (.three 2 4 6 (.two 4 6 (.one 6 (.light 9 false (.one 10 (.light 11 false .done)))) (.one 4 (.light 9 false (.one 10 (.light 11 false .done))))) (.two 2 6 (.one 6 (.light 9 false (.one 10 (.light 11 false .done)))) (.one 2 (.light 9 false (.one 10 (.light 11 false .done))))) (.two 2 4 (.one 4 (.light 9 false (.one 10 (.light 11 false .done)))) (.one 2 (.light 9 false (.one 10 (.light 11 false .done)))))))))))) (.H 84 (.h 3 .z))) (.q 1 (.a 1 fun v39 => .a 2 fun v40 => .a 3 fun v41 => .c3 (fun l260 l261 l262 => .d [] [oA v39 29 Y9s 1 l260, oA v40 29 Y9s 1 l261, oA v41 2 kI64 1 l262]) [4] [0] (.A 1 fun v39 => .A 2 fun v40 => .A 3 fun v41 => .l4 (fun l149 l150 l151 x152 => .d [(6, cI x152)] [oA v39 29 Y9s 1 l149, oA v40 29 Y9s 1 l150, oA v41 2 kI64 1 l151]) [1,3,4,5] [4,0] (.b (.a 0 fun v39 => .a 1 fun v40 => .a 2 fun v41 => .c3 (fun l257 l258 l259 => .d [] [oA v39 29 Y9s 1 l257, oA v40 29 Y9s 1 l258, oA v41 2 kI64 1 l259]) [1,3,4,5,6] [3,4] (.r [0,0,0,0,0] [1,5] [] [0,5,8,12,16,21,26,28] (.q 2 (.c1 (fun l214 => .x fun v213 => .d [(9, cV v213)] [oA v213 29 Y9s 1 l214]) [1,3,4,5,6,7,8] [5,6,2,3,4,1] (.l2 (fun l187 x188 => .x fun v186 => .d [(9, cV v186), (10, cI x188)] [oA v186 29 Y9s 1 l187]) [1,3,4,5,6,7,8] [5,6,2,3,4,1] (.b (.r [1,1,1,1,1,1] [4,6,8,11,14] [] [0,4,8,12,17,20,25,28,33,36,40,45,50,52,57,62,66,68] .z) .z)) (.r [1,1,1,1,1,1] [3,5,9] [13] [0,4,8,13,16,21,24,28,32,37,40,46,48,55] (.k (.g 80 [] (.r [0,0,0,0,0,0,0] [3,5,9,12,13] [16] [0,4,8,13,16,21,24,28,32,37,40,44,49,53,58,60,67] (.a 0 fun v41 => .c1 (fun l241 => .d [] [oA v41 2 kI64 1 l241]) [1,3,4,5,6,7,8] [2,3,1,4,5] (.c1 (fun x237 => .d [(119, C.bool x237)] []) [1,3,4,5,6,7,8] [2,3,1,4,0,5] .z .z) (.r [0,0,0,0,0,0] [3,9,12] [15] [0,4,8,13,16,24,28,32,37,40,44,49,22,54,56,63] (.f 139 [] (.c1 (fun x251 => .d [(153, C.bool x251)] []) [1,3,4,5,6,7,8] [2,3,4,0,1,5] .z (.b (.r [0,0,0,0,0,0] [3,8,11,13,15,17] [21] [0,4,8,13,16,20,24,28,33,36,40,45,48,53,56,61,64,69,72,78,80,87] .z) .z)))))))))))) .z) .z)) .z))))⟩
instance Z7v' (p0 : Y9k) : Sp Tryz.prog 86 [C.agg [cI p0.room, cM Y9q 9 p0.events, cM Y9q 9 p0.parked]] (Z7u p0) (fun r => C.ip [cM kI64 1 r.depths, cM Y9s 1 r.ahead, cM Y9s 1 r.behind, cM kI64 1 r.code]) := ⟨fun r h => Ok.freeze ((Z7v p0).h r h) (by rintro c qs ⟨b263, v264, v265, v266, rfl, rfl⟩; exact Frz.box (fS (FrzL.cons (os := [_]) (Frz.arr) (FrzL.cons (os := [_]) (Frz.arr) (FrzL.cons (os := [_]) (Frz.arr) (FrzL.nil))))))⟩

def Z7w (p0 : Y9k) (p1 : Int) : Option (List Y9m) := (Z58 p0 p1).bind fun r2 => cond r2 ((Z7u p0).bind fun r6 => (Zr p0.events p1).bind fun r12 => (getI r6.behind r12).bind fun e14 => some e14) (some ([] : List Y9m))
instance Z7x (p0 : Y9k) (p1 : Int) : Sp Tryz.prog 17 [C.agg [cI p0.room, cM Y9q 9 p0.events, cM Y9q 9 p0.parked], cI p1] (Z7w p0 p1) (fun r => cM Y9r 3 r) := Sp.of (so Tryz.func17 rfl rfl fun r X h => gh (.b (.r [0] [0,4,6,10] [] [1,20,25,28,6,8,12,17,34,36,41,44] (.k (.w 4 .z))) .z))

def Z7y (x36 : Int) (x37 : Int) (x38 : Int) (l39 : List Int) (x40 : Int) (x41 : Int) (x42 : Int) : Option (Y9m × Y9i) := some ((Y9m.mk x36 x37 x38), (Y9i.mk l39 x40 x41 x42))
def Z7z (r2 : Int × Y9i) (r4 : Int × Y9i) (l12 : List Int) (x13 : Int) (x14 : Int) (x15 : Int) (x16 : Int) : Option (Y9m × Y9i) := (Zc (Y9i.mk l12 x13 x14 x15) 20).bind fun r17 => cond r17.1 ((Z9 r17.2 3).bind fun r20 => cond (r20.1 == 0) ((Z9 r20.2 9).bind fun r23 => Z7y r23.1 x16 (IntKind.i64.wrap (1 + r4.1)) r23.2.b r23.2.at_ r23.2.mix r23.2.size) (cond (r20.1 == 1) ((Z9 r20.2 3).bind fun r27 => (getI [(-1), 6, 7] r27.1).bind fun e29 => Z7y (IntKind.i64.wrap (1 + r2.1)) e29 (IntKind.i64.wrap (1 + r4.1)) r27.2.b r27.2.at_ r27.2.mix r27.2.size) ((Z9 r20.2 4).bind fun r32 => (getI [0, (-1), 1000000, 1000001] r32.1).bind fun e34 => Z7y (IntKind.i64.wrap (1 + r2.1)) x16 e34 r32.2.b r32.2.at_ r32.2.mix r32.2.size))) (Z7y (IntKind.i64.wrap (1 + r2.1)) x16 (IntKind.i64.wrap (1 + r4.1)) r17.2.b r17.2.at_ r17.2.mix r17.2.size)
def Z80 (r2 : Int × Y9i) (r4 : Int × Y9i) (x8 : Bool) : Option (Y9m × Y9i) := cond x8 ((Z9 r4.2 4).bind fun r10 => Z7z r2 r4 r10.2.b r10.2.at_ r10.2.mix r10.2.size (IntKind.i64.wrap (1 + r10.1))) (Z7z r2 r4 r4.2.b r4.2.at_ r4.2.mix r4.2.size 0)
def Z81 (p0 : Y9i) : Option (Y9m × Y9i) := (Z9 p0 6).bind fun r2 => (Z9 r2.2 9).bind fun r4 => cond ((IntKind.i64.wrap (1 + r2.1)) == 2) (Z80 r2 r4 true) (Z80 r2 r4 ((IntKind.i64.wrap (1 + r2.1)) == 3))
theorem Z82 {b00 : Nat} (p0 : Y9i) (r : Y9m × Y9i) (h : Z81 p0 = some r) : Ok Tryz.prog 138 [pt b00] [oB b00 159 [cM kU8 1 p0.b, cI p0.at_, cV (.int .u64 p0.mix), cI p0.size]] (fun c qs => c = C.agg [cI r.1.kind, cI r.1.key, cI r.1.id] ∧ qs = [oB b00 159 [cM kU8 1 r.2.b, cI r.2.at_, cV (.int .u64 r.2.mix), cI r.2.size]]) := by
 refine Ok.of_body (rs := [.cell 2 96]) Tryz.func138 rfl rfl rfl rfl rfl fun X => ?_
 unfold Z81 at h
 refine zw ?_
 refine al fun b1 => ?_
 refine zw ?_
 refine ob' h fun r2 g3 h => ?_
 refine Ops.hd (ns := [1]) rfl rfl (Y28 (Za p0 6 _ g3) rfl rfl) ?_
 refine zw ?_
 refine ob' h fun r4 g5 h => ?_
 refine Ops.hd (ns := [0]) rfl rfl (Y28 (Za r2.2 9 _ g5) rfl rfl) ?_
 refine Ops.v rfl (Yx rfl rfl rfl rfl) ?_
 refine Ops.v rfl (Y3k (ds := [cI (IntKind.i64.wrap (1 + r2.1)), cI 0, cI (IntKind.i64.wrap (1 + r4.1))]) Ybn Ybo (Y4g rfl rfl) (.one rfl (One.val rfl) rfl rfl (.one rfl (One.val rfl) rfl rfl .nil)) rfl) ?_
 refine al fun b6 => ?_
 refine Ops.sA Ybj.h rfl rfl rfl inferInstance rfl ?_
 refine Ops.nil ?_
 refine AW.seq ?_
 refine AW.cut (τ := List Int × Int × Int × Int × Int) (fun (l12, x13, x14, x15, x16) => ⟨[(0, pt b00), (2, pt b1), (3, pt b6)], [oB b00 159 [cM kU8 1 l12, cI x13, cV (.int .u64 x14), cI x15], oB b6 96 [cI (IntKind.i64.wrap (1 + r2.1)), cI x16, cI (IntKind.i64.wrap (1 + r4.1))], oB b1 96 [cI 0, cI 0, cI 0]]⟩) (fun (l12, x13, x14, x15, x16) => Z7z r2 r4 l12 x13 x14 x15 x16 = some r) ?_ ?_
 ·
  refine AW.seq ?_
  refine AW.cut (τ := Bool) (fun x8 => ⟨[(0, pt b00), (2, pt b1), (3, pt b6), (18, C.bool x8)], [oB b00 159 [cM kU8 1 r4.2.b, cI r4.2.at_, cV (.int .u64 r4.2.mix), cI r4.2.size], oB b1 96 [cI 0, cI 0, cI 0], oB b6 96 [cI (IntKind.i64.wrap (1 + r2.1)), cI 0, cI (IntKind.i64.wrap (1 + r4.1))]]⟩) (fun x8 => Z80 r2 r4 x8 = some r) ?_ ?_
  ·
   refine zw ?_
   refine cnd h (fun hb7 h => ?_) fun hb7 h => ?_
   ·
    refine zw ?_
    exact ⟨true, h, Y25.both (ns := [1, 1, 0]) rfl rfl⟩
   refine zw ?_
   exact ⟨((IntKind.i64.wrap (1 + r2.1)) == 3), h, Y25.both (ns := [1, 1, 0]) rfl rfl⟩
  intro x8 h
  replace h : Z80 r2 r4 x8 = some r := h
  unfold Z80 at h
  refine cnd h (fun hb9 h => ?_) fun hb9 h => ?_
  ·
   refine AW.ct hb9 rfl ?_
   refine zw ?_
   refine ob' h fun r10 g11 h => ?_
   refine Ops.hd (ns := [0]) rfl rfl (Y28 (Za r4.2 4 _ g11) rfl rfl) ?_
   refine zw ?_
   exact ⟨(r10.2.b, r10.2.at_, r10.2.mix, r10.2.size, (IntKind.i64.wrap (1 + r10.1))), h, Y25.both (ns := [1, 0, 0]) rfl rfl⟩
  refine AW.cf hb9 rfl ?_
  refine zw ?_
  exact ⟨(r4.2.b, r4.2.at_, r4.2.mix, r4.2.size, 0), h, Y25.both (ns := [0, 1, 0]) rfl rfl⟩
 rintro ⟨l12, x13, x14, x15, x16⟩ h
 replace h : Z7z r2 r4 l12 x13 x14 x15 x16 = some r := h
 unfold Z7z at h
 refine AW.seq ?_
 refine AW.cut (τ := Int × Int × Int × List Int × Int × Int × Int) (fun (x36, x37, x38, l39, x40, x41, x42) => ⟨[(2, pt b1), (3, pt b6)], [oB b6 96 [cI x36, cI x37, cI x38], oB b00 159 [cM kU8 1 l39, cI x40, cV (.int .u64 x41), cI x42], oB b1 96 [cI 0, cI 0, cI 0]]⟩) (fun (x36, x37, x38, l39, x40, x41, x42) => Z7y x36 x37 x38 l39 x40 x41 x42 = some r) ?_ ?_
 ·
  refine zw ?_
  refine ob' h fun r17 g18 h => ?_
  refine Ops.hd (ns := [0]) rfl rfl (Y28 ((Zd (Y9i.mk l12 x13 x14 x15) 20).h _ _ g18) rfl rfl) ?_
  refine zw ?_
  refine cnd h (fun hb19 h => ?_) fun hb19 h => ?_
  ·
   refine AW.ct hb19 rfl ?_
   refine zw ?_
   refine ob' h fun r20 g21 h => ?_
   refine Ops.hd (ns := [0]) rfl rfl (Y28 (Za r17.2 3 _ g21) rfl rfl) ?_
   refine zw ?_
   refine cnd h (fun hb22 h => ?_) fun hb22 h => ?_
   ·
    refine AW.ct hb22 rfl ?_
    refine zw ?_
    refine ob' h fun r23 g24 h => ?_
    refine Ops.hd (ns := [0]) rfl rfl (Y28 (Za r20.2 9 _ g24) rfl rfl) ?_
    refine zw ?_
    exact ⟨(r23.1, x16, (IntKind.i64.wrap (1 + r4.1)), r23.2.b, r23.2.at_, r23.2.mix, r23.2.size), h, Y25.both (ns := [0, 0, 0]) rfl rfl⟩
   refine AW.cf hb22 rfl ?_
   refine zw ?_
   refine cnd h (fun hb25 h => ?_) fun hb25 h => ?_
   ·
    refine AW.ct hb25 rfl ?_
    refine zw ?_
    refine Ops.h (ns := []) rfl rfl (Y3l (k := kI64) (ys := [(-1), 6, 7]) Yai (.one rfl (One.val rfl) rfl rfl (.one rfl (One.val rfl) rfl rfl (.one rfl (One.val rfl) rfl rfl .nil))) rfl rfl rfl) ?_
    rintro _ _ ⟨b26, rfl, rfl⟩
    refine zw ?_
    refine ob' h fun r27 g28 h => ?_
    refine Ops.hd (ns := [1]) rfl rfl (Y28 (Za r20.2 3 _ g28) rfl rfl) ?_
    refine ob' h fun e29 g30 h => ?_
    refine zw ?_
    exact ⟨((IntKind.i64.wrap (1 + r2.1)), e29, (IntKind.i64.wrap (1 + r4.1)), r27.2.b, r27.2.at_, r27.2.mix, r27.2.size), h, Y25.both (ns := [0, 0, 1]) rfl rfl⟩
   refine AW.cf hb25 rfl ?_
   refine zw ?_
   refine Ops.h (ns := []) rfl rfl (Y3l (k := kI64) (ys := [0, (-1), 1000000, 1000001]) Yai (.one rfl (One.val rfl) rfl rfl (.one rfl (One.val rfl) rfl rfl (.one rfl (One.val rfl) rfl rfl (.one rfl (One.val rfl) rfl rfl .nil)))) rfl rfl rfl) ?_
   rintro _ _ ⟨b31, rfl, rfl⟩
   refine zw ?_
   refine ob' h fun r32 g33 h => ?_
   refine Ops.hd (ns := [1]) rfl rfl (Y28 (Za r20.2 4 _ g33) rfl rfl) ?_
   refine ob' h fun e34 g35 h => ?_
   refine zw ?_
   exact ⟨((IntKind.i64.wrap (1 + r2.1)), x16, e34, r32.2.b, r32.2.at_, r32.2.mix, r32.2.size), h, Y25.both (ns := [0, 0, 1]) rfl rfl⟩
  refine AW.cf hb19 rfl ?_
  refine zw ?_
  exact ⟨((IntKind.i64.wrap (1 + r2.1)), x16, (IntKind.i64.wrap (1 + r4.1)), r17.2.b, r17.2.at_, r17.2.mix, r17.2.size), h, Y25.both (ns := [1, 0, 0]) rfl rfl⟩
 rintro ⟨x36, x37, x38, l39, x40, x41, x42⟩ h
 replace h : Z7y x36 x37 x38 l39 x40 x41 x42 = some r := h
 unfold Z7y at h
 refine zw ?_
 refine AW.ret ?_
 rw [← Wj h]
 exact finI ⟨[C.agg [cI x36, cI x37, cI x38]], _, Y25.refl _, (.cons (.cell (p := 0) rfl rfl Ybj.h rfl) .nil), [2], _, _, rfl, ⟨rfl, rfl⟩⟩
instance Z83 (p0 : Y9i) : SpO Tryz.prog 138 (Z81 p0) (.x fun (b00 : Nat) => .d [pt b00] [oB b00 159 [cM kU8 1 p0.b, cI p0.at_, cV (.int .u64 p0.mix), cI p0.size]] fun r => .d (C.agg [cI r.1.kind, cI r.1.key, cI r.1.id]) [oB b00 159 [cM kU8 1 r.2.b, cI r.2.at_, cV (.int .u64 r.2.mix), cI r.2.size]]) := ⟨fun b00 r h => Z82 p0 r h⟩

def Z84 (x12 : Bool) : Option Bool := some x12
def Z85 (p0 : Y9m) (p1 : Bool) : Option Bool := (Z1n p0.kind 1 6).bind fun r2 => cond r2 ((Z1n p0.key 0 6).bind fun r5 => cond r5 ((Z1p p0.id).bind fun r8 => cond r8 (Z84 true) (cond p1 (Z84 (p0.id == 0)) (Z84 false))) (Z84 false)) (Z84 false)
instance Z86 (p0 : Y9m) (p1 : Bool) : Sp Tryz.prog 202 [C.agg [cI p0.kind, cI p0.key, cI p0.id], C.bool p1] (Z85 p0 p1) (fun r => C.bool r) := Sp.of (so Tryz.func202 rfl rfl fun r X h => gh (.q 1 (.c1 (fun x12 => .d [(4, C.bool x12)] []) [] [] .z .z)))

def Z87 : Option Bool := some true
def Z88 (x15 : Int) (x27 : Bool) : Option (Int ⊕ (Bool ⊕ Unit)) := cond x27 (some (.inr (.inl false))) (some (.inl (IntKind.i64.wrap (x15 + 1))))
def Z89 (p0 : List Y9m) (p1 : Bool) (x15 : Int) : Option (Int ⊕ (Bool ⊕ Unit)) := cond (decide (x15 < (p0.length : Int))) ((getI p0 x15).bind fun e17 => (Z85 e17 p1).bind fun r19 => cond r19 (cond (decide (x15 > 0)) ((getI p0 (IntKind.i64.wrap (x15 - 1))).bind fun e23 => (Z5x e23 e17).bind fun r25 => Z88 x15 (!r25)) (Z88 x15 false)) (Z88 x15 true)) (some (.inr (.inr ())))
def Z8a (p0 : List Y9m) (p1 : Bool) : Option Bool := cond (decide ((p0.length : Int) > 400)) (some false) ((iter (Z89 p0 p1) big 0).bind (fun z30 => match z30 with | .inl y29 => some y29 | .inr () => Z87))
instance Z8b (p0 : List Y9m) (p1 : Bool) : Sp Tryz.prog 221 [cM Y9r 3 p0, C.bool p1] (Z8a p0 p1) (fun r => C.bool r) := Sp.of (so Tryz.func221 rfl rfl fun r X h => gh (.b .z (.c0 (.d [] []) [] [] (.l1 (fun x15 => .d [(5, cI x15)] []) [0,1] [] (.b (.q 1 (.c1 (fun x27 => .d [(38, C.bool x27)] []) [0,1,5] [] (.r [] [3,15,19] [] [0,4,8,13,16,22,24,28,32,36,40,44,48,52,56,61,64,68,72,77,82,84,88,92] .z) .z)) .z)) .z)))

def Z8c (p0 : List Y9m) : Option Bool := (Z8a p0 false).bind fun r1 => some r1
instance Z8d (p0 : List Y9m) : Sp Tryz.prog 163 [cM Y9r 3 p0] (Z8c p0) (fun r => C.bool r) := Sp.of (so Tryz.func163 rfl rfl fun r X h => gh .z)

def Z8e (p0 : List Y9m) (p1 : Y9m) (x9 : Bool) : Option Y9o := cond x9 (some (Y9o.mk [] 1)) ((Z62 p0 p1).bind fun r11 => some (Y9o.mk r11 0))
def Z8f (p0 : List Y9m) (p1 : Y9m) : Option Y9o := cond (decide ((p0.length : Int) > 400)) (some (Y9o.mk [] 2)) ((Z8c p0).bind fun r4 => cond r4 ((Z85 p1 false).bind fun r7 => Z8e p0 p1 (!r7)) (Z8e p0 p1 true))
instance Z8g (p0 : List Y9m) (p1 : Y9m) : SpO Tryz.prog 137 (Z8f p0 p1) (.d [cM Y9r 3 p0, C.agg [cI p1.kind, cI p1.key, cI p1.id]] [] fun r => .x fun (v15 : Value) => .d (C.agg [cV v15, cI r.code]) [oA v15 96 Y9r 3 r.state]) := ⟨so Tryz.func137 rfl rfl fun r X h => gh (.b .z (.q 1 (.c1 (fun x9 => .d [(16, C.bool x9)] []) [0,3,4] [1,0] .z (.b .z (.k .z)))))⟩
instance Z8g' (p0 : List Y9m) (p1 : Y9m) : Sp Tryz.prog 137 [cM Y9r 3 p0, C.agg [cI p1.kind, cI p1.key, cI p1.id]] (Z8f p0 p1) (fun r => C.agg [cM Y9r 3 r.state, cI r.code]) := ⟨fun r h => Ok.freeze ((Z8g p0 p1).h r h) (by rintro c qs ⟨v15, rfl, rfl⟩; exact Frz.agg (FrzL.cons (os := [_]) (Frz.arr) (fS (FrzL.nil))))⟩

def Z8h (l57 : List Y9m) (l58 : List Int) (x59 : Int) (x60 : Int) (x61 : Int) : Option (List Y9m × Y9i) := some (l57, (Y9i.mk l58 x59 x60 x61))
def Z8i (l41 : List Int) (x42 : Int) (x43 : Int) (x44 : Int) (l46 : List Y9m) : Option (List Y9m × Y9i) := (Zc (Y9i.mk l41 x42 x43 x44) 15).bind fun r47 => cond r47.1 ((Z81 r47.2).bind fun r50 => (chk (decide ((l46.length + [r50.1].length) * 24 ≤ 140737488355328))).bind fun u54 => Z8h (l46 ++ [r50.1]) r50.2.b r50.2.at_ r50.2.mix r50.2.size) (Z8h l46 r47.2.b r47.2.at_ r47.2.mix r47.2.size)
def Z8j (x25 : Int) (l35 : List Int) (x36 : Int) (x37 : Int) (x38 : Int) (l40 : List Y9m) : Option ((List Int × Int × Int × Int × List Y9m × Int) ⊕ ((List Int × Int × Int × Int × List Y9m))) := some (.inl (l35, x36, x37, x38, l40, (IntKind.i64.wrap (x25 - 1))))
def Z8k (l19 : List Int) (x20 : Int) (x21 : Int) (x22 : Int) (l24 : List Y9m) (x25 : Int) : Option ((List Int × Int × Int × Int × List Y9m × Int) ⊕ ((List Int × Int × Int × Int × List Y9m))) := cond (decide (x25 > 0)) ((Z81 (Y9i.mk l19 x20 x21 x22)).bind fun r27 => (Z8f l24 r27.1).bind fun r29 => cond (r29.code == 0) (Z8j x25 r27.2.b r27.2.at_ r27.2.mix r27.2.size r29.state) (Z8j x25 r27.2.b r27.2.at_ r27.2.mix r27.2.size l24)) (some (.inr (l19, x20, x21, x22, l24)))
def Z8l (p0 : Y9i) : Option (List Y9m × Y9i) := (Z9 p0 8).bind fun r2 => (iter (fun z63 => Z8k z63.1 z63.2.1 z63.2.2.1 z63.2.2.2.1 z63.2.2.2.2.1 z63.2.2.2.2.2) big (r2.2.b, r2.2.at_, r2.2.mix, r2.2.size, ([] : List Y9m), r2.1)).bind fun (y64, y65, y66, y67, y68) => Z8i y64 y65 y66 y67 y68
theorem Z8m {b00 : Nat} (p0 : Y9i) (r : List Y9m × Y9i) (h : Z8l p0 = some r) : Ok Tryz.prog 71 [pt b00] [oB b00 159 [cM kU8 1 p0.b, cI p0.at_, cV (.int .u64 p0.mix), cI p0.size]] (fun c qs => ∃ (v62 : Value), c = cV v62 ∧ qs = [oA v62 96 Y9r 3 r.1, oB b00 159 [cM kU8 1 r.2.b, cI r.2.at_, cV (.int .u64 r.2.mix), cI r.2.size]]) := by
 refine Ok.of_body (rs := [.tmp 2]) Tryz.func71 rfl rfl rfl rfl rfl fun X => ?_
 unfold Z8l at h
 refine zw ?_
 refine Ops.h (ns := []) rfl rfl (Y3l (k := Y9r) (ys := ([] : List Y9m)) Ybi .nil rfl rfl rfl) ?_
 rintro _ _ ⟨b1, rfl, rfl⟩
 refine Ops.v rfl (Ys rfl rfl) ?_
 refine Ops.nil ?_
 refine AW.seq ?_
 refine AW.cut (τ := List Int × Int × Int × Int × List Y9m × Value) (fun (l41, x42, x43, x44, l46, v45) => ⟨[(0, pt b00), (3, cV v45)], [oB b00 159 [cM kU8 1 l41, cI x42, cV (.int .u64 x43), cI x44], oA v45 96 Y9r 3 l46]⟩) (fun (l41, x42, x43, x44, l46, v45) => Z8i l41 x42 x43 x44 l46 = some r) ?_ ?_
 ·
  refine zw ?_
  refine ob' h fun r2 g3 h => ?_
  refine Ops.hd (ns := [1]) rfl rfl (Y28 (Za p0 8 _ g3) rfl rfl) ?_
  refine zw ?_
  refine ob' h fun o69 g70 q71 => ?_
  refine AW.loop (τ := List Int × Int × Int × Int × List Y9m × Int × Value) (x := (r2.2.b, r2.2.at_, r2.2.mix, r2.2.size, ([] : List Y9m), r2.1, (sv b1 0 0))) (fun (l19, x20, x21, x22, l24, x25, v23) => ⟨[(0, pt b00), (3, cV v23), (4, cI x25)], [oB b00 159 [cM kU8 1 l19, cI x20, cV (.int .u64 x21), cI x22], oA v23 96 Y9r 3 l24]⟩) (fun k (l19, x20, x21, x22, l24, x25, v23) => iter (fun z63 => Z8k z63.1 z63.2.1 z63.2.2.1 z63.2.2.2.1 z63.2.2.2.2.1 z63.2.2.2.2.2) k (l19, x20, x21, x22, l24, x25) = some o69) g70 (Y25.both (ns := [0, 0]) rfl rfl) ?_
  rintro k ⟨l19, x20, x21, x22, l24, x25, v23⟩ i73
  refine Y4f (show iter (fun z63 => Z8k z63.1 z63.2.1 z63.2.2.1 z63.2.2.2.1 z63.2.2.2.2.1 z63.2.2.2.2.2) k (l19, x20, x21, x22, l24, x25) = some o69 from i73) fun k72 y74 hlt_k72 h h75 => ?_
  replace h : Z8k l19 x20 x21 x22 l24 x25 = some y74 := h
  unfold Z8k at h
  refine zw ?_
  refine cnd h (fun hb26 h => ?_) fun hb26 h => ?_
  ·
   refine AW.ct hb26 rfl ?_
   refine AW.skip ?_
   refine AW.seq ?_
   refine AW.cut (τ := List Int × Int × Int × Int × List Y9m × Value) (fun (l35, x36, x37, x38, l40, v39) => ⟨[(0, pt b00), (3, cV v39), (4, cI x25)], [oB b00 159 [cM kU8 1 l35, cI x36, cV (.int .u64 x37), cI x38], oA v39 96 Y9r 3 l40]⟩) (fun (l35, x36, x37, x38, l40, v39) => Z8j x25 l35 x36 x37 x38 l40 = some y74) ?_ ?_
   ·
    refine zw ?_
    refine ob' h fun r27 g28 h => ?_
    refine Ops.hd (ns := [0]) rfl rfl (Y28 (Z82 (Y9i.mk l19 x20 x21 x22) _ g28) rfl rfl) ?_
    refine ob' h fun r29 g30 h => ?_
    refine Ops.h (ns := [1]) rfl rfl (Y27 (Ok.lend ((Z8g l24 r27.1).h _ g30) (FrzT.cons (os := [_]) Frz.arr (fT (FrzT.nil))) (by rintro _ _ ⟨_, rfl, rfl⟩; exact ⟨(Y4i.agg (Y4j.cons (Y4i.val _) (Y4j.cons (Y4i.val _) (Y4j.nil)))), Y4m (Y4k.arr Ybm) (Y4l)⟩)) rfl rfl) ?_
    rintro _ _ ⟨_, ⟨_, ⟨v31, rfl, rfl⟩, rfl⟩, rfl⟩
    refine al fun b33 => ?_
    refine zw ?_
    refine cnd h (fun hb34 h => ?_) fun hb34 h => ?_
    ·
     refine AW.ct hb34 rfl ?_
     refine zw ?_
     exact ⟨(r27.2.b, r27.2.at_, r27.2.mix, r27.2.size, r29.state, v31), h, Y25.both (ns := [3, 1]) rfl rfl⟩
    refine AW.cf hb34 rfl ?_
    refine zw ?_
    exact ⟨(r27.2.b, r27.2.at_, r27.2.mix, r27.2.size, l24, v23), h, Y25.both (ns := [3, 2]) rfl rfl⟩
   rintro ⟨l35, x36, x37, x38, l40, v39⟩ h
   replace h : Z8j x25 l35 x36 x37 x38 l40 = some y74 := h
   unfold Z8j at h
   refine zw ?_
   obtain rfl := Wj h
   exact ⟨k72, (l35, x36, x37, x38, l40, (IntKind.i64.wrap (x25 - 1)), v39), hlt_k72, h75, Y25.both (ns := [0, 0]) rfl rfl⟩
  refine AW.cf hb26 rfl ?_
  refine AW.exit ?_
  obtain rfl := Wj h
  obtain rfl := Wj h75
  replace h := q71
  exact ⟨(l19, x20, x21, x22, l24, v23), h, Y25.both (ns := [0, 0]) rfl rfl⟩
 rintro ⟨l41, x42, x43, x44, l46, v45⟩ h
 replace h : Z8i l41 x42 x43 x44 l46 = some r := h
 unfold Z8i at h
 refine AW.seq ?_
 refine AW.cut (τ := List Y9m × List Int × Int × Int × Int × Value) (fun (l57, l58, x59, x60, x61, v56) => ⟨[(3, cV v56)], [oA v56 96 Y9r 3 l57, oB b00 159 [cM kU8 1 l58, cI x59, cV (.int .u64 x60), cI x61]]⟩) (fun (l57, l58, x59, x60, x61, v56) => Z8h l57 l58 x59 x60 x61 = some r) ?_ ?_
 ·
  refine zw ?_
  refine ob' h fun r47 g48 h => ?_
  refine Ops.hd (ns := [0]) rfl rfl (Y28 ((Zd (Y9i.mk l41 x42 x43 x44) 15).h _ _ g48) rfl rfl) ?_
  refine zw ?_
  refine cnd h (fun hb49 h => ?_) fun hb49 h => ?_
  ·
   refine AW.ct hb49 rfl ?_
   refine zw ?_
   refine ob' h fun r50 g51 h => ?_
   refine Ops.hd (ns := [0]) rfl rfl (Y28 (Z82 r47.2 _ g51) rfl rfl) ?_
   refine Ops.h (ns := []) rfl rfl (Y3l (k := Y9r) (ys := [r50.1]) Ybi (.agg rfl rfl .nil) rfl rfl rfl) ?_
   rintro _ _ ⟨b52, rfl, rfl⟩
   refine ob' h fun u54 c53 h => ?_
   refine Ops.h (ns := [2, 0]) rfl rfl (Y34 Ybi rfl rfl (Wo (Y45 c53)) (Y49 (by decide) c53) rfl) ?_
   rintro _ _ ⟨v55, rfl, rfl⟩
   refine zw ?_
   exact ⟨((l46 ++ [r50.1]), r50.2.b, r50.2.at_, r50.2.mix, r50.2.size, v55), h, Y25.both (ns := [0, 0]) rfl rfl⟩
  refine AW.cf hb49 rfl ?_
  refine zw ?_
  exact ⟨(l46, r47.2.b, r47.2.at_, r47.2.mix, r47.2.size, v45), h, Y25.both (ns := [1, 0]) rfl rfl⟩
 rintro ⟨l57, l58, x59, x60, x61, v56⟩ h
 replace h : Z8h l57 l58 x59 x60 x61 = some r := h
 unfold Z8h at h
 refine zw ?_
 refine AW.ret ?_
 rw [← Wj h]
 exact finI ⟨[cV v56], _, Y25.refl _, (.cons (.tmp rfl) .nil), [0, 0], _, _, rfl, ⟨v56, rfl, rfl⟩⟩
instance Z8n (p0 : Y9i) : SpO Tryz.prog 71 (Z8l p0) (.x fun (b00 : Nat) => .d [pt b00] [oB b00 159 [cM kU8 1 p0.b, cI p0.at_, cV (.int .u64 p0.mix), cI p0.size]] fun r => .x fun (v62 : Value) => .d (cV v62) [oA v62 96 Y9r 3 r.1, oB b00 159 [cM kU8 1 r.2.b, cI r.2.at_, cV (.int .u64 r.2.mix), cI r.2.size]]) := ⟨fun b00 r h => Z8m p0 r h⟩

def Z8o (r5 : Y9k × Y9i) (l76 : List Y9j) (l90 : List (List Y9m)) : Option (Y9k × List (List Y9m)) := some ((Y9k.mk r5.1.room r5.1.events l76), l90)
def Z8p (r5 : Y9k × Y9i) (l72 : List Int) (x73 : Int) (x74 : Int) (x75 : Int) (l76 : List Y9j) (l78 : List (List Y9m)) : Option (Y9k × List (List Y9m)) := (Zc (Y9i.mk l72 x73 x74 x75) 15).bind fun r79 => cond r79.1 ((Z8l r79.2).bind fun r82 => (chk (decide ((l78.length + [r82.1].length) * 24 ≤ 140737488355328))).bind fun u87 => Z8o r5 l76 (l78 ++ [r82.1])) (Z8o r5 l76 l78)
def Z8q (r5 : Y9k × Y9i) (l38 : List Int) (x39 : Int) (x40 : Int) (x41 : Int) (l42 : List Y9j) (l44 : List (List Y9m)) (x45 : Int) (x47 : Bool) : Option ((List Int × Int × Int × Int × List Y9j × List (List Y9m) × Int) ⊕ ((List Int × Int × Int × Int × List Y9j × List (List Y9m)))) := cond x47 ((Z55 (Y9i.mk l38 x39 x40 x41) (Y9k.mk r5.1.room r5.1.events l42)).bind fun r64 => (Z7w (Y9k.mk r5.1.room r5.1.events l42) r64.1).bind fun r66 => (chk (decide ((l44.length + [r66].length) * 24 ≤ 140737488355328))).bind fun u70 => some (.inl (r64.2.b, r64.2.at_, r64.2.mix, r64.2.size, l42, (l44 ++ [r66]), (IntKind.i64.wrap (x45 - 1))))) (some (.inr (l38, x39, x40, x41, l42, l44)))
def Z8r (r5 : Y9k × Y9i) (l38 : List Int) (x39 : Int) (x40 : Int) (x41 : Int) (l42 : List Y9j) (l44 : List (List Y9m)) (x45 : Int) : Option ((List Int × Int × Int × Int × List Y9j × List (List Y9m) × Int) ⊕ ((List Int × Int × Int × Int × List Y9j × List (List Y9m)))) := cond (decide (x45 > 0)) (Z8q r5 l38 x39 x40 x41 l42 l44 x45 (decide ((r5.1.events.length : Int) > 0))) (Z8q r5 l38 x39 x40 x41 l42 l44 x45 false)
def Z8s (p0 : List Int) : Option (Y9k × List (List Y9m)) := (Z5 p0).bind fun r2 => (Z51 r2).bind fun r5 => (Z9 r5.2 4).bind fun r10 => (iter (fun z92 => Z8r r5 z92.1 z92.2.1 z92.2.2.1 z92.2.2.2.1 z92.2.2.2.2.1 z92.2.2.2.2.2.1 z92.2.2.2.2.2.2) big (r10.2.b, r10.2.at_, r10.2.mix, r10.2.size, r5.1.parked, ([] : List (List Y9m)), r10.1)).bind fun (y93, y94, y95, y96, y97, y98) => Z8p r5 y93 y94 y95 y96 y97 y98
theorem Z8t (p0 : List Int) (r : Y9k × List (List Y9m)) (h : Z8s p0 = some r) : Ok Tryz.prog 7 [cM kU8 1 p0] [] (fun c qs => ∃ (v91 : Value), c = C.tup [C.agg [cI r.1.room, cM Y9q 9 r.1.events, cM Y9q 9 r.1.parked], cV v91] ∧ qs = [oA v91 29 Y9s 1 r.2]) := by
 refine Ok.of_body (rs := [.cell 2 25, .tmp 3]) Tryz.func7 rfl rfl rfl rfl rfl fun X => ?_
 unfold Z8s at h
 refine zw ?_
 refine al fun b1 => ?_
 refine zw ?_
 refine ob' h fun r2 g3 h => ?_
 refine Ops.h (ns := []) rfl rfl (Y27 (Z6 _ _ g3) rfl rfl) ?_
 rintro _ _ ⟨_, ⟨b4, rfl, rfl⟩, rfl⟩
 refine zw ?_
 refine ob' h fun r5 g6 h => ?_
 refine Ops.h (ns := [0]) rfl rfl (Y27 (Z52 r2 _ g6) rfl rfl) ?_
 rintro _ _ ⟨_, ⟨v7, rfl, rfl⟩, rfl⟩
 refine al fun b8 => ?_
 refine zw ?_
 refine Ops.h (ns := []) rfl rfl (Y3l (k := Y9s) (ys := ([] : List (List Y9m))) Ybs .nil rfl rfl rfl) ?_
 rintro _ _ ⟨b9, rfl, rfl⟩
 refine Ops.v rfl (Ys rfl rfl) ?_
 refine Ops.nil ?_
 refine AW.seq ?_
 refine AW.cut (τ := List Int × Int × Int × Int × List Y9j × List (List Y9m) × Value) (fun (l72, x73, x74, x75, l76, l78, v77) => ⟨[(2, pt b1), (4, pt b4), (5, pt b8), (6, cV v77)], [oB b4 159 [cM kU8 1 l72, cI x73, cV (.int .u64 x74), cI x75], oB b8 25 [cI r5.1.room, cM Y9q 9 r5.1.events, cM Y9q 9 l76], oA v77 29 Y9s 1 l78, oB b1 25 [cI 0, cV s0, cV s0]]⟩) (fun (l72, x73, x74, x75, l76, l78, v77) => Z8p r5 l72 x73 x74 x75 l76 l78 = some r) ?_ ?_
 ·
  refine zw ?_
  refine ob' h fun r10 g11 h => ?_
  refine Ops.hd (ns := [3]) rfl rfl (Y28 (Za r5.2 4 _ g11) rfl rfl) ?_
  refine zw ?_
  refine ob' h fun o99 g100 q101 => ?_
  refine AW.loop (τ := List Int × Int × Int × Int × List Y9j × List (List Y9m) × Int × Value) (x := (r10.2.b, r10.2.at_, r10.2.mix, r10.2.size, r5.1.parked, ([] : List (List Y9m)), r10.1, (sv b9 0 0))) (fun (l38, x39, x40, x41, l42, l44, x45, v43) => ⟨[(2, pt b1), (4, pt b4), (5, pt b8), (6, cV v43), (7, cI x45)], [oB b4 159 [cM kU8 1 l38, cI x39, cV (.int .u64 x40), cI x41], oB b8 25 [cI r5.1.room, cM Y9q 9 r5.1.events, cM Y9q 9 l42], oA v43 29 Y9s 1 l44, oB b1 25 [cI 0, cV s0, cV s0]]⟩) (fun k (l38, x39, x40, x41, l42, l44, x45, v43) => iter (fun z92 => Z8r r5 z92.1 z92.2.1 z92.2.2.1 z92.2.2.2.1 z92.2.2.2.2.1 z92.2.2.2.2.2.1 z92.2.2.2.2.2.2) k (l38, x39, x40, x41, l42, l44, x45) = some o99) g100 ((Y25.boxFrz (ns := [2, 2]) rfl (fS (fS (FrzL.cons (os := [_]) Frz.arr FrzL.nil)))).trans (Y25.both (ns := [1, 0, 0, 0]) rfl rfl)) ?_
  rintro k ⟨l38, x39, x40, x41, l42, l44, x45, v43⟩ i103
  refine Y4f (show iter (fun z92 => Z8r r5 z92.1 z92.2.1 z92.2.2.1 z92.2.2.2.1 z92.2.2.2.2.1 z92.2.2.2.2.2.1 z92.2.2.2.2.2.2) k (l38, x39, x40, x41, l42, l44, x45) = some o99 from i103) fun k102 y104 hlt_k102 h h105 => ?_
  replace h : Z8r r5 l38 x39 x40 x41 l42 l44 x45 = some y104 := h
  unfold Z8r at h
  refine AW.seq ?_
  refine AW.seq ?_
  refine AW.cut (τ := Bool) (fun x47 => ⟨[(2, pt b1), (4, pt b4), (5, pt b8), (6, cV v43), (7, cI x45), (22, C.bool x47)], [oB b1 25 [cI 0, cV s0, cV s0], oB b4 159 [cM kU8 1 l38, cI x39, cV (.int .u64 x40), cI x41], oB b8 25 [cI r5.1.room, cM Y9q 9 r5.1.events, cM Y9q 9 l42], oA v43 29 Y9s 1 l44]⟩) (fun x47 => Z8q r5 l38 x39 x40 x41 l42 l44 x45 x47 = some y104) ?_ ?_
  ·
   refine zw ?_
   refine cnd h (fun hb46 h => ?_) fun hb46 h => ?_
   ·
    refine zw ?_
    exact ⟨decide ((r5.1.events.length : Int) > 0), h, Y25.both (ns := [3, 0, 0, 0]) rfl rfl⟩
   refine zw ?_
   exact ⟨false, h, Y25.both (ns := [3, 0, 0, 0]) rfl rfl⟩
  intro x47 h
  replace h : Z8q r5 l38 x39 x40 x41 l42 l44 x45 x47 = some y104 := h
  unfold Z8q at h
  refine cnd h (fun hb48 h => ?_) fun hb48 h => ?_
  ·
   refine AW.ct hb48 rfl ?_
   refine zw ?_
   refine rD [0,1] [1,3] [] [0,5,8,13,18,22,26,30,32] ?_
   refine zw ?_
   refine ob' h fun r64 g65 h => ?_
   refine Y3z.h (ns := [0]) rfl rfl rfl (Y28 ((Z56 (Y9i.mk l38 x39 x40 x41) (Y9k.mk r5.1.room r5.1.events l42)).h _ _ g65) rfl rfl) ?_
   rintro _ _ ⟨rfl, rfl⟩
   refine zw ?_
   refine dc h fun r66 g67 h => ?_
   refine OpsD.one ?_
   refine Y3z.h (ns := []) rfl rfl rfl (Y3l (k := Y9s) (ys := [r66]) Ybs (.one rfl One.im rfl rfl .nil) rfl rfl rfl) ?_
   rintro _ _ ⟨b68, rfl, rfl⟩
   refine zw ?_
   refine ob' h fun u70 c69 h => ?_
   refine Y3z.h (ns := [2, 0]) rfl rfl rfl (Y34 Ybs rfl rfl (Wo (Y45 c69)) (Y49 (by decide) c69) rfl) ?_
   rintro _ _ ⟨v71, rfl, rfl⟩
   refine zw ?_
   obtain rfl := Wj h
   exact ⟨k102, (r64.2.b, r64.2.at_, r64.2.mix, r64.2.size, l42, (l44 ++ [r66]), (IntKind.i64.wrap (x45 - 1)), v71), hlt_k102, h105, Y25.both (ns := [3, 1, 1, 0]) rfl rfl⟩
  refine AW.cf hb48 rfl ?_
  refine AW.exit ?_
  obtain rfl := Wj h
  obtain rfl := Wj h105
  replace h := q101
  exact ⟨(l38, x39, x40, x41, l42, l44, v43), h, Y25.both (ns := [1, 1, 1, 0]) rfl rfl⟩
 rintro ⟨l72, x73, x74, x75, l76, l78, v77⟩ h
 replace h : Z8p r5 l72 x73 x74 x75 l76 l78 = some r := h
 unfold Z8p at h
 refine AW.seq ?_
 refine AW.cut (τ := List (List Y9m) × Value) (fun (l90, v89) => ⟨[(2, pt b1), (5, pt b8), (6, cV v89)], [oA v89 29 Y9s 1 l90, oB b1 25 [cI 0, cV s0, cV s0], oB b8 25 [cI r5.1.room, cM Y9q 9 r5.1.events, cM Y9q 9 l76]]⟩) (fun (l90, v89) => Z8o r5 l76 l90 = some r) ?_ ?_
 ·
  refine zw ?_
  refine ob' h fun r79 g80 h => ?_
  refine Ops.hd (ns := [0]) rfl rfl (Y28 ((Zd (Y9i.mk l72 x73 x74 x75) 15).h _ _ g80) rfl rfl) ?_
  refine zw ?_
  refine cnd h (fun hb81 h => ?_) fun hb81 h => ?_
  ·
   refine AW.ct hb81 rfl ?_
   refine zw ?_
   refine ob' h fun r82 g83 h => ?_
   refine Ops.h (ns := [0]) rfl rfl (Y27 (Z8m r79.2 _ g83) rfl rfl) ?_
   rintro _ _ ⟨_, ⟨v84, rfl, rfl⟩, rfl⟩
   refine Ops.h (ns := [0]) rfl rfl (HOp.frz (t := 37) rfl Frz.arr (Y3l (k := Y9s) (ys := [r82.1]) Ybs (.one rfl One.im rfl rfl .nil) rfl rfl rfl)) ?_
   rintro _ _ ⟨b85, rfl, rfl⟩
   refine ob' h fun u87 c86 h => ?_
   refine Ops.h (ns := [3, 0]) rfl rfl (Y34 Ybs rfl rfl (Wo (Y45 c86)) (Y49 (by decide) c86) rfl) ?_
   rintro _ _ ⟨v88, rfl, rfl⟩
   refine zw ?_
   exact ⟨((l78 ++ [r82.1]), v88), h, Y25.both (ns := [0, 2, 1]) rfl rfl⟩
  refine AW.cf hb81 rfl ?_
  refine zw ?_
  exact ⟨(l78, v77), h, Y25.both (ns := [2, 2, 1]) rfl rfl⟩
 rintro ⟨l90, v89⟩ h
 replace h : Z8o r5 l76 l90 = some r := h
 unfold Z8o at h
 refine zw ?_
 refine AW.ret ?_
 rw [← Wj h]
 exact finI ⟨[C.agg [cI r5.1.room, cM Y9q 9 r5.1.events, cM Y9q 9 l76], cV v89], _, Y25.refl _, (.cons (.cell (p := 0) rfl rfl Yb8.h rfl) (.cons (.tmp rfl) .nil)), [1], _, _, rfl, ⟨v89, rfl, rfl⟩⟩
instance Z8t' (p0 : List Int) : Sp Tryz.prog 7 [cM kU8 1 p0] (Z8s p0) (fun r => C.tup [C.agg [cI r.1.room, cM Y9q 9 r.1.events, cM Y9q 9 r.1.parked], cM Y9s 1 r.2]) := ⟨fun r h => Ok.freeze (Z8t p0 r h) (by rintro c qs ⟨v91, rfl, rfl⟩; exact Frz.tup (FrzT.cons (os := []) (Frz.agg (fS (fS (fS (FrzL.nil))))) (FrzT.cons (os := [_]) (Frz.arr) (FrzT.nil))))⟩
instance Z8u (p0 : List Int) : SpO Tryz.prog 7 (Z8s p0) (.d [cM kU8 1 p0] [] fun r => .x fun (v91 : Value) => .d (C.tup [C.agg [cI r.1.room, cM Y9q 9 r.1.events, cM Y9q 9 r.1.parked], cV v91]) [oA v91 29 Y9s 1 r.2]) := ⟨fun r h => Z8t p0 r h⟩

def Z8v (x2 : Bool) : Option Bool := some x2
def Z8w (p0 : Int) (p1 : Int) (p2 : Int) : Option Bool := cond (decide (p1 ≤ p0)) (Z8v (decide (p0 ≤ p2))) (Z8v false)
instance Z8x (p0 : Int) (p1 : Int) (p2 : Int) : Sp Tryz.prog 176 [cI p0, cI p1, cI p2] (Z8w p0 p1 p2) (fun r => C.bool r) := Sp.of (so Tryz.func176 rfl rfl fun r X h => gh (.q 1 (.c1 (fun x2 => .d [(6, C.bool x2)] []) [] [] .z .z)))

def Z8y (p0 : Int) : Option Bool := (Z8w p0 1 3).bind fun r1 => some r1
instance Z8z (p0 : Int) : Sp Tryz.prog 111 [cI p0] (Z8y p0) (fun r => C.bool r) := Sp.of (so Tryz.func111 rfl rfl fun r X h => gh .z)

def Z90 (p0 : Int) : Option Bool := (Z8w p0 1 1000000).bind fun r1 => some r1
instance Z91 (p0 : Int) : Sp Tryz.prog 262 [cI p0] (Z90 p0) (fun r => C.bool r) := Sp.of (so Tryz.func262 rfl rfl fun r X h => gh .z)

def Z92 (p0 : Int) : Option Bool := (Z8w p0 1 6).bind fun r1 => some r1
instance Z93 (p0 : Int) : Sp Tryz.prog 97 [cI p0] (Z92 p0) (fun r => C.bool r) := Sp.of (so Tryz.func97 rfl rfl fun r X h => gh .z)

def Z94 (p0 : Int) : Option Bool := (Z8w p0 0 1000000).bind fun r1 => some r1
instance Z95 (p0 : Int) : Sp Tryz.prog 263 [cI p0] (Z94 p0) (fun r => C.bool r) := Sp.of (so Tryz.func263 rfl rfl fun r X h => gh .z)

def Z96 : Option Bool := some true
def Z97 (x12 : Int) (x22 : Bool) : Option (Int ⊕ (Bool ⊕ Unit)) := cond x22 (some (.inr (.inl false))) (some (.inl (IntKind.i64.wrap (x12 + 1))))
def Z98 (p0 : List Int) (p1 : Int) (p2 : Int) (x12 : Int) : Option (Int ⊕ (Bool ⊕ Unit)) := cond (decide (x12 < (p0.length : Int))) ((getI p0 x12).bind fun e14 => (Z8w e14 p1 p2).bind fun r16 => cond r16 (cond (decide (x12 > 0)) ((getI p0 (IntKind.i64.wrap (x12 - 1))).bind fun e20 => Z97 x12 (decide (e20 ≥ e14))) (Z97 x12 false)) (Z97 x12 true)) (some (.inr (.inr ())))
def Z99 (p0 : List Int) (p1 : Int) (p2 : Int) : Option Bool := (iter (Z98 p0 p1 p2) big 0).bind (fun z25 => match z25 with | .inl y24 => some y24 | .inr () => Z96)
instance Z9a (p0 : List Int) (p1 : Int) (p2 : Int) : Sp Tryz.prog 264 [cM kI64 1 p0, cI p1, cI p2] (Z99 p0 p1 p2) (fun r => C.bool r) := Sp.of (so Tryz.func264 rfl rfl fun r X h => gh (.q 1 (.c0 (.d [] []) [] [] (.l1 (fun x12 => .d [(11, cI x12)] []) [0,1,2,9,10] [] (.b (.q 2 (.c1 (fun x22 => .d [(33, C.bool x22)] []) [0,1,2,9,10,11] [] .z .z)) .z)) .z)))

def Z9b : Option Int := some (-1)
def Z9c (p0 : List Int) (p1 : Int) (x5 : Int) : Option (Int ⊕ (Int ⊕ Unit)) := cond (decide (x5 < (p0.length : Int))) ((getI p0 x5).bind fun e7 => cond (p1 == e7) (some (.inr (.inl x5))) (some (.inl (IntKind.i64.wrap (x5 + 1))))) (some (.inr (.inr ())))
def Z9d (p0 : List Int) (p1 : Int) : Option Int := (iter (Z9c p0 p1) big 0).bind (fun z11 => match z11 with | .inl y10 => some y10 | .inr () => Z9b)
instance Z9e (p0 : List Int) (p1 : Int) : Sp Tryz.prog 258 [cM kI64 1 p0, cI p1] (Z9d p0 p1) (fun r => cI r) := Sp.of (so Tryz.func258 rfl rfl fun r X h => gh (.q 1 (.c0 (.d [] []) [] [] (.l1 (fun x5 => .d [(8, cI x5)] []) [0,1,7] [] .z) .z)))

def Z9f (p0 : List Int) (p1 : Int) : Option Bool := (Z9d p0 p1).bind fun r1 => some (decide (r1 ≥ 0))
instance Z9g (p0 : List Int) (p1 : Int) : Sp Tryz.prog 232 [cM kI64 1 p0, cI p1] (Z9f p0 p1) (fun r => C.bool r) := Sp.of (so Tryz.func232 rfl rfl fun r X h => gh .z)

def Z9h (x5 : Bool) : Option Bool := some x5
def Z9i (x13 : Bool) : Option Bool := some x13
def Z9j (x21 : Bool) : Option Bool := some x21
def Z9k (x25 : Bool) : Option Bool := some x25
def Z9l (x31 : Bool) : Option Bool := some x31
def Z9m (x37 : Bool) : Option Bool := some x37
def Z9n (x43 : Bool) : Option Bool := some x43
def Z9o (x49 : Bool) : Option Bool := some x49
def Z9p (p0 : Y9j) : Option Bool := cond (p0.kind == 1) (cond (p0.key == 0) (cond (p0.n == 0) (Z9h ((p0.text.size : Int) == 0)) (Z9h false)) (Z9h false)) (cond (p0.kind == 2) ((Z92 p0.key).bind fun r7 => cond r7 ((Z8w p0.n 1 4).bind fun r10 => cond r10 (Z9i ((p0.text.size : Int) == 0)) (Z9i false)) (Z9i false)) (cond (p0.kind == 3) ((Z92 p0.key).bind fun r15 => cond r15 ((Z8w p0.n 0 100).bind fun r18 => cond r18 (Z9j ((p0.text.size : Int) == 0)) (Z9j false)) (Z9j false)) (cond (p0.kind == 4) (cond (p0.key == 0) (cond (p0.n == 0) (Z9k (decide ((p0.text.size : Int) ≤ 30))) (Z9k false)) (Z9k false)) (cond (p0.kind == 5) (cond (p0.key == 0) ((Z8w p0.n 1 2).bind fun r28 => cond r28 (Z9l ((p0.text.size : Int) == 0)) (Z9l false)) (Z9l false)) (cond (p0.kind == 6) (cond (p0.key == 0) ((Z8w p0.n 1 3).bind fun r34 => cond r34 (Z9m ((p0.text.size : Int) == 0)) (Z9m false)) (Z9m false)) (cond (p0.kind == 7) (cond (p0.key == 0) (cond (p0.n == 0) ((Z8w (p0.text.size : Int) 1 30).bind fun r41 => Z9n r41) (Z9n false)) (Z9n false)) (cond (p0.kind == 8) ((Z90 p0.key).bind fun r45 => cond r45 (cond (p0.n == 0) (Z9o ((p0.text.size : Int) == 0)) (Z9o false)) (Z9o false)) (Z9o false))))))))
instance Z9q (p0 : Y9j) : Sp Tryz.prog 265 [C.agg [cI p0.id, cI p0.room, cI p0.author, cI p0.kind, cI p0.key, cI p0.n, C.str p0.text, cM kI64 1 p0.prev, cI p0.time]] (Z9p p0) (fun r => C.bool r) := Sp.of (so Tryz.func265 rfl rfl fun r X h => gh (.r [0] [1,4,7] [] [0,5,8,12,17,20,24,29,32,36,40,44] (.b (.c1 (fun x5 => .d [(2, C.bool x5)] []) [] [] .z .z) (.b (.c1 (fun x13 => .d [(2, C.bool x13)] []) [] [] .z .z) (.b (.c1 (fun x21 => .d [(2, C.bool x21)] []) [] [] .z .z) (.b (.c1 (fun x25 => .d [(2, C.bool x25)] []) [] [] .z .z) (.b (.c1 (fun x31 => .d [(2, C.bool x31)] []) [] [] .z .z) (.b (.c1 (fun x37 => .d [(2, C.bool x37)] []) [] [] .z .z) (.b (.c1 (fun x43 => .d [(2, C.bool x43)] []) [] [] .z .z) (.c1 (fun x49 => .d [(2, C.bool x49)] []) [] [] .z .z))))))))))

def Z9r (x23 : Bool) : Option Bool := some x23
def Z9s (p0 : Y9j) : Option Bool := (Z90 p0.id).bind fun r2 => cond r2 ((Z8y p0.room).bind fun r5 => cond r5 ((Z92 p0.author).bind fun r8 => cond r8 ((Z94 p0.time).bind fun r11 => cond r11 (cond (decide ((p0.prev.length : Int) ≤ 4)) ((Z99 p0.prev 1 1000000).bind fun r15 => cond r15 ((Z9f p0.prev p0.id).bind fun r18 => cond r18 (Z9r false) ((Z9p p0).bind fun r21 => Z9r r21)) (Z9r false)) (Z9r false)) (Z9r false)) (Z9r false)) (Z9r false)) (Z9r false)
instance Z9t (p0 : Y9j) : Sp Tryz.prog 242 [C.agg [cI p0.id, cI p0.room, cI p0.author, cI p0.kind, cI p0.key, cI p0.n, C.str p0.text, cM kI64 1 p0.prev, cI p0.time]] (Z9s p0) (fun r => C.bool r) := Sp.of (so Tryz.func242 rfl rfl fun r X h => gh (.q 1 (.c1 (fun x23 => .d [(2, C.bool x23)] []) [] [] .z .z)))

def Z9u (x5 : Bool) : Option Bool := some x5
def Z9v (p0 : Y9j) : Option Bool := (Z9s p0).bind fun r2 => cond r2 (Z9u ((p0.kind == 1) == ((p0.prev.length : Int) == 0))) (Z9u false)
instance Z9w (p0 : Y9j) : Sp Tryz.prog 203 [C.agg [cI p0.id, cI p0.room, cI p0.author, cI p0.kind, cI p0.key, cI p0.n, C.str p0.text, cM kI64 1 p0.prev, cI p0.time]] (Z9v p0) (fun r => C.bool r) := Sp.of (so Tryz.func203 rfl rfl fun r X h => gh (.q 1 (.c1 (fun x5 => .d [(2, C.bool x5)] []) [] [] .z .z)))

def Z9x : Option Bool := some true
def Z9y (x15 : Int) (x27 : Bool) : Option (Int ⊕ (Bool ⊕ Unit)) := cond x27 (some (.inr (.inl false))) (some (.inl (IntKind.i64.wrap (x15 + 1))))
def Z9z (p0 : Y9k) (p1 : List Y9j) (x15 : Int) : Option (Int ⊕ (Bool ⊕ Unit)) := cond (decide (x15 < (p1.length : Int))) ((getI p1 x15).bind fun e17 => (Z9v e17).bind fun r20 => cond r20 (cond (e17.room != p0.room) (Z9y x15 true) (cond (decide (x15 > 0)) ((getI p1 (IntKind.i64.wrap (x15 - 1))).bind fun e25 => Z9y x15 (decide (e25.id ≥ e17.id))) (Z9y x15 false))) (Z9y x15 true)) (some (.inr (.inr ())))
def Za0 (p0 : Y9k) (p1 : List Y9j) : Option Bool := (iter (Z9z p0 p1) big 0).bind (fun z30 => match z30 with | .inl y29 => some y29 | .inr () => Z9x)
instance Za1 (p0 : Y9k) (p1 : List Y9j) : Sp Tryz.prog 139 [C.agg [cI p0.room, cM Y9q 9 p0.events, cM Y9q 9 p0.parked], cM Y9q 9 p1] (Za0 p0 p1) (fun r => C.bool r) := Sp.of (so Tryz.func139 rfl rfl fun r X h => gh (.q 1 (.c0 (.d [] []) [] [] (.l1 (fun x15 => .d [(9, cI x15)] []) [1,2,7,8] [0] (.b (.q 2 (.c1 (fun x27 => .d [(38, C.bool x27)] []) [1,2,7,8,9] [1] (.r [0,0] [0,5,7,19,21] [] [1,6,8,12,16,21,24,29,32,36,40,44,48,52,56,60,64,68,72,77,80,85,88,92,96] .z) .z)) .z)) .z)))

def Za2 (p0 : Int) : Option Bool := some (p0 != p0)
instance Za3 (p0 : Int) : Sp Tryz.prog 213 [cI p0] (Za2 p0) (fun r => C.bool r) := Sp.of (so Tryz.func213 rfl rfl fun r X h => gh .z)

def Za4 (p0 : Int) (p1 : Int) : Option Int := (Za2 p0).bind fun r1 => (Za2 p1).bind fun r3 => cond r1 (cond r3 (some 0) (some (-1))) (cond r3 (some 1) (cond (decide (p0 < p1)) (some (-1)) (cond (decide (p0 > p1)) (some 1) (some 0))))
instance Za5 (p0 : Int) (p1 : Int) : Sp Tryz.prog 156 [cI p0, cI p1] (Za4 p0 p1) (fun r => cI r) := Sp.of (so Tryz.func156 rfl rfl fun r X h => gh .z)

def Za6 (p0 : Y9j) (p1 : Int) : Option Int := (Za4 p0.id p1).bind fun r2 => some r2
instance Za7 (p0 : Y9j) (p1 : Int) : Sp Tryz.prog 220 [C.agg [cI p0.id, cI p0.room, cI p0.author, cI p0.kind, cI p0.key, cI p0.n, C.str p0.text, cM kI64 1 p0.prev, cI p0.time], cI p1] (Za6 p0 p1) (fun r => cI r) := Sp.of (so Tryz.func220 rfl rfl fun r X h => gh .z)

def Za8 (x15 : Int) (x21 : Bool) : Option (Int × Bool) := some (x15, x21)
def Za9 (p0 : List Y9j) (p1 : Int) (x15 : Int) : Option (Int × Bool) := cond (decide (x15 < (p0.length : Int))) ((getI p0 x15).bind fun e17 => (Za6 e17 p1).bind fun r19 => Za8 x15 (r19 == 0)) (Za8 x15 false)
def Zaa (p0 : List Y9j) (p1 : Int) (x7 : Int) (x8 : Int) : Option ((Int × Int) ⊕ (Int)) := cond (decide (x7 < x8)) ((getI p0 (IntKind.i64.wrap (shrI .u64 (IntKind.u64.wrap (IntKind.i64.wrap (x7 + x8))) 1))).bind fun e10 => (Za6 e10 p1).bind fun r12 => cond (decide (r12 < 0)) (some (.inl ((IntKind.i64.wrap ((IntKind.i64.wrap (shrI .u64 (IntKind.u64.wrap (IntKind.i64.wrap (x7 + x8))) 1)) + 1)), x8))) (some (.inl (x7, (IntKind.i64.wrap (shrI .u64 (IntKind.u64.wrap (IntKind.i64.wrap (x7 + x8))) 1)))))) (some (.inr x7))
def Zab (p0 : List Y9j) (p1 : Int) : Option (Int × Bool) := (iter (fun z22 => Zaa p0 p1 z22.1 z22.2) big (0, (p0.length : Int))).bind fun y23 => Za9 p0 p1 y23
instance Zac (p0 : List Y9j) (p1 : Int) : Sp Tryz.prog 219 [cM Y9q 9 p0, cI p1, cV (.func (.func 220) #[] #[])] (Zab p0 p1) (fun r => C.tup [cI r.1, C.bool r.2]) := Sp.of (so Tryz.func219 rfl rfl fun r X h => gh (.q 3 (.c1 (fun x15 => .d [(9, cI x15)] []) [0,1,2,8] [] (.l2 (fun x7 x8 => .d [(9, cI x7), (10, cI x8)] []) [0,1,2,8] [] .z) (.e 9 cI fun x15 => .c1 (fun x21 => .d [(6, cI x15), (7, C.bool x21)] []) [] [] .z .z))))

def Zad (p0 : List Y9j) (p1 : Int) : Option (Int × Bool) := (Zab p0 p1).bind fun r1 => some (r1.1, r1.2)
instance Zae (p0 : List Y9j) (p1 : Int) : Sp Tryz.prog 159 [cM Y9q 9 p0, cI p1] (Zad p0 p1) (fun r => C.tup [cI r.1, C.bool r.2]) := Sp.of (so Tryz.func159 rfl rfl fun r X h => gh .z)

def Zaf (p0 : Y9k) (p1 : Int) : Option Bool := (Zad p0.events p1).bind fun r2 => some r2.2
instance Zag (p0 : Y9k) (p1 : Int) : Sp Tryz.prog 79 [C.agg [cI p0.room, cM Y9q 9 p0.events, cM Y9q 9 p0.parked], cI p1] (Zaf p0 p1) (fun r => C.bool r) := Sp.of (so Tryz.func79 rfl rfl fun r X h => gh .z)

def Zah (p0 : Int) (q0 : Y9k) : Option Bool := (Zaf q0 p0).bind fun r1 => some (!r1)
instance Zai (p0 : Int) (q0 : Y9k) : SpO Tryz.prog 205 (Zah p0 q0) (.x fun (b00 : Nat) => .d [cI p0, pt b00] [oB b00 25 [cI q0.room, cM Y9q 9 q0.events, cM Y9q 9 q0.parked]] fun r => .d (C.bool r) [oB b00 25 [cI q0.room, cM Y9q 9 q0.events, cM Y9q 9 q0.parked]]) := ⟨fun b00 => so Tryz.func205 rfl rfl fun r X h => gh .z⟩

end Go.Proofs.YtomachnjepgpbaaGreat
