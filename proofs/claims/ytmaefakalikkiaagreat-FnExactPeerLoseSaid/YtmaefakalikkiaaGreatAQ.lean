/- Printed by gen.py: plain functions for Go functions, and that the walks keep to them. -/
import Derived.Test.YtmaefakalikkiaaGreatAQ4
set_option autoImplicit false
set_option linter.unusedVariables false
set_option linter.unusedSimpArgs false
set_option maxHeartbeats 8000000
set_option maxRecDepth 100000
namespace Go.Proofs.YtmaefakalikkiaaGreat
open Go Go.Abs
attribute [local irreducible] AW Ops OpsD Y3z VoK HoK GhF UsC Go.Abs.Fin PkK LenT LenL Y9k BldK FzK FzLK
def Zih (p0 : Y9r) (p1 : Y9r) : Option Bool := cond (p0.id != p1.id) (some false) (cond (p0.room != p1.room) (some false) (cond (p0.author != p1.author) (some false) (cond (p0.kind != p1.kind) (some false) (cond (p0.key != p1.key) (some false) (cond (p0.n != p1.n) (some false) (cond (p0.text.toList == p1.text.toList) ((Zif p0.prev p1.prev).bind fun r10 => cond r10 (cond (p0.time != p1.time) (some false) (some true)) (some false)) (some false)))))))
instance Zii (p0 : Y9r) (p1 : Y9r) : Sp Tryz.prog 390 [C.agg [cI p0.id, cI p0.room, cI p0.author, cI p0.kind, cI p0.key, cI p0.n, C.str p0.text, cM kI64 1 p0.prev, cI p0.time], C.agg [cI p1.id, cI p1.room, cI p1.author, cI p1.kind, cI p1.key, cI p1.n, C.str p1.text, cM kI64 1 p1.prev, cI p1.time]] (Zih p0 p1) (fun r => C.bool r) := Sp.of (so Tryz.func390 rfl rfl fun r X h => gh .z)

def Zij : Option Bool := some true
def Zik (p0 : List Y9r) (p1 : List Y9r) (x10 : Int) : Option (Int ⊕ (Bool ⊕ Unit)) := cond (decide (x10 < (p0.length : Int))) ((getI p0 x10).bind fun e12 => (getI p1 x10).bind fun e14 => (Zih e12 e14).bind fun r16 => cond r16 (some (.inl (IntKind.i64.wrap (x10 + 1)))) (some (.inr (.inl false)))) (some (.inr (.inr ())))
def Zil (p0 : List Y9r) (p1 : List Y9r) : Option Bool := cond ((p0.length : Int) != (p1.length : Int)) (some false) ((iter (Zik p0 p1) big 0).bind (fun z20 => match z20 with | .inl y19 => some y19 | .inr () => Zij))
instance Zim (p0 : List Y9r) (p1 : List Y9r) : Sp Tryz.prog 355 [cM Ya5 9 p0, cM Ya5 9 p1] (Zil p0 p1) (fun r => C.bool r) := Sp.of (so Tryz.func355 rfl rfl fun r X h => gh (.b .z (.c0 (.d [] []) [] [] (.l1 (fun x10 => .d [(5, cI x10)] []) [0,1] [] (.b (.r [] [3,7] [] [0,4,8,13,16,20,24,29,34,36] .z) .z)) .z)))

def Zin (p0 : Y9w) (p1 : Y9w) : Option Bool := cond (p0.room != p1.room) (some false) ((Zil p0.events p1.events).bind fun r4 => cond r4 ((Zil p0.parked p1.parked).bind fun r7 => cond r7 (some true) (some false)) (some false))
instance Zio (p0 : Y9w) (p1 : Y9w) : Sp Tryz.prog 295 [C.agg [cI p0.room, cM Ya5 9 p0.events, cM Ya5 9 p0.parked], C.agg [cI p1.room, cM Ya5 9 p1.events, cM Ya5 9 p1.parked]] (Zin p0 p1) (fun r => C.bool r) := Sp.of (so Tryz.func295 rfl rfl fun r X h => gh .z)

def Zip : Option Bool := some true
def Ziq (p0 : List Y9w) (p1 : List Y9w) (x10 : Int) : Option (Int ⊕ (Bool ⊕ Unit)) := cond (decide (x10 < (p0.length : Int))) ((getI p0 x10).bind fun e12 => (getI p1 x10).bind fun e14 => (Zin e12 e14).bind fun r16 => cond r16 (some (.inl (IntKind.i64.wrap (x10 + 1)))) (some (.inr (.inl false)))) (some (.inr (.inr ())))
def Zir (p0 : List Y9w) (p1 : List Y9w) : Option Bool := cond ((p0.length : Int) != (p1.length : Int)) (some false) ((iter (Ziq p0 p1) big 0).bind (fun z20 => match z20 with | .inl y19 => some y19 | .inr () => Zip))
instance Zis (p0 : List Y9w) (p1 : List Y9w) : Sp Tryz.prog 182 [cM Yab 3 p0, cM Yab 3 p1] (Zir p0 p1) (fun r => C.bool r) := Sp.of (so Tryz.func182 rfl rfl fun r X h => gh (.b .z (.c0 (.d [] []) [] [] (.l1 (fun x10 => .d [(5, cI x10)] []) [0,1] [] (.b (.r [] [3,7] [] [0,4,8,13,16,20,24,29,34,36] .z) .z)) .z)))

def Zit (p0 : Y9t) (p1 : Y9t) : Option Bool := cond (p0.room != p1.room) (some false) (cond (p0.id != p1.id) (some false) (some true))
instance Ziu (p0 : Y9t) (p1 : Y9t) : Sp Tryz.prog 181 [C.agg [cI p0.room, cI p0.id], C.agg [cI p1.room, cI p1.id]] (Zit p0 p1) (fun r => C.bool r) := Sp.of (so Tryz.func181 rfl rfl fun r X h => gh .z)

def Ziv : Option Bool := some true
def Ziw (p0 : List Y9t) (p1 : List Y9t) (x10 : Int) : Option (Int ⊕ (Bool ⊕ Unit)) := cond (decide (x10 < (p0.length : Int))) ((getI p0 x10).bind fun e12 => (getI p1 x10).bind fun e14 => (Zit e12 e14).bind fun r16 => cond r16 (some (.inl (IntKind.i64.wrap (x10 + 1)))) (some (.inr (.inl false)))) (some (.inr (.inr ())))
def Zix (p0 : List Y9t) (p1 : List Y9t) : Option Bool := cond ((p0.length : Int) != (p1.length : Int)) (some false) ((iter (Ziw p0 p1) big 0).bind (fun z20 => match z20 with | .inl y19 => some y19 | .inr () => Ziv))
instance Ziy (p0 : List Y9t) (p1 : List Y9t) : Sp Tryz.prog 57 [cM Ya7 2 p0, cM Ya7 2 p1] (Zix p0 p1) (fun r => C.bool r) := Sp.of (so Tryz.func57 rfl rfl fun r X h => gh (.b .z (.c0 (.d [] []) [] [] (.l1 (fun x10 => .d [(5, cI x10)] []) [0,1] [] (.b (.r [] [3,7] [] [0,4,8,13,16,20,24,29,34,36] .z) .z)) .z)))

def Ziz (p0 : Y9x) (p1 : Y9x) : Option Bool := (Zir p0.rooms p1.rooms).bind fun r3 => cond r3 ((Zix p0.stream p1.stream).bind fun r6 => cond r6 (some true) (some false)) (some false)
instance Zj0 (p0 : Y9x) (p1 : Y9x) : Sp Tryz.prog 58 [C.agg [cM Yab 3 p0.rooms, cM Ya7 2 p0.stream], C.agg [cM Yab 3 p1.rooms, cM Ya7 2 p1.stream]] (Ziz p0 p1) (fun r => C.bool r) := Sp.of (so Tryz.func58 rfl rfl fun r X h => gh .z)

def Zj1 : Option Bool := some true
def Zj2 (p0 : List Y9x) (p1 : List Y9x) (x10 : Int) : Option (Int ⊕ (Bool ⊕ Unit)) := cond (decide (x10 < (p0.length : Int))) ((getI p0 x10).bind fun e12 => (getI p1 x10).bind fun e14 => (Ziz e12 e14).bind fun r16 => cond r16 (some (.inl (IntKind.i64.wrap (x10 + 1)))) (some (.inr (.inl false)))) (some (.inr (.inr ())))
def Zj3 (p0 : List Y9x) (p1 : List Y9x) : Option Bool := cond ((p0.length : Int) != (p1.length : Int)) (some false) ((iter (Zj2 p0 p1) big 0).bind (fun z20 => match z20 with | .inl y19 => some y19 | .inr () => Zj1))
instance Zj4 (p0 : List Y9x) (p1 : List Y9x) : Sp Tryz.prog 163 [cM Yae 2 p0, cM Yae 2 p1] (Zj3 p0 p1) (fun r => C.bool r) := Sp.of (so Tryz.func163 rfl rfl fun r X h => gh (.b .z (.c0 (.d [] []) [] [] (.l1 (fun x10 => .d [(5, cI x10)] []) [0,1] [] (.b (.r [] [3,7] [] [0,4,8,13,16,20,24,29,34,36] .z) .z)) .z)))

def Zj5 (p0 : Y9u) (p1 : Y9u) : Option Bool := cond (p0.kind != p1.kind) (some false) (cond (p0.from_ != p1.from_) (some false) (cond (p0.to_ != p1.to_) (some false) (cond (p0.room != p1.room) (some false) (cond (p0.text.toList == p1.text.toList) (some true) (some false)))))
instance Zj6 (p0 : Y9u) (p1 : Y9u) : Sp Tryz.prog 277 [C.agg [cI p0.kind, cI p0.from_, cI p0.to_, cI p0.room, C.str p0.text], C.agg [cI p1.kind, cI p1.from_, cI p1.to_, cI p1.room, C.str p1.text]] (Zj5 p0 p1) (fun r => C.bool r) := Sp.of (so Tryz.func277 rfl rfl fun r X h => gh .z)

def Zj7 : Option Bool := some true
def Zj8 (p0 : List Y9u) (p1 : List Y9u) (x10 : Int) : Option (Int ⊕ (Bool ⊕ Unit)) := cond (decide (x10 < (p0.length : Int))) ((getI p0 x10).bind fun e12 => (getI p1 x10).bind fun e14 => (Zj5 e12 e14).bind fun r16 => cond r16 (some (.inl (IntKind.i64.wrap (x10 + 1)))) (some (.inr (.inl false)))) (some (.inr (.inr ())))
def Zj9 (p0 : List Y9u) (p1 : List Y9u) : Option Bool := cond ((p0.length : Int) != (p1.length : Int)) (some false) ((iter (Zj8 p0 p1) big 0).bind (fun z20 => match z20 with | .inl y19 => some y19 | .inr () => Zj7))
instance Zja (p0 : List Y9u) (p1 : List Y9u) : Sp Tryz.prog 164 [cM Ya8 5 p0, cM Ya8 5 p1] (Zj9 p0 p1) (fun r => C.bool r) := Sp.of (so Tryz.func164 rfl rfl fun r X h => gh (.b .z (.c0 (.d [] []) [] [] (.l1 (fun x10 => .d [(5, cI x10)] []) [0,1] [] (.b (.r [] [3,7] [] [0,4,8,13,16,20,24,29,34,36] .z) .z)) .z)))

def Zjb (p0 : Y9y) (p1 : Y9y) : Option Bool := (Zj3 p0.hubs p1.hubs).bind fun r3 => cond r3 ((Zj9 p0.letters p1.letters).bind fun r6 => cond r6 (some true) (some false)) (some false)
instance Zjc (p0 : Y9y) (p1 : Y9y) : Sp Tryz.prog 49 [C.agg [cM Yae 2 p0.hubs, cM Ya8 5 p0.letters], C.agg [cM Yae 2 p1.hubs, cM Ya8 5 p1.letters]] (Zjb p0 p1) (fun r => C.bool r) := Sp.of (so Tryz.func49 rfl rfl fun r X h => gh .z)

def Zjd (p0 : Ya2) (p1 : Ya2) : Option Bool := (Zjb p0.peers p1.peers).bind fun r3 => cond r3 (cond (p0.id != p1.id) (some false) (cond (p0.code != p1.code) (some false) (some true))) (some false)
instance Zje (p0 : Ya2) (p1 : Ya2) : Sp Tryz.prog 48 [C.agg [cM Yae 2 p0.peers.hubs, cM Ya8 5 p0.peers.letters, cI p0.id, cI p0.code], C.agg [cM Yae 2 p1.peers.hubs, cM Ya8 5 p1.peers.letters, cI p1.id, cI p1.code]] (Zjd p0 p1) (fun r => C.bool r) := Sp.of (so Tryz.func48 rfl rfl fun r X h => gh .z)

def Zjf (x12 : ByteArray) : Option ByteArray := (chk (decide ((ByteArray.mk #[109]).size + x12.size ≤ 9223372036854775807))).bind fun u14 => some ((ByteArray.mk #[109]) ++ x12)
def Zjg (x6 : Int) (x7 : ByteArray) : Option ((Int × ByteArray) ⊕ (ByteArray)) := cond (decide (x6 > 0)) ((chk (decide ((Y7c [(IntKind.u8.wrap (IntKind.i64.wrap (48 + (Int.tmod x6 10))))]).size + x7.size ≤ 9223372036854775807))).bind fun u11 => some (.inl ((IntKind.i64.wrap (Int.tdiv x6 10)), ((Y7c [(IntKind.u8.wrap (IntKind.i64.wrap (48 + (Int.tmod x6 10))))]) ++ x7)))) (some (.inr x7))
def Zjh (p0 : Int) : Option ByteArray := cond (decide (p0 ≤ 0)) (some (ByteArray.mk #[109, 48])) ((iter (fun z15 => Zjg z15.1 z15.2) big (p0, ByteArray.empty)).bind fun y16 => Zjf y16)
instance Zji (p0 : Int) : Sp Tryz.prog 278 [cI p0] (Zjh p0) (fun r => C.str r) := Sp.of (so Tryz.func278 rfl rfl fun r X h => gh (.b .z (.q 1 (.c1 (fun x12 => .d [(3, C.str x12)] []) [] [] (.l2 (fun x6 x7 => .d [(0, cI x6), (3, C.str x7)] []) [] [] .z) .z))))

def Zjj (x10 : Int) (l11 : List Int) : Option (Int × List Int) := some (x10, l11)
def Zjk (l4 : List Int) (x5 : Int) (x6 : Int) : Option ((List Int × Int × Int) ⊕ ((Int × List Int))) := cond (decide (x6 < (l4.length : Int))) ((getI l4 x6).bind fun e8 => some (.inl ((List.set l4 (Int.toNat x6) x5), (IntKind.i64.wrap (x5 + 1)), (IntKind.i64.wrap (x6 + 1))))) (some (.inr (x5, l4)))
def Zjl (p0 : List Int) (p1 : Int) : Option (Int × List Int) := (iter (fun z12 => Zjk z12.1 z12.2.1 z12.2.2) big (p0, p1, 0)).bind fun (y13, y14) => Zjj y13 y14
instance Zjm (p0 : List Int) (p1 : Int) : SpO Tryz.prog 356 (Zjl p0 p1) (.x fun (w00 : Value) => .d [cV w00, cI p1] [oA w00 2 kI64 1 p0] fun r => .d (cI r.1) [oA w00 2 kI64 1 r.2]) := ⟨fun w00 => so Tryz.func356 rfl rfl fun r X h => gh (.q 1 (.c2 (fun x10 l11 => .d [(1, cI x10)] [oA w00 2 kI64 1 l11]) [] [] (.l3 (fun l4 x5 x6 => .d [(1, cI x5), (5, cI x6)] [oA w00 2 kI64 1 l4]) [0] [] .z) .z))⟩

def Zjn (x52 : Int) (l53 : List Y9r) : Option (Int × List Y9r) := some (x52, l53)
def Zjo (l25 : List Y9r) (x26 : Int) (x27 : Int) : Option ((List Y9r × Int × Int) ⊕ ((Int × List Y9r))) := cond (decide (x27 < (l25.length : Int))) ((getI l25 x27).bind fun e29 => (getI (List.set l25 (Int.toNat x27) (Y9r.mk x26 e29.room e29.author e29.kind e29.key e29.n e29.text e29.prev e29.time)) x27).bind fun e31 => (getI (List.set (List.set l25 (Int.toNat x27) (Y9r.mk x26 e29.room e29.author e29.kind e29.key e29.n e29.text e29.prev e29.time)) (Int.toNat x27) (Y9r.mk e31.id (IntKind.i64.wrap (x26 + 1)) e31.author e31.kind e31.key e31.n e31.text e31.prev e31.time)) x27).bind fun e33 => (getI (List.set (List.set (List.set l25 (Int.toNat x27) (Y9r.mk x26 e29.room e29.author e29.kind e29.key e29.n e29.text e29.prev e29.time)) (Int.toNat x27) (Y9r.mk e31.id (IntKind.i64.wrap (x26 + 1)) e31.author e31.kind e31.key e31.n e31.text e31.prev e31.time)) (Int.toNat x27) (Y9r.mk e33.id e33.room (IntKind.i64.wrap ((IntKind.i64.wrap (x26 + 1)) + 1)) e33.kind e33.key e33.n e33.text e33.prev e33.time)) x27).bind fun e35 => (getI (List.set (List.set (List.set (List.set l25 (Int.toNat x27) (Y9r.mk x26 e29.room e29.author e29.kind e29.key e29.n e29.text e29.prev e29.time)) (Int.toNat x27) (Y9r.mk e31.id (IntKind.i64.wrap (x26 + 1)) e31.author e31.kind e31.key e31.n e31.text e31.prev e31.time)) (Int.toNat x27) (Y9r.mk e33.id e33.room (IntKind.i64.wrap ((IntKind.i64.wrap (x26 + 1)) + 1)) e33.kind e33.key e33.n e33.text e33.prev e33.time)) (Int.toNat x27) (Y9r.mk e35.id e35.room e35.author (IntKind.i64.wrap ((IntKind.i64.wrap ((IntKind.i64.wrap (x26 + 1)) + 1)) + 1)) e35.key e35.n e35.text e35.prev e35.time)) x27).bind fun e37 => (getI (List.set (List.set (List.set (List.set (List.set l25 (Int.toNat x27) (Y9r.mk x26 e29.room e29.author e29.kind e29.key e29.n e29.text e29.prev e29.time)) (Int.toNat x27) (Y9r.mk e31.id (IntKind.i64.wrap (x26 + 1)) e31.author e31.kind e31.key e31.n e31.text e31.prev e31.time)) (Int.toNat x27) (Y9r.mk e33.id e33.room (IntKind.i64.wrap ((IntKind.i64.wrap (x26 + 1)) + 1)) e33.kind e33.key e33.n e33.text e33.prev e33.time)) (Int.toNat x27) (Y9r.mk e35.id e35.room e35.author (IntKind.i64.wrap ((IntKind.i64.wrap ((IntKind.i64.wrap (x26 + 1)) + 1)) + 1)) e35.key e35.n e35.text e35.prev e35.time)) (Int.toNat x27) (Y9r.mk e37.id e37.room e37.author e37.kind (IntKind.i64.wrap ((IntKind.i64.wrap ((IntKind.i64.wrap ((IntKind.i64.wrap (x26 + 1)) + 1)) + 1)) + 1)) e37.n e37.text e37.prev e37.time)) x27).bind fun e39 => (Zjh (IntKind.i64.wrap ((IntKind.i64.wrap ((IntKind.i64.wrap ((IntKind.i64.wrap ((IntKind.i64.wrap ((IntKind.i64.wrap (x26 + 1)) + 1)) + 1)) + 1)) + 1)) + 1))).bind fun r41 => (getI (List.set (List.set (List.set (List.set (List.set (List.set l25 (Int.toNat x27) (Y9r.mk x26 e29.room e29.author e29.kind e29.key e29.n e29.text e29.prev e29.time)) (Int.toNat x27) (Y9r.mk e31.id (IntKind.i64.wrap (x26 + 1)) e31.author e31.kind e31.key e31.n e31.text e31.prev e31.time)) (Int.toNat x27) (Y9r.mk e33.id e33.room (IntKind.i64.wrap ((IntKind.i64.wrap (x26 + 1)) + 1)) e33.kind e33.key e33.n e33.text e33.prev e33.time)) (Int.toNat x27) (Y9r.mk e35.id e35.room e35.author (IntKind.i64.wrap ((IntKind.i64.wrap ((IntKind.i64.wrap (x26 + 1)) + 1)) + 1)) e35.key e35.n e35.text e35.prev e35.time)) (Int.toNat x27) (Y9r.mk e37.id e37.room e37.author e37.kind (IntKind.i64.wrap ((IntKind.i64.wrap ((IntKind.i64.wrap ((IntKind.i64.wrap (x26 + 1)) + 1)) + 1)) + 1)) e37.n e37.text e37.prev e37.time)) (Int.toNat x27) (Y9r.mk e39.id e39.room e39.author e39.kind e39.key (IntKind.i64.wrap ((IntKind.i64.wrap ((IntKind.i64.wrap ((IntKind.i64.wrap ((IntKind.i64.wrap (x26 + 1)) + 1)) + 1)) + 1)) + 1)) e39.text e39.prev e39.time)) x27).bind fun e43 => (getI (List.set (List.set (List.set (List.set (List.set (List.set (List.set l25 (Int.toNat x27) (Y9r.mk x26 e29.room e29.author e29.kind e29.key e29.n e29.text e29.prev e29.time)) (Int.toNat x27) (Y9r.mk e31.id (IntKind.i64.wrap (x26 + 1)) e31.author e31.kind e31.key e31.n e31.text e31.prev e31.time)) (Int.toNat x27) (Y9r.mk e33.id e33.room (IntKind.i64.wrap ((IntKind.i64.wrap (x26 + 1)) + 1)) e33.kind e33.key e33.n e33.text e33.prev e33.time)) (Int.toNat x27) (Y9r.mk e35.id e35.room e35.author (IntKind.i64.wrap ((IntKind.i64.wrap ((IntKind.i64.wrap (x26 + 1)) + 1)) + 1)) e35.key e35.n e35.text e35.prev e35.time)) (Int.toNat x27) (Y9r.mk e37.id e37.room e37.author e37.kind (IntKind.i64.wrap ((IntKind.i64.wrap ((IntKind.i64.wrap ((IntKind.i64.wrap (x26 + 1)) + 1)) + 1)) + 1)) e37.n e37.text e37.prev e37.time)) (Int.toNat x27) (Y9r.mk e39.id e39.room e39.author e39.kind e39.key (IntKind.i64.wrap ((IntKind.i64.wrap ((IntKind.i64.wrap ((IntKind.i64.wrap ((IntKind.i64.wrap (x26 + 1)) + 1)) + 1)) + 1)) + 1)) e39.text e39.prev e39.time)) (Int.toNat x27) (Y9r.mk e43.id e43.room e43.author e43.kind e43.key e43.n r41 e43.prev e43.time)) x27).bind fun e45 => (Zjl e45.prev (IntKind.i64.wrap ((IntKind.i64.wrap ((IntKind.i64.wrap ((IntKind.i64.wrap ((IntKind.i64.wrap ((IntKind.i64.wrap ((IntKind.i64.wrap (x26 + 1)) + 1)) + 1)) + 1)) + 1)) + 1)) + 1))).bind fun r48 => (getI (List.set (List.set (List.set (List.set (List.set (List.set (List.set (List.set l25 (Int.toNat x27) (Y9r.mk x26 e29.room e29.author e29.kind e29.key e29.n e29.text e29.prev e29.time)) (Int.toNat x27) (Y9r.mk e31.id (IntKind.i64.wrap (x26 + 1)) e31.author e31.kind e31.key e31.n e31.text e31.prev e31.time)) (Int.toNat x27) (Y9r.mk e33.id e33.room (IntKind.i64.wrap ((IntKind.i64.wrap (x26 + 1)) + 1)) e33.kind e33.key e33.n e33.text e33.prev e33.time)) (Int.toNat x27) (Y9r.mk e35.id e35.room e35.author (IntKind.i64.wrap ((IntKind.i64.wrap ((IntKind.i64.wrap (x26 + 1)) + 1)) + 1)) e35.key e35.n e35.text e35.prev e35.time)) (Int.toNat x27) (Y9r.mk e37.id e37.room e37.author e37.kind (IntKind.i64.wrap ((IntKind.i64.wrap ((IntKind.i64.wrap ((IntKind.i64.wrap (x26 + 1)) + 1)) + 1)) + 1)) e37.n e37.text e37.prev e37.time)) (Int.toNat x27) (Y9r.mk e39.id e39.room e39.author e39.kind e39.key (IntKind.i64.wrap ((IntKind.i64.wrap ((IntKind.i64.wrap ((IntKind.i64.wrap ((IntKind.i64.wrap (x26 + 1)) + 1)) + 1)) + 1)) + 1)) e39.text e39.prev e39.time)) (Int.toNat x27) (Y9r.mk e43.id e43.room e43.author e43.kind e43.key e43.n r41 e43.prev e43.time)) (Int.toNat x27) (Y9r.mk e45.id e45.room e45.author e45.kind e45.key e45.n e45.text r48.2 e45.time)) x27).bind fun e50 => some (.inl ((List.set (List.set (List.set (List.set (List.set (List.set (List.set (List.set (List.set l25 (Int.toNat x27) (Y9r.mk x26 e29.room e29.author e29.kind e29.key e29.n e29.text e29.prev e29.time)) (Int.toNat x27) (Y9r.mk e31.id (IntKind.i64.wrap (x26 + 1)) e31.author e31.kind e31.key e31.n e31.text e31.prev e31.time)) (Int.toNat x27) (Y9r.mk e33.id e33.room (IntKind.i64.wrap ((IntKind.i64.wrap (x26 + 1)) + 1)) e33.kind e33.key e33.n e33.text e33.prev e33.time)) (Int.toNat x27) (Y9r.mk e35.id e35.room e35.author (IntKind.i64.wrap ((IntKind.i64.wrap ((IntKind.i64.wrap (x26 + 1)) + 1)) + 1)) e35.key e35.n e35.text e35.prev e35.time)) (Int.toNat x27) (Y9r.mk e37.id e37.room e37.author e37.kind (IntKind.i64.wrap ((IntKind.i64.wrap ((IntKind.i64.wrap ((IntKind.i64.wrap (x26 + 1)) + 1)) + 1)) + 1)) e37.n e37.text e37.prev e37.time)) (Int.toNat x27) (Y9r.mk e39.id e39.room e39.author e39.kind e39.key (IntKind.i64.wrap ((IntKind.i64.wrap ((IntKind.i64.wrap ((IntKind.i64.wrap ((IntKind.i64.wrap (x26 + 1)) + 1)) + 1)) + 1)) + 1)) e39.text e39.prev e39.time)) (Int.toNat x27) (Y9r.mk e43.id e43.room e43.author e43.kind e43.key e43.n r41 e43.prev e43.time)) (Int.toNat x27) (Y9r.mk e45.id e45.room e45.author e45.kind e45.key e45.n e45.text r48.2 e45.time)) (Int.toNat x27) (Y9r.mk e50.id e50.room e50.author e50.kind e50.key e50.n e50.text e50.prev r48.1)), (IntKind.i64.wrap (r48.1 + 1)), (IntKind.i64.wrap (x27 + 1))))) (some (.inr (x26, l25)))
def Zjp (p0 : List Y9r) (p1 : Int) : Option (Int × List Y9r) := (iter (fun z54 => Zjo z54.1 z54.2.1 z54.2.2) big (p0, p1, 0)).bind fun (y55, y56) => Zjn y55 y56
theorem Zjq {w00 : Value} (p0 : List Y9r) (p1 : Int) (r : Int × List Y9r) (h : Zjp p0 p1 = some r) : Ok Tryz.prog 296 [cV w00, cI p1] [Obj.deep w00 42 Ya9 Yaa 9 p0] (fun c qs => c = cI r.1 ∧ qs = [Obj.deep w00 42 Ya9 Yaa 9 r.2]) := by
 refine Ok.of_body (rs := [.tmp 4]) Tryz.func296 rfl rfl rfl rfl rfl fun X => ?_
 unfold Zjp at h
 refine AW.seq ?_
 refine AW.region ?_
 refine Ops.v rfl (Ys rfl rfl) ?_
 refine Ops.nil ?_
 refine AW.seq ?_
 refine AW.cut (τ := Int × List Y9r) (fun (x52, l53) => ⟨[(1, cI x52)], [Obj.deep w00 42 Ya9 Yaa 9 l53]⟩) (fun (x52, l53) => Zjn x52 l53 = some r) ?_ ?_
 ·
  refine zw ?_
  refine ob' h fun o57 g58 q59 => ?_
  refine AW.loop (τ := List Y9r × Int × Int) (x := (p0, p1, 0)) (fun (l25, x26, x27) => ⟨[(0, cV w00), (1, cI x26), (5, cI x27)], [Obj.deep w00 42 Ya9 Yaa 9 l25]⟩) (fun k (l25, x26, x27) => iter (fun z54 => Zjo z54.1 z54.2.1 z54.2.2) k (l25, x26, x27) = some o57) g58 (Y25.both (ns := [0]) rfl rfl) ?_
  rintro k ⟨l25, x26, x27⟩ i61
  refine Y4d (show iter (fun z54 => Zjo z54.1 z54.2.1 z54.2.2) k (l25, x26, x27) = some o57 from i61) fun k60 y62 hlt_k60 h h63 => ?_
  replace h : Zjo l25 x26 x27 = some y62 := h
  unfold Zjo at h
  refine zw ?_
  refine Ops.v rfl (Y6a (p := 0) Ycc.h rfl rfl rfl) ?_
  refine zw ?_
  refine cnd h (fun hb28 h => ?_) fun hb28 h => ?_
  ·
   refine AW.ct hb28 rfl ?_
   refine zw ?_
   refine ob' h fun e29 g30 h => ?_
   refine Ops.v rfl (Y6c (p := 0) Ycc.h rfl rfl rfl g30 rfl) ?_
   refine Ops.v rfl (Y6d (p := 0) Ybr.h rfl rfl (Y2f g30).2.2 rfl) ?_
   refine Ops.hd (ns := [0]) rfl rfl (Y6f (e' := (Y9r.mk x26 e29.room e29.author e29.kind e29.key e29.n e29.text e29.prev e29.time)) ld_2.h rfl rfl (One.val rfl) (Y2f g30).2.2 (fun _ => rfl) (fun _ => rfl) (fun _ => rfl)) ?_
   refine zw ?_
   refine ob' h fun e31 g32 h => ?_
   refine Ops.v rfl (Y6c (p := 0) Ycc.h rfl rfl rfl g32 rfl) ?_
   refine Ops.v rfl (Y6d (p := 0) Ybt.h rfl rfl (Y2f g32).2.2 rfl) ?_
   refine Ops.hd (ns := [0]) rfl rfl (Y6f (e' := (Y9r.mk e31.id (IntKind.i64.wrap (x26 + 1)) e31.author e31.kind e31.key e31.n e31.text e31.prev e31.time)) ld_2.h rfl rfl (One.val rfl) (Y2f g32).2.2 (fun _ => rfl) (fun _ => rfl) (fun _ => rfl)) ?_
   refine zw ?_
   refine ob' h fun e33 g34 h => ?_
   refine Ops.v rfl (Y6c (p := 0) Ycc.h rfl rfl rfl g34 rfl) ?_
   refine Ops.v rfl (Y6d (p := 0) Ybv.h rfl rfl (Y2f g34).2.2 rfl) ?_
   refine Ops.hd (ns := [0]) rfl rfl (Y6f (e' := (Y9r.mk e33.id e33.room (IntKind.i64.wrap ((IntKind.i64.wrap (x26 + 1)) + 1)) e33.kind e33.key e33.n e33.text e33.prev e33.time)) ld_2.h rfl rfl (One.val rfl) (Y2f g34).2.2 (fun _ => rfl) (fun _ => rfl) (fun _ => rfl)) ?_
   refine zw ?_
   refine ob' h fun e35 g36 h => ?_
   refine Ops.v rfl (Y6c (p := 0) Ycc.h rfl rfl rfl g36 rfl) ?_
   refine Ops.v rfl (Y6d (p := 0) Ybx.h rfl rfl (Y2f g36).2.2 rfl) ?_
   refine Ops.hd (ns := [0]) rfl rfl (Y6f (e' := (Y9r.mk e35.id e35.room e35.author (IntKind.i64.wrap ((IntKind.i64.wrap ((IntKind.i64.wrap (x26 + 1)) + 1)) + 1)) e35.key e35.n e35.text e35.prev e35.time)) ld_2.h rfl rfl (One.val rfl) (Y2f g36).2.2 (fun _ => rfl) (fun _ => rfl) (fun _ => rfl)) ?_
   refine zw ?_
   refine ob' h fun e37 g38 h => ?_
   refine Ops.v rfl (Y6c (p := 0) Ycc.h rfl rfl rfl g38 rfl) ?_
   refine Ops.v rfl (Y6d (p := 0) Ybz.h rfl rfl (Y2f g38).2.2 rfl) ?_
   refine Ops.hd (ns := [0]) rfl rfl (Y6f (e' := (Y9r.mk e37.id e37.room e37.author e37.kind (IntKind.i64.wrap ((IntKind.i64.wrap ((IntKind.i64.wrap ((IntKind.i64.wrap (x26 + 1)) + 1)) + 1)) + 1)) e37.n e37.text e37.prev e37.time)) ld_2.h rfl rfl (One.val rfl) (Y2f g38).2.2 (fun _ => rfl) (fun _ => rfl) (fun _ => rfl)) ?_
   refine zw ?_
   refine ob' h fun e39 g40 h => ?_
   refine Ops.v rfl (Y6c (p := 0) Ycc.h rfl rfl rfl g40 rfl) ?_
   refine Ops.v rfl (Y6d (p := 0) Yc1.h rfl rfl (Y2f g40).2.2 rfl) ?_
   refine Ops.hd (ns := [0]) rfl rfl (Y6f (e' := (Y9r.mk e39.id e39.room e39.author e39.kind e39.key (IntKind.i64.wrap ((IntKind.i64.wrap ((IntKind.i64.wrap ((IntKind.i64.wrap ((IntKind.i64.wrap (x26 + 1)) + 1)) + 1)) + 1)) + 1)) e39.text e39.prev e39.time)) ld_2.h rfl rfl (One.val rfl) (Y2f g40).2.2 (fun _ => rfl) (fun _ => rfl) (fun _ => rfl)) ?_
   refine zw ?_
   refine oc h fun r41 g42 h => ?_
   refine ob' h fun e43 g44 h => ?_
   refine Ops.v rfl (Y6c (p := 0) Ycc.h rfl rfl rfl g44 rfl) ?_
   refine Ops.v rfl (Y6d (p := 0) Yc2.h rfl rfl (Y2f g44).2.2 rfl) ?_
   refine Ops.hd (ns := [0]) rfl rfl (Y6f (e' := (Y9r.mk e43.id e43.room e43.author e43.kind e43.key e43.n r41 e43.prev e43.time)) ld_9.h rfl rfl (One.val rfl) (Y2f g44).2.2 (fun _ => rfl) (fun _ => rfl) (fun _ => rfl)) ?_
   refine zw ?_
   refine ob' h fun e45 g46 h => ?_
   refine Ops.v rfl (Y6c (p := 0) Ycc.h rfl rfl rfl g46 rfl) ?_
   refine Ops.v rfl (Y6d (p := 0) Yc3.h rfl rfl (Y2f g46).2.2 rfl) ?_
   refine Ops.take (p := 0) rfl (Y2f g46).2.2 fun q47 => ?_
   refine Ops.v rfl (Y6e (p := 1) Yb2.h rfl rfl (Y2f g46).2.2 rfl rfl) ?_
   refine zw ?_
   refine ob' h fun r48 g49 h => ?_
   refine Ops.hd (ns := [0]) rfl rfl (Y28 ((Zjm e45.prev (IntKind.i64.wrap ((IntKind.i64.wrap ((IntKind.i64.wrap ((IntKind.i64.wrap ((IntKind.i64.wrap ((IntKind.i64.wrap ((IntKind.i64.wrap (x26 + 1)) + 1)) + 1)) + 1)) + 1)) + 1)) + 1))).h _ _ g49) rfl rfl) ?_
   refine Ops.ghost (Y25.back (x' := (Y9r.mk e45.id e45.room e45.author e45.kind e45.key e45.n e45.text r48.2 e45.time)) (ns := [1, 0]) rfl (Y2f g46).2.2 rfl rfl) ?_
   refine zw ?_
   refine ob' h fun e50 g51 h => ?_
   refine Ops.v rfl (Y6c (p := 0) Ycc.h rfl rfl rfl g51 rfl) ?_
   refine Ops.v rfl (Y6d (p := 0) Yc5.h rfl rfl (Y2f g51).2.2 rfl) ?_
   refine Ops.hd (ns := [0]) rfl rfl (Y6f (e' := (Y9r.mk e50.id e50.room e50.author e50.kind e50.key e50.n e50.text e50.prev r48.1)) ld_2.h rfl rfl (One.val rfl) (Y2f g51).2.2 (fun _ => rfl) (fun _ => rfl) (fun _ => rfl)) ?_
   refine zw ?_
   obtain rfl := Wj h
   exact ⟨k60, ((List.set (List.set (List.set (List.set (List.set (List.set (List.set (List.set (List.set l25 (Int.toNat x27) (Y9r.mk x26 e29.room e29.author e29.kind e29.key e29.n e29.text e29.prev e29.time)) (Int.toNat x27) (Y9r.mk e31.id (IntKind.i64.wrap (x26 + 1)) e31.author e31.kind e31.key e31.n e31.text e31.prev e31.time)) (Int.toNat x27) (Y9r.mk e33.id e33.room (IntKind.i64.wrap ((IntKind.i64.wrap (x26 + 1)) + 1)) e33.kind e33.key e33.n e33.text e33.prev e33.time)) (Int.toNat x27) (Y9r.mk e35.id e35.room e35.author (IntKind.i64.wrap ((IntKind.i64.wrap ((IntKind.i64.wrap (x26 + 1)) + 1)) + 1)) e35.key e35.n e35.text e35.prev e35.time)) (Int.toNat x27) (Y9r.mk e37.id e37.room e37.author e37.kind (IntKind.i64.wrap ((IntKind.i64.wrap ((IntKind.i64.wrap ((IntKind.i64.wrap (x26 + 1)) + 1)) + 1)) + 1)) e37.n e37.text e37.prev e37.time)) (Int.toNat x27) (Y9r.mk e39.id e39.room e39.author e39.kind e39.key (IntKind.i64.wrap ((IntKind.i64.wrap ((IntKind.i64.wrap ((IntKind.i64.wrap ((IntKind.i64.wrap (x26 + 1)) + 1)) + 1)) + 1)) + 1)) e39.text e39.prev e39.time)) (Int.toNat x27) (Y9r.mk e43.id e43.room e43.author e43.kind e43.key e43.n r41 e43.prev e43.time)) (Int.toNat x27) (Y9r.mk e45.id e45.room e45.author e45.kind e45.key e45.n e45.text r48.2 e45.time)) (Int.toNat x27) (Y9r.mk e50.id e50.room e50.author e50.kind e50.key e50.n e50.text e50.prev r48.1)), (IntKind.i64.wrap (r48.1 + 1)), (IntKind.i64.wrap (x27 + 1))), hlt_k60, h63, Y25.both (ns := [0]) rfl rfl⟩
  refine AW.cf hb28 rfl ?_
  refine AW.exit ?_
  obtain rfl := Wj h
  obtain rfl := Wj h63
  replace h := q59
  exact ⟨(x26, l25), h, Y25.both (ns := [0]) rfl rfl⟩
 rintro ⟨x52, l53⟩ h
 replace h : Zjn x52 l53 = some r := h
 unfold Zjn at h
 refine zw ?_
 refine AW.ret ?_
 rw [← Wj h]
 exact finI ⟨[cI x52], _, Y25.refl _, (.cons (.tmp rfl) .nil), [0], _, _, rfl, ⟨rfl, rfl⟩⟩
instance Zjr (p0 : List Y9r) (p1 : Int) : SpO Tryz.prog 296 (Zjp p0 p1) (.x fun (w00 : Value) => .d [cV w00, cI p1] [Obj.deep w00 42 Ya9 Yaa 9 p0] fun r => .d (cI r.1) [Obj.deep w00 42 Ya9 Yaa 9 r.2]) := ⟨fun w00 r h => Zjq p0 p1 r h⟩

def Zjs (x30 : Int) (l31 : List Y9w) : Option (Int × List Y9w) := some (x30, l31)
def Zjt (l14 : List Y9w) (x15 : Int) (x16 : Int) : Option ((List Y9w × Int × Int) ⊕ ((Int × List Y9w))) := cond (decide (x16 < (l14.length : Int))) ((getI l14 x16).bind fun e18 => (getI (List.set l14 (Int.toNat x16) (Y9w.mk x15 e18.events e18.parked)) x16).bind fun e20 => (Zjp e20.events (IntKind.i64.wrap (x15 + 1))).bind fun r23 => (getI (List.set (List.set l14 (Int.toNat x16) (Y9w.mk x15 e18.events e18.parked)) (Int.toNat x16) (Y9w.mk e20.room r23.2 e20.parked)) x16).bind fun e25 => (Zjp e25.parked r23.1).bind fun r28 => some (.inl ((List.set (List.set (List.set l14 (Int.toNat x16) (Y9w.mk x15 e18.events e18.parked)) (Int.toNat x16) (Y9w.mk e20.room r23.2 e20.parked)) (Int.toNat x16) (Y9w.mk e25.room e25.events r28.2)), r28.1, (IntKind.i64.wrap (x16 + 1))))) (some (.inr (x15, l14)))
def Zju (p0 : List Y9w) (p1 : Int) : Option (Int × List Y9w) := (iter (fun z32 => Zjt z32.1 z32.2.1 z32.2.2) big (p0, p1, 0)).bind fun (y33, y34) => Zjs y33 y34
theorem Zjv {w00 : Value} (p0 : List Y9w) (p1 : Int) (r : Int × List Y9w) (h : Zju p0 p1 = some r) : Ok Tryz.prog 183 [cV w00, cI p1] [Obj.deep w00 25 Yac Yad 3 p0] (fun c qs => c = cI r.1 ∧ qs = [Obj.deep w00 25 Yac Yad 3 r.2]) := by
 refine Ok.of_body (rs := [.tmp 4]) Tryz.func183 rfl rfl rfl rfl rfl fun X => ?_
 unfold Zju at h
 refine AW.seq ?_
 refine AW.region ?_
 refine Ops.v rfl (Ys rfl rfl) ?_
 refine Ops.nil ?_
 refine AW.seq ?_
 refine AW.cut (τ := Int × List Y9w) (fun (x30, l31) => ⟨[(1, cI x30)], [Obj.deep w00 25 Yac Yad 3 l31]⟩) (fun (x30, l31) => Zjs x30 l31 = some r) ?_ ?_
 ·
  refine zw ?_
  refine ob' h fun o35 g36 q37 => ?_
  refine AW.loop (τ := List Y9w × Int × Int) (x := (p0, p1, 0)) (fun (l14, x15, x16) => ⟨[(0, cV w00), (1, cI x15), (5, cI x16)], [Obj.deep w00 25 Yac Yad 3 l14]⟩) (fun k (l14, x15, x16) => iter (fun z32 => Zjt z32.1 z32.2.1 z32.2.2) k (l14, x15, x16) = some o35) g36 (Y25.both (ns := [0]) rfl rfl) ?_
  rintro k ⟨l14, x15, x16⟩ i39
  refine Y4d (show iter (fun z32 => Zjt z32.1 z32.2.1 z32.2.2) k (l14, x15, x16) = some o35 from i39) fun k38 y40 hlt_k38 h h41 => ?_
  replace h : Zjt l14 x15 x16 = some y40 := h
  unfold Zjt at h
  refine zw ?_
  refine Ops.v rfl (Y6a (p := 0) Yco.h rfl rfl rfl) ?_
  refine zw ?_
  refine cnd h (fun hb17 h => ?_) fun hb17 h => ?_
  ·
   refine AW.ct hb17 rfl ?_
   refine zw ?_
   refine ob' h fun e18 g19 h => ?_
   refine Ops.v rfl (Y6c (p := 0) Yco.h rfl rfl rfl g19 rfl) ?_
   refine Ops.v rfl (Y6d (p := 0) Ycf.h rfl rfl (Y2f g19).2.2 rfl) ?_
   refine Ops.hd (ns := [0]) rfl rfl (Y6f (e' := (Y9w.mk x15 e18.events e18.parked)) ld_2.h rfl rfl (One.val rfl) (Y2f g19).2.2 (fun _ => rfl) (fun _ => rfl) (fun _ => rfl)) ?_
   refine zw ?_
   refine ob' h fun e20 g21 h => ?_
   refine Ops.v rfl (Y6c (p := 0) Yco.h rfl rfl rfl g21 rfl) ?_
   refine Ops.v rfl (Y6d (p := 0) Ycg.h rfl rfl (Y2f g21).2.2 rfl) ?_
   refine Ops.take (p := 0) rfl (Y2f g21).2.2 fun q22 => ?_
   refine Ops.v rfl (Y6e (p := 2) Ych.h rfl rfl (Y2f g21).2.2 rfl rfl) ?_
   refine zw ?_
   refine ob' h fun r23 g24 h => ?_
   refine Ops.hd (ns := [0]) rfl rfl (Y28 (Zjq e20.events (IntKind.i64.wrap (x15 + 1)) _ g24) rfl rfl) ?_
   refine Ops.ghost (Y25.back (x' := (Y9w.mk e20.room r23.2 e20.parked)) (ns := [2, 0, 0]) rfl (Y2f g21).2.2 rfl rfl) ?_
   refine zw ?_
   refine ob' h fun e25 g26 h => ?_
   refine Ops.v rfl (Y6c (p := 0) Yco.h rfl rfl rfl g26 rfl) ?_
   refine Ops.v rfl (Y6d (p := 0) Yci.h rfl rfl (Y2f g26).2.2 rfl) ?_
   refine Ops.take (p := 0) rfl (Y2f g26).2.2 fun q27 => ?_
   refine Ops.v rfl (Y6e (p := 2) Ych.h rfl rfl (Y2f g26).2.2 rfl rfl) ?_
   refine zw ?_
   refine ob' h fun r28 g29 h => ?_
   refine Ops.hd (ns := [1]) rfl rfl (Y28 (Zjq e25.parked r23.1 _ g29) rfl rfl) ?_
   refine Ops.ghost (Y25.back (x' := (Y9w.mk e25.room e25.events r28.2)) (ns := [2, 1, 0]) rfl (Y2f g26).2.2 rfl rfl) ?_
   refine zw ?_
   obtain rfl := Wj h
   exact ⟨k38, ((List.set (List.set (List.set l14 (Int.toNat x16) (Y9w.mk x15 e18.events e18.parked)) (Int.toNat x16) (Y9w.mk e20.room r23.2 e20.parked)) (Int.toNat x16) (Y9w.mk e25.room e25.events r28.2)), r28.1, (IntKind.i64.wrap (x16 + 1))), hlt_k38, h41, Y25.both (ns := [0]) rfl rfl⟩
  refine AW.cf hb17 rfl ?_
  refine AW.exit ?_
  obtain rfl := Wj h
  obtain rfl := Wj h41
  replace h := q37
  exact ⟨(x15, l14), h, Y25.both (ns := [0]) rfl rfl⟩
 rintro ⟨x30, l31⟩ h
 replace h : Zjs x30 l31 = some r := h
 unfold Zjs at h
 refine zw ?_
 refine AW.ret ?_
 rw [← Wj h]
 exact finI ⟨[cI x30], _, Y25.refl _, (.cons (.tmp rfl) .nil), [0], _, _, rfl, ⟨rfl, rfl⟩⟩
instance Zjw (p0 : List Y9w) (p1 : Int) : SpO Tryz.prog 183 (Zju p0 p1) (.x fun (w00 : Value) => .d [cV w00, cI p1] [Obj.deep w00 25 Yac Yad 3 p0] fun r => .d (cI r.1) [Obj.deep w00 25 Yac Yad 3 r.2]) := ⟨fun w00 r h => Zjv p0 p1 r h⟩

def Zjx (x14 : Int) (l15 : List Y9t) : Option (Int × List Y9t) := some (x14, l15)
def Zjy (l6 : List Y9t) (x7 : Int) (x8 : Int) : Option ((List Y9t × Int × Int) ⊕ ((Int × List Y9t))) := cond (decide (x8 < (l6.length : Int))) ((getI l6 x8).bind fun e10 => (getI (List.set l6 (Int.toNat x8) (Y9t.mk x7 e10.id)) x8).bind fun e12 => some (.inl ((List.set (List.set l6 (Int.toNat x8) (Y9t.mk x7 e10.id)) (Int.toNat x8) (Y9t.mk e12.room (IntKind.i64.wrap (x7 + 1)))), (IntKind.i64.wrap ((IntKind.i64.wrap (x7 + 1)) + 1)), (IntKind.i64.wrap (x8 + 1))))) (some (.inr (x7, l6)))
def Zjz (p0 : List Y9t) (p1 : Int) : Option (Int × List Y9t) := (iter (fun z16 => Zjy z16.1 z16.2.1 z16.2.2) big (p0, p1, 0)).bind fun (y17, y18) => Zjx y17 y18
instance Zk0 (p0 : List Y9t) (p1 : Int) : SpO Tryz.prog 60 (Zjz p0 p1) (.x fun (w00 : Value) => .d [cV w00, cI p1] [oA w00 187 Ya7 2 p0] fun r => .d (cI r.1) [oA w00 187 Ya7 2 r.2]) := ⟨fun w00 => so Tryz.func60 rfl rfl fun r X h => gh (.q 1 (.c2 (fun x14 l15 => .d [(1, cI x14)] [oA w00 187 Ya7 2 l15]) [] [] (.l3 (fun l6 x7 x8 => .d [(1, cI x7), (5, cI x8)] [oA w00 187 Ya7 2 l6]) [0] [] .z) .z))⟩

def Zk1 (x26 : Int) (l27 : List Y9x) : Option (Int × List Y9x) := some (x26, l27)
def Zk2 (l12 : List Y9x) (x13 : Int) (x14 : Int) : Option ((List Y9x × Int × Int) ⊕ ((Int × List Y9x))) := cond (decide (x14 < (l12.length : Int))) ((getI l12 x14).bind fun e16 => (Zju e16.rooms x13).bind fun r19 => (getI (List.set l12 (Int.toNat x14) (Y9x.mk r19.2 e16.stream)) x14).bind fun e21 => (Zjz e21.stream r19.1).bind fun r24 => some (.inl ((List.set (List.set l12 (Int.toNat x14) (Y9x.mk r19.2 e16.stream)) (Int.toNat x14) (Y9x.mk e21.rooms r24.2)), r24.1, (IntKind.i64.wrap (x14 + 1))))) (some (.inr (x13, l12)))
def Zk3 (p0 : List Y9x) (p1 : Int) : Option (Int × List Y9x) := (iter (fun z28 => Zk2 z28.1 z28.2.1 z28.2.2) big (p0, p1, 0)).bind fun (y29, y30) => Zk1 y29 y30
theorem Zk4 {w00 : Value} (p0 : List Y9x) (p1 : Int) (r : Int × List Y9x) (h : Zk3 p0 p1 = some r) : Ok Tryz.prog 165 [cV w00, cI p1] [Obj.deep w00 83 Yaf Yag 2 p0] (fun c qs => c = cI r.1 ∧ qs = [Obj.deep w00 83 Yaf Yag 2 r.2]) := by
 refine Ok.of_body (rs := [.tmp 4]) Tryz.func165 rfl rfl rfl rfl rfl fun X => ?_
 unfold Zk3 at h
 refine AW.seq ?_
 refine AW.region ?_
 refine Ops.v rfl (Ys rfl rfl) ?_
 refine Ops.nil ?_
 refine AW.seq ?_
 refine AW.cut (τ := Int × List Y9x) (fun (x26, l27) => ⟨[(1, cI x26)], [Obj.deep w00 83 Yaf Yag 2 l27]⟩) (fun (x26, l27) => Zk1 x26 l27 = some r) ?_ ?_
 ·
  refine zw ?_
  refine ob' h fun o31 g32 q33 => ?_
  refine AW.loop (τ := List Y9x × Int × Int) (x := (p0, p1, 0)) (fun (l12, x13, x14) => ⟨[(0, cV w00), (1, cI x13), (5, cI x14)], [Obj.deep w00 83 Yaf Yag 2 l12]⟩) (fun k (l12, x13, x14) => iter (fun z28 => Zk2 z28.1 z28.2.1 z28.2.2) k (l12, x13, x14) = some o31) g32 (Y25.both (ns := [0]) rfl rfl) ?_
  rintro k ⟨l12, x13, x14⟩ i35
  refine Y4d (show iter (fun z28 => Zk2 z28.1 z28.2.1 z28.2.2) k (l12, x13, x14) = some o31 from i35) fun k34 y36 hlt_k34 h h37 => ?_
  replace h : Zk2 l12 x13 x14 = some y36 := h
  unfold Zk2 at h
  refine zw ?_
  refine Ops.v rfl (Y6a (p := 0) Yd9.h rfl rfl rfl) ?_
  refine zw ?_
  refine cnd h (fun hb15 h => ?_) fun hb15 h => ?_
  ·
   refine AW.ct hb15 rfl ?_
   refine zw ?_
   refine ob' h fun e16 g17 h => ?_
   refine Ops.v rfl (Y6c (p := 0) Yd9.h rfl rfl rfl g17 rfl) ?_
   refine Ops.v rfl (Y6d (p := 0) Ycz.h rfl rfl (Y2f g17).2.2 rfl) ?_
   refine Ops.take (p := 0) rfl (Y2f g17).2.2 fun q18 => ?_
   refine Ops.v rfl (Y6e (p := 2) Yd0.h rfl rfl (Y2f g17).2.2 rfl rfl) ?_
   refine zw ?_
   refine ob' h fun r19 g20 h => ?_
   refine Ops.hd (ns := [0]) rfl rfl (Y28 (Zjv e16.rooms x13 _ g20) rfl rfl) ?_
   refine Ops.ghost (Y25.back (x' := (Y9x.mk r19.2 e16.stream)) (ns := [2, 0, 0]) rfl (Y2f g17).2.2 rfl rfl) ?_
   refine zw ?_
   refine ob' h fun e21 g22 h => ?_
   refine Ops.v rfl (Y6c (p := 0) Yd9.h rfl rfl rfl g22 rfl) ?_
   refine Ops.v rfl (Y6d (p := 0) Yd1.h rfl rfl (Y2f g22).2.2 rfl) ?_
   refine Ops.take (p := 0) rfl (Y2f g22).2.2 fun q23 => ?_
   refine Ops.v rfl (Y6e (p := 2) Yd2.h rfl rfl (Y2f g22).2.2 rfl rfl) ?_
   refine zw ?_
   refine ob' h fun r24 g25 h => ?_
   refine Ops.hd (ns := [1]) rfl rfl (Y28 ((Zk0 e21.stream r19.1).h _ _ g25) rfl rfl) ?_
   refine Ops.ghost (Y25.back (x' := (Y9x.mk e21.rooms r24.2)) (ns := [2, 1, 0]) rfl (Y2f g22).2.2 rfl rfl) ?_
   refine zw ?_
   obtain rfl := Wj h
   exact ⟨k34, ((List.set (List.set l12 (Int.toNat x14) (Y9x.mk r19.2 e16.stream)) (Int.toNat x14) (Y9x.mk e21.rooms r24.2)), r24.1, (IntKind.i64.wrap (x14 + 1))), hlt_k34, h37, Y25.both (ns := [0]) rfl rfl⟩
  refine AW.cf hb15 rfl ?_
  refine AW.exit ?_
  obtain rfl := Wj h
  obtain rfl := Wj h37
  replace h := q33
  exact ⟨(x13, l12), h, Y25.both (ns := [0]) rfl rfl⟩
 rintro ⟨x26, l27⟩ h
 replace h : Zk1 x26 l27 = some r := h
 unfold Zk1 at h
 refine zw ?_
 refine AW.ret ?_
 rw [← Wj h]
 exact finI ⟨[cI x26], _, Y25.refl _, (.cons (.tmp rfl) .nil), [0], _, _, rfl, ⟨rfl, rfl⟩⟩
instance Zk5 (p0 : List Y9x) (p1 : Int) : SpO Tryz.prog 165 (Zk3 p0 p1) (.x fun (w00 : Value) => .d [cV w00, cI p1] [Obj.deep w00 83 Yaf Yag 2 p0] fun r => .d (cI r.1) [Obj.deep w00 83 Yaf Yag 2 r.2]) := ⟨fun w00 r h => Zk4 p0 p1 r h⟩

def Zk6 (x30 : Int) (l31 : List Y9u) : Option (Int × List Y9u) := some (x30, l31)
def Zk7 (l14 : List Y9u) (x15 : Int) (x16 : Int) : Option ((List Y9u × Int × Int) ⊕ ((Int × List Y9u))) := cond (decide (x16 < (l14.length : Int))) ((getI l14 x16).bind fun e18 => (getI (List.set l14 (Int.toNat x16) (Y9u.mk x15 e18.from_ e18.to_ e18.room e18.text)) x16).bind fun e20 => (getI (List.set (List.set l14 (Int.toNat x16) (Y9u.mk x15 e18.from_ e18.to_ e18.room e18.text)) (Int.toNat x16) (Y9u.mk e20.kind (IntKind.i64.wrap (x15 + 1)) e20.to_ e20.room e20.text)) x16).bind fun e22 => (getI (List.set (List.set (List.set l14 (Int.toNat x16) (Y9u.mk x15 e18.from_ e18.to_ e18.room e18.text)) (Int.toNat x16) (Y9u.mk e20.kind (IntKind.i64.wrap (x15 + 1)) e20.to_ e20.room e20.text)) (Int.toNat x16) (Y9u.mk e22.kind e22.from_ (IntKind.i64.wrap ((IntKind.i64.wrap (x15 + 1)) + 1)) e22.room e22.text)) x16).bind fun e24 => (Zjh (IntKind.i64.wrap ((IntKind.i64.wrap ((IntKind.i64.wrap ((IntKind.i64.wrap (x15 + 1)) + 1)) + 1)) + 1))).bind fun r26 => (getI (List.set (List.set (List.set (List.set l14 (Int.toNat x16) (Y9u.mk x15 e18.from_ e18.to_ e18.room e18.text)) (Int.toNat x16) (Y9u.mk e20.kind (IntKind.i64.wrap (x15 + 1)) e20.to_ e20.room e20.text)) (Int.toNat x16) (Y9u.mk e22.kind e22.from_ (IntKind.i64.wrap ((IntKind.i64.wrap (x15 + 1)) + 1)) e22.room e22.text)) (Int.toNat x16) (Y9u.mk e24.kind e24.from_ e24.to_ (IntKind.i64.wrap ((IntKind.i64.wrap ((IntKind.i64.wrap (x15 + 1)) + 1)) + 1)) e24.text)) x16).bind fun e28 => some (.inl ((List.set (List.set (List.set (List.set (List.set l14 (Int.toNat x16) (Y9u.mk x15 e18.from_ e18.to_ e18.room e18.text)) (Int.toNat x16) (Y9u.mk e20.kind (IntKind.i64.wrap (x15 + 1)) e20.to_ e20.room e20.text)) (Int.toNat x16) (Y9u.mk e22.kind e22.from_ (IntKind.i64.wrap ((IntKind.i64.wrap (x15 + 1)) + 1)) e22.room e22.text)) (Int.toNat x16) (Y9u.mk e24.kind e24.from_ e24.to_ (IntKind.i64.wrap ((IntKind.i64.wrap ((IntKind.i64.wrap (x15 + 1)) + 1)) + 1)) e24.text)) (Int.toNat x16) (Y9u.mk e28.kind e28.from_ e28.to_ e28.room r26)), (IntKind.i64.wrap ((IntKind.i64.wrap ((IntKind.i64.wrap ((IntKind.i64.wrap ((IntKind.i64.wrap (x15 + 1)) + 1)) + 1)) + 1)) + 1)), (IntKind.i64.wrap (x16 + 1))))) (some (.inr (x15, l14)))
def Zk8 (p0 : List Y9u) (p1 : Int) : Option (Int × List Y9u) := (iter (fun z32 => Zk7 z32.1 z32.2.1 z32.2.2) big (p0, p1, 0)).bind fun (y33, y34) => Zk6 y33 y34
instance Zk9 (p0 : List Y9u) (p1 : Int) : SpO Tryz.prog 166 (Zk8 p0 p1) (.x fun (w00 : Value) => .d [cV w00, cI p1] [oA w00 167 Ya8 5 p0] fun r => .d (cI r.1) [oA w00 167 Ya8 5 r.2]) := ⟨fun w00 => so Tryz.func166 rfl rfl fun r X h => gh (.q 1 (.c2 (fun x30 l31 => .d [(1, cI x30)] [oA w00 167 Ya8 5 l31]) [] [] (.l3 (fun l14 x15 x16 => .d [(1, cI x15), (5, cI x16)] [oA w00 167 Ya8 5 l14]) [0] [] .z) .z))⟩

def Zka (p0 : Y9y) (p1 : Int) : Option (Int × List Y9x × List Y9u) := (Zk3 p0.hubs p1).bind fun r2 => (Zk8 p0.letters r2.1).bind fun r4 => some (r4.1, r2.2, r4.2)
instance Zkb (p0 : Y9y) (p1 : Int) : SpO Tryz.prog 50 (Zka p0 p1) (.x fun (w00 : Value) => .x fun (w01 : Value) => .d [C.agg [cV w00, cV w01], cI p1] [Obj.deep w00 83 Yaf Yag 2 p0.hubs, oA w01 167 Ya8 5 p0.letters] fun r => .d (cI r.1) [Obj.deep w00 83 Yaf Yag 2 r.2.1, oA w01 167 Ya8 5 r.2.2]) := ⟨fun w00 w01 => so Tryz.func50 rfl rfl fun r X h => gh .z⟩

def Zkc (p0 : Ya2) (p1 : Int) : Option (Int × List Y9x × List Y9u) := (Zka p0.peers p1).bind fun r2 => some (r2.1, r2.2.1, r2.2.2)
instance Zkd (p0 : Ya2) (p1 : Int) : SpO Tryz.prog 51 (Zkc p0 p1) (.x fun (w00 : Value) => .x fun (w01 : Value) => .d [C.agg [cV w00, cV w01, cI p0.id, cI p0.code], cI p1] [Obj.deep w00 83 Yaf Yag 2 p0.peers.hubs, oA w01 167 Ya8 5 p0.peers.letters] fun r => .d (cI r.1) [Obj.deep w00 83 Yaf Yag 2 r.2.1, oA w01 167 Ya8 5 r.2.2]) := ⟨fun w00 w01 => so Tryz.func51 rfl rfl fun r X h => gh .z⟩

def Zke (x11 : Int) : Option Int := some x11
def Zkf (p0 : List Int) (x5 : Int) (x6 : Int) : Option ((Int × Int) ⊕ (Int ⊕ Int)) := cond (decide (x6 < (p0.length : Int))) ((getI p0 x6).bind fun e8 => cond (e8 != x5) (some (.inr (.inl (-1)))) (some (.inl ((IntKind.i64.wrap (x5 + 1)), (IntKind.i64.wrap (x6 + 1)))))) (some (.inr (.inr x5)))
def Zkg (p0 : List Int) (p1 : Int) : Option Int := (iter (fun z12 => Zkf p0 z12.1 z12.2) big (p1, 0)).bind (fun z15 => match z15 with | .inl y13 => some y13 | .inr y14 => Zke y14)
instance Zkh (p0 : List Int) (p1 : Int) : Sp Tryz.prog 401 [cM kI64 1 p0, cI p1] (Zkg p0 p1) (fun r => cI r) := Sp.of (so Tryz.func401 rfl rfl fun r X h => gh (.q 1 (.c1 (fun x11 => .d [(1, cI x11)] []) [] [] (.l2 (fun x5 x6 => .d [(1, cI x5), (5, cI x6)] []) [0] [] .z) .z)))

def Zki (x35 : Int) : Option Int := some x35
def Zkj (p0 : List Y9r) (x17 : Int) (x18 : Int) : Option ((Int × Int) ⊕ (Int ⊕ Int)) := cond (decide (x18 < (p0.length : Int))) ((getI p0 x18).bind fun e20 => cond (e20.id != x17) (some (.inr (.inl (-1)))) (cond (e20.room != (IntKind.i64.wrap (x17 + 1))) (some (.inr (.inl (-1)))) (cond (e20.author != (IntKind.i64.wrap ((IntKind.i64.wrap (x17 + 1)) + 1))) (some (.inr (.inl (-1)))) (cond (e20.kind != (IntKind.i64.wrap ((IntKind.i64.wrap ((IntKind.i64.wrap (x17 + 1)) + 1)) + 1))) (some (.inr (.inl (-1)))) (cond (e20.key != (IntKind.i64.wrap ((IntKind.i64.wrap ((IntKind.i64.wrap ((IntKind.i64.wrap (x17 + 1)) + 1)) + 1)) + 1))) (some (.inr (.inl (-1)))) (cond (e20.n != (IntKind.i64.wrap ((IntKind.i64.wrap ((IntKind.i64.wrap ((IntKind.i64.wrap ((IntKind.i64.wrap (x17 + 1)) + 1)) + 1)) + 1)) + 1))) (some (.inr (.inl (-1)))) ((Zjh (IntKind.i64.wrap ((IntKind.i64.wrap ((IntKind.i64.wrap ((IntKind.i64.wrap ((IntKind.i64.wrap ((IntKind.i64.wrap (x17 + 1)) + 1)) + 1)) + 1)) + 1)) + 1))).bind fun r28 => cond (e20.text.toList == r28.toList) ((Zkg e20.prev (IntKind.i64.wrap ((IntKind.i64.wrap ((IntKind.i64.wrap ((IntKind.i64.wrap ((IntKind.i64.wrap ((IntKind.i64.wrap ((IntKind.i64.wrap (x17 + 1)) + 1)) + 1)) + 1)) + 1)) + 1)) + 1))).bind fun r31 => cond (decide (r31 < 0)) (some (.inr (.inl (-1)))) (cond (e20.time != r31) (some (.inr (.inl (-1)))) (some (.inl ((IntKind.i64.wrap (r31 + 1)), (IntKind.i64.wrap (x18 + 1))))))) (some (.inr (.inl (-1))))))))))) (some (.inr (.inr x17)))
def Zkk (p0 : List Y9r) (p1 : Int) : Option Int := (iter (fun z36 => Zkj p0 z36.1 z36.2) big (p1, 0)).bind (fun z39 => match z39 with | .inl y37 => some y37 | .inr y38 => Zki y38)
instance Zkl (p0 : List Y9r) (p1 : Int) : Sp Tryz.prog 383 [cM Ya5 9 p0, cI p1] (Zkk p0 p1) (fun r => cI r) := Sp.of (so Tryz.func383 rfl rfl fun r X h => gh (.q 1 (.c1 (fun x35 => .d [(1, cI x35)] []) [] [] (.l2 (fun x17 x18 => .d [(1, cI x17), (5, cI x18)] []) [0] [] (.b (.b .z (.b .z (.b .z (.b .z (.b .z (.b .z (.r [] [4] [] [0,4,8,12,17,20,26,28] .z))))))) .z)) .z)))

def Zkm (x23 : Int) : Option Int := some x23
def Zkn (p0 : List Y9w) (x11 : Int) (x12 : Int) : Option ((Int × Int) ⊕ (Int ⊕ Int)) := cond (decide (x12 < (p0.length : Int))) ((getI p0 x12).bind fun e14 => cond (e14.room != x11) (some (.inr (.inl (-1)))) ((Zkk e14.events (IntKind.i64.wrap (x11 + 1))).bind fun r17 => cond (decide (r17 < 0)) (some (.inr (.inl (-1)))) ((Zkk e14.parked r17).bind fun r20 => cond (decide (r20 < 0)) (some (.inr (.inl (-1)))) (some (.inl (r20, (IntKind.i64.wrap (x12 + 1)))))))) (some (.inr (.inr x11)))
def Zko (p0 : List Y9w) (p1 : Int) : Option Int := (iter (fun z24 => Zkn p0 z24.1 z24.2) big (p1, 0)).bind (fun z27 => match z27 with | .inl y25 => some y25 | .inr y26 => Zkm y26)
instance Zkp (p0 : List Y9w) (p1 : Int) : Sp Tryz.prog 350 [cM Yab 3 p0, cI p1] (Zko p0 p1) (fun r => cI r) := Sp.of (so Tryz.func350 rfl rfl fun r X h => gh (.q 1 (.c1 (fun x23 => .d [(1, cI x23)] []) [] [] (.l2 (fun x11 x12 => .d [(1, cI x11), (5, cI x12)] []) [0] [] .z) .z)))

def Zkq (x13 : Int) : Option Int := some x13
def Zkr (p0 : List Y9t) (x6 : Int) (x7 : Int) : Option ((Int × Int) ⊕ (Int ⊕ Int)) := cond (decide (x7 < (p0.length : Int))) ((getI p0 x7).bind fun e9 => cond (e9.room != x6) (some (.inr (.inl (-1)))) (cond (e9.id != (IntKind.i64.wrap (x6 + 1))) (some (.inr (.inl (-1)))) (some (.inl ((IntKind.i64.wrap ((IntKind.i64.wrap (x6 + 1)) + 1)), (IntKind.i64.wrap (x7 + 1))))))) (some (.inr (.inr x6)))
def Zks (p0 : List Y9t) (p1 : Int) : Option Int := (iter (fun z14 => Zkr p0 z14.1 z14.2) big (p1, 0)).bind (fun z17 => match z17 with | .inl y15 => some y15 | .inr y16 => Zkq y16)
instance Zkt (p0 : List Y9t) (p1 : Int) : Sp Tryz.prog 61 [cM Ya7 2 p0, cI p1] (Zks p0 p1) (fun r => cI r) := Sp.of (so Tryz.func61 rfl rfl fun r X h => gh (.q 1 (.c1 (fun x13 => .d [(1, cI x13)] []) [] [] (.l2 (fun x6 x7 => .d [(1, cI x6), (5, cI x7)] []) [0] [] .z) .z)))

def Zku (x21 : Int) : Option Int := some x21
def Zkv (p0 : List Y9x) (x10 : Int) (x11 : Int) : Option ((Int × Int) ⊕ (Int ⊕ Int)) := cond (decide (x11 < (p0.length : Int))) ((getI p0 x11).bind fun e13 => (Zko e13.rooms x10).bind fun r15 => cond (decide (r15 < 0)) (some (.inr (.inl (-1)))) ((Zks e13.stream r15).bind fun r18 => cond (decide (r18 < 0)) (some (.inr (.inl (-1)))) (some (.inl (r18, (IntKind.i64.wrap (x11 + 1))))))) (some (.inr (.inr x10)))
def Zkw (p0 : List Y9x) (p1 : Int) : Option Int := (iter (fun z22 => Zkv p0 z22.1 z22.2) big (p1, 0)).bind (fun z25 => match z25 with | .inl y23 => some y23 | .inr y24 => Zku y24)
instance Zkx (p0 : List Y9x) (p1 : Int) : Sp Tryz.prog 279 [cM Yae 2 p0, cI p1] (Zkw p0 p1) (fun r => cI r) := Sp.of (so Tryz.func279 rfl rfl fun r X h => gh (.q 1 (.c1 (fun x21 => .d [(1, cI x21)] []) [] [] (.l2 (fun x10 x11 => .d [(1, cI x10), (5, cI x11)] []) [0] [] .z) .z)))

def Zky (x23 : Int) : Option Int := some x23
def Zkz (p0 : List Y9u) (x11 : Int) (x12 : Int) : Option ((Int × Int) ⊕ (Int ⊕ Int)) := cond (decide (x12 < (p0.length : Int))) ((getI p0 x12).bind fun e14 => cond (e14.kind != x11) (some (.inr (.inl (-1)))) (cond (e14.from_ != (IntKind.i64.wrap (x11 + 1))) (some (.inr (.inl (-1)))) (cond (e14.to_ != (IntKind.i64.wrap ((IntKind.i64.wrap (x11 + 1)) + 1))) (some (.inr (.inl (-1)))) (cond (e14.room != (IntKind.i64.wrap ((IntKind.i64.wrap ((IntKind.i64.wrap (x11 + 1)) + 1)) + 1))) (some (.inr (.inl (-1)))) ((Zjh (IntKind.i64.wrap ((IntKind.i64.wrap ((IntKind.i64.wrap ((IntKind.i64.wrap (x11 + 1)) + 1)) + 1)) + 1))).bind fun r20 => cond (e14.text.toList == r20.toList) (some (.inl ((IntKind.i64.wrap ((IntKind.i64.wrap ((IntKind.i64.wrap ((IntKind.i64.wrap ((IntKind.i64.wrap (x11 + 1)) + 1)) + 1)) + 1)) + 1)), (IntKind.i64.wrap (x12 + 1))))) (some (.inr (.inl (-1))))))))) (some (.inr (.inr x11)))
def Zl0 (p0 : List Y9u) (p1 : Int) : Option Int := (iter (fun z24 => Zkz p0 z24.1 z24.2) big (p1, 0)).bind (fun z27 => match z27 with | .inl y25 => some y25 | .inr y26 => Zky y26)
instance Zl1 (p0 : List Y9u) (p1 : Int) : Sp Tryz.prog 280 [cM Ya8 5 p0, cI p1] (Zl0 p0 p1) (fun r => cI r) := Sp.of (so Tryz.func280 rfl rfl fun r X h => gh (.q 1 (.c1 (fun x23 => .d [(1, cI x23)] []) [] [] (.l2 (fun x11 x12 => .d [(1, cI x11), (5, cI x12)] []) [0] [] (.b (.b .z (.b .z (.b .z (.b .z (.r [] [4] [] [0,4,8,12,17,20,26,28] .z))))) .z)) .z)))

def Zl2 (p0 : Y9y) (p1 : Int) : Option Int := (Zkw p0.hubs p1).bind fun r2 => cond (decide (r2 < 0)) (some (-1)) ((Zl0 p0.letters r2).bind fun r5 => cond (decide (r5 < 0)) (some (-1)) (some r5))
instance Zl3 (p0 : Y9y) (p1 : Int) : Sp Tryz.prog 167 [C.agg [cM Yae 2 p0.hubs, cM Ya8 5 p0.letters], cI p1] (Zl2 p0 p1) (fun r => cI r) := Sp.of (so Tryz.func167 rfl rfl fun r X h => gh .z)

def Zl4 (p0 : Ya2) (p1 : Int) : Option Int := (Zl2 p0.peers p1).bind fun r2 => cond (decide (r2 < 0)) (some (-1)) (some r2)
instance Zl5 (p0 : Ya2) (p1 : Int) : Sp Tryz.prog 52 [C.agg [cM Yae 2 p0.peers.hubs, cM Ya8 5 p0.peers.letters, cI p0.id, cI p0.code], cI p1] (Zl4 p0 p1) (fun r => cI r) := Sp.of (so Tryz.func52 rfl rfl fun r X h => gh .z)

def Zl6 (p0 : Y9v) (p1 : Int) (r7 : Ya2) (r15 : Ya2) (x47 : Bool) : Option Bool := cond x47 (some false) ((Zkc r15 1).bind fun r49 => (Zl4 (Ya2.mk (Y9y.mk r49.2.1 r49.2.2) r15.id r15.code) 1).bind fun r51 => cond (decide (r51 < 0)) (some false) (cond (r51 != r49.1) (some false) ((Z1w p0).bind fun r55 => (Zib r55 p1).bind fun r57 => (Zjd r57 r7).bind fun r60 => cond r60 ((Zl4 (Ya2.mk (Y9y.mk r49.2.1 r49.2.2) r15.id r15.code) 1).bind fun r63 => cond (decide (r63 < 0)) (some false) (cond (r63 != r49.1) (some false) (some true))) (some false))))
def Zl7 (p0 : Y9v) (p1 : Int) : Option Bool := (Zt p0 1048576).bind fun r2 => cond (decide (r2 < 0)) (some true) ((Z1w p0).bind fun r5 => (Z8q r5 p1).bind fun r7 => (Z1w p0).bind fun r10 => (Zib r10 p1).bind fun r15 => (Zjd r15 r7).bind fun r22 => cond r22 ((Z1w p0).bind fun r37 => (Zjb r10 r37).bind fun r39 => cond r39 ((Zka r10 1).bind fun r42 => cond (decide (r42.1 < 0)) (Zl6 p0 p1 r7 r15 true) ((Zjd r15 r7).bind fun r45 => Zl6 p0 p1 r7 r15 (!r45))) (some false)) (some false))
instance Zl8 (p0 : Y9v) (p1 : Int) : Sp Tryz.prog 5 [C.agg [cM kHub 2 p0.hubs, cM Ya8 5 p0.letters], cI p1] (Zl7 p0 p1) (fun r => C.bool r) := Sp.of (so Tryz.func5 rfl rfl fun r X h => gh (.b .z (.p (.k (.k (.b (.r [0,0,0,2,2,2] [0,1] [] [1,5,10,14,16] (.b (.q 3 (.c1 (fun x47 => .d [(46, C.bool x47)] []) [1,2,6,8] [7,6,4,2,3] .z .z)) .z)) .z))))))

end Go.Proofs.YtmaefakalikkiaaGreat
