/- Printed by gen.py: plain functions for Go functions, and that the walks keep to them. -/
import Derived.Test.YtnoknphekhclcaaGreatBQ5
set_option autoImplicit false
set_option linter.unusedVariables false
set_option linter.unusedSimpArgs false
set_option maxHeartbeats 8000000
set_option maxRecDepth 100000
namespace Go.Proofs.YtnoknphekhclcaaGreat
open Go Go.Abs
attribute [local irreducible] AW Ops OpsD Y3z VoK HoK GhF UsC Go.Abs.Fin PkK LenT LenL Y9q BldK FzK FzLK
def Zlv (p0 : Yah) (p1 : Int) : Option (Int × List Yag × List Yad) := (Zlo p0.hubs p1).bind fun r2 => (Zlt p0.letters r2.1).bind fun r4 => some (r4.1, r2.2, r4.2)
instance Zlw (p0 : Yah) (p1 : Int) : SpO Tryz.prog 12 (Zlv p0 p1) (.x fun (w00 : Value) => .x fun (w01 : Value) => .d [C.agg [cV w00, cV w01], cI p1] [Obj.deep w00 86 Yaz Yb0 2 p0.hubs, oA w01 60 Yas 5 p0.letters] fun r => .d (cI r.1) [Obj.deep w00 86 Yaz Yb0 2 r.2.1, oA w01 60 Yas 5 r.2.2]) := ⟨fun w00 w01 => so Tryz.func12 rfl rfl fun r X h => gh .z⟩

def Zlx (p0 : Yal) (p1 : Int) : Option (Int × List Yag × List Yad) := (Zlv p0.peers p1).bind fun r2 => some (r2.1, r2.2.1, r2.2.2)
instance Zly (p0 : Yal) (p1 : Int) : SpO Tryz.prog 13 (Zlx p0 p1) (.x fun (w00 : Value) => .x fun (w01 : Value) => .d [C.agg [cV w00, cV w01, cI p0.id, cI p0.code], cI p1] [Obj.deep w00 86 Yaz Yb0 2 p0.peers.hubs, oA w01 60 Yas 5 p0.peers.letters] fun r => .d (cI r.1) [Obj.deep w00 86 Yaz Yb0 2 r.2.1, oA w01 60 Yas 5 r.2.2]) := ⟨fun w00 w01 => so Tryz.func13 rfl rfl fun r X h => gh .z⟩

def Zlz (x11 : Int) : Option Int := some x11
def Zm0 (p0 : List Int) (x5 : Int) (x6 : Int) : Option ((Int × Int) ⊕ (Int ⊕ Int)) := cond (decide (x6 < (p0.length : Int))) ((getI p0 x6).bind fun e8 => cond (e8 != x5) (some (.inr (.inl (-1)))) (some (.inl ((IntKind.i64.wrap (x5 + 1)), (IntKind.i64.wrap (x6 + 1)))))) (some (.inr (.inr x5)))
def Zm1 (p0 : List Int) (p1 : Int) : Option Int := (iter (fun z12 => Zm0 p0 z12.1 z12.2) big (p1, 0)).bind (fun z15 => match z15 with | .inl y13 => some y13 | .inr y14 => Zlz y14)
instance Zm2 (p0 : List Int) (p1 : Int) : Sp Tryz.prog 263 [cM kI64 1 p0, cI p1] (Zm1 p0 p1) (fun r => cI r) := Sp.of (so Tryz.func263 rfl rfl fun r X h => gh (.q 1 (.c1 (fun x11 => .d [(1, cI x11)] []) [] [] (.l2 (fun x5 x6 => .d [(1, cI x5), (5, cI x6)] []) [0] [] .z) .z)))

def Zm3 (x35 : Int) : Option Int := some x35
def Zm4 (p0 : List Yaa) (x17 : Int) (x18 : Int) : Option ((Int × Int) ⊕ (Int ⊕ Int)) := cond (decide (x18 < (p0.length : Int))) ((getI p0 x18).bind fun e20 => cond (e20.id != x17) (some (.inr (.inl (-1)))) (cond (e20.room != (IntKind.i64.wrap (x17 + 1))) (some (.inr (.inl (-1)))) (cond (e20.author != (IntKind.i64.wrap ((IntKind.i64.wrap (x17 + 1)) + 1))) (some (.inr (.inl (-1)))) (cond (e20.kind != (IntKind.i64.wrap ((IntKind.i64.wrap ((IntKind.i64.wrap (x17 + 1)) + 1)) + 1))) (some (.inr (.inl (-1)))) (cond (e20.key != (IntKind.i64.wrap ((IntKind.i64.wrap ((IntKind.i64.wrap ((IntKind.i64.wrap (x17 + 1)) + 1)) + 1)) + 1))) (some (.inr (.inl (-1)))) (cond (e20.n != (IntKind.i64.wrap ((IntKind.i64.wrap ((IntKind.i64.wrap ((IntKind.i64.wrap ((IntKind.i64.wrap (x17 + 1)) + 1)) + 1)) + 1)) + 1))) (some (.inr (.inl (-1)))) ((Zl2 (IntKind.i64.wrap ((IntKind.i64.wrap ((IntKind.i64.wrap ((IntKind.i64.wrap ((IntKind.i64.wrap ((IntKind.i64.wrap (x17 + 1)) + 1)) + 1)) + 1)) + 1)) + 1))).bind fun r28 => cond (e20.text.toList == r28.toList) ((Zm1 e20.prev (IntKind.i64.wrap ((IntKind.i64.wrap ((IntKind.i64.wrap ((IntKind.i64.wrap ((IntKind.i64.wrap ((IntKind.i64.wrap ((IntKind.i64.wrap (x17 + 1)) + 1)) + 1)) + 1)) + 1)) + 1)) + 1))).bind fun r31 => cond (decide (r31 < 0)) (some (.inr (.inl (-1)))) (cond (e20.time != r31) (some (.inr (.inl (-1)))) (some (.inl ((IntKind.i64.wrap (r31 + 1)), (IntKind.i64.wrap (x18 + 1))))))) (some (.inr (.inl (-1))))))))))) (some (.inr (.inr x17)))
def Zm5 (p0 : List Yaa) (p1 : Int) : Option Int := (iter (fun z36 => Zm4 p0 z36.1 z36.2) big (p1, 0)).bind (fun z39 => match z39 with | .inl y37 => some y37 | .inr y38 => Zm3 y38)
instance Zm6 (p0 : List Yaa) (p1 : Int) : Sp Tryz.prog 209 [cM Yap 9 p0, cI p1] (Zm5 p0 p1) (fun r => cI r) := Sp.of (so Tryz.func209 rfl rfl fun r X h => gh (.q 1 (.c1 (fun x35 => .d [(1, cI x35)] []) [] [] (.l2 (fun x17 x18 => .d [(1, cI x17), (5, cI x18)] []) [0] [] (.b (.b .z (.b .z (.b .z (.b .z (.b .z (.b .z (.r [] [4] [] [0,4,8,12,17,20,26,28] .z))))))) .z)) .z)))

def Zm7 (x23 : Int) : Option Int := some x23
def Zm8 (p0 : List Yaf) (x11 : Int) (x12 : Int) : Option ((Int × Int) ⊕ (Int ⊕ Int)) := cond (decide (x12 < (p0.length : Int))) ((getI p0 x12).bind fun e14 => cond (e14.room != x11) (some (.inr (.inl (-1)))) ((Zm5 e14.events (IntKind.i64.wrap (x11 + 1))).bind fun r17 => cond (decide (r17 < 0)) (some (.inr (.inl (-1)))) ((Zm5 e14.parked r17).bind fun r20 => cond (decide (r20 < 0)) (some (.inr (.inl (-1)))) (some (.inl (r20, (IntKind.i64.wrap (x12 + 1)))))))) (some (.inr (.inr x11)))
def Zm9 (p0 : List Yaf) (p1 : Int) : Option Int := (iter (fun z24 => Zm8 p0 z24.1 z24.2) big (p1, 0)).bind (fun z27 => match z27 with | .inl y25 => some y25 | .inr y26 => Zm7 y26)
instance Zma (p0 : List Yaf) (p1 : Int) : Sp Tryz.prog 134 [cM Yav 3 p0, cI p1] (Zm9 p0 p1) (fun r => cI r) := Sp.of (so Tryz.func134 rfl rfl fun r X h => gh (.q 1 (.c1 (fun x23 => .d [(1, cI x23)] []) [] [] (.l2 (fun x11 x12 => .d [(1, cI x11), (5, cI x12)] []) [0] [] .z) .z)))

def Zmb (x13 : Int) : Option Int := some x13
def Zmc (p0 : List Yac) (x6 : Int) (x7 : Int) : Option ((Int × Int) ⊕ (Int ⊕ Int)) := cond (decide (x7 < (p0.length : Int))) ((getI p0 x7).bind fun e9 => cond (e9.room != x6) (some (.inr (.inl (-1)))) (cond (e9.id != (IntKind.i64.wrap (x6 + 1))) (some (.inr (.inl (-1)))) (some (.inl ((IntKind.i64.wrap ((IntKind.i64.wrap (x6 + 1)) + 1)), (IntKind.i64.wrap (x7 + 1))))))) (some (.inr (.inr x6)))
def Zmd (p0 : List Yac) (p1 : Int) : Option Int := (iter (fun z14 => Zmc p0 z14.1 z14.2) big (p1, 0)).bind (fun z17 => match z17 with | .inl y15 => some y15 | .inr y16 => Zmb y16)
instance Zme (p0 : List Yac) (p1 : Int) : Sp Tryz.prog 135 [cM Yar 2 p0, cI p1] (Zmd p0 p1) (fun r => cI r) := Sp.of (so Tryz.func135 rfl rfl fun r X h => gh (.q 1 (.c1 (fun x13 => .d [(1, cI x13)] []) [] [] (.l2 (fun x6 x7 => .d [(1, cI x6), (5, cI x7)] []) [0] [] .z) .z)))

def Zmf (x21 : Int) : Option Int := some x21
def Zmg (p0 : List Yag) (x10 : Int) (x11 : Int) : Option ((Int × Int) ⊕ (Int ⊕ Int)) := cond (decide (x11 < (p0.length : Int))) ((getI p0 x11).bind fun e13 => (Zm9 e13.rooms x10).bind fun r15 => cond (decide (r15 < 0)) (some (.inr (.inl (-1)))) ((Zmd e13.stream r15).bind fun r18 => cond (decide (r18 < 0)) (some (.inr (.inl (-1)))) (some (.inl (r18, (IntKind.i64.wrap (x11 + 1))))))) (some (.inr (.inr x10)))
def Zmh (p0 : List Yag) (p1 : Int) : Option Int := (iter (fun z22 => Zmg p0 z22.1 z22.2) big (p1, 0)).bind (fun z25 => match z25 with | .inl y23 => some y23 | .inr y24 => Zmf y24)
instance Zmi (p0 : List Yag) (p1 : Int) : Sp Tryz.prog 80 [cM Yay 2 p0, cI p1] (Zmh p0 p1) (fun r => cI r) := Sp.of (so Tryz.func80 rfl rfl fun r X h => gh (.q 1 (.c1 (fun x21 => .d [(1, cI x21)] []) [] [] (.l2 (fun x10 x11 => .d [(1, cI x10), (5, cI x11)] []) [0] [] .z) .z)))

def Zmj (x23 : Int) : Option Int := some x23
def Zmk (p0 : List Yad) (x11 : Int) (x12 : Int) : Option ((Int × Int) ⊕ (Int ⊕ Int)) := cond (decide (x12 < (p0.length : Int))) ((getI p0 x12).bind fun e14 => cond (e14.kind != x11) (some (.inr (.inl (-1)))) (cond (e14.from_ != (IntKind.i64.wrap (x11 + 1))) (some (.inr (.inl (-1)))) (cond (e14.to_ != (IntKind.i64.wrap ((IntKind.i64.wrap (x11 + 1)) + 1))) (some (.inr (.inl (-1)))) (cond (e14.room != (IntKind.i64.wrap ((IntKind.i64.wrap ((IntKind.i64.wrap (x11 + 1)) + 1)) + 1))) (some (.inr (.inl (-1)))) ((Zl2 (IntKind.i64.wrap ((IntKind.i64.wrap ((IntKind.i64.wrap ((IntKind.i64.wrap (x11 + 1)) + 1)) + 1)) + 1))).bind fun r20 => cond (e14.text.toList == r20.toList) (some (.inl ((IntKind.i64.wrap ((IntKind.i64.wrap ((IntKind.i64.wrap ((IntKind.i64.wrap ((IntKind.i64.wrap (x11 + 1)) + 1)) + 1)) + 1)) + 1)), (IntKind.i64.wrap (x12 + 1))))) (some (.inr (.inl (-1))))))))) (some (.inr (.inr x11)))
def Zml (p0 : List Yad) (p1 : Int) : Option Int := (iter (fun z24 => Zmk p0 z24.1 z24.2) big (p1, 0)).bind (fun z27 => match z27 with | .inl y25 => some y25 | .inr y26 => Zmj y26)
instance Zmm (p0 : List Yad) (p1 : Int) : Sp Tryz.prog 81 [cM Yas 5 p0, cI p1] (Zml p0 p1) (fun r => cI r) := Sp.of (so Tryz.func81 rfl rfl fun r X h => gh (.q 1 (.c1 (fun x23 => .d [(1, cI x23)] []) [] [] (.l2 (fun x11 x12 => .d [(1, cI x11), (5, cI x12)] []) [0] [] (.b (.b .z (.b .z (.b .z (.b .z (.r [] [4] [] [0,4,8,12,17,20,26,28] .z))))) .z)) .z)))

def Zmn (p0 : Yah) (p1 : Int) : Option Int := (Zmh p0.hubs p1).bind fun r2 => cond (decide (r2 < 0)) (some (-1)) ((Zml p0.letters r2).bind fun r5 => cond (decide (r5 < 0)) (some (-1)) (some r5))
instance Zmo (p0 : Yah) (p1 : Int) : Sp Tryz.prog 43 [C.agg [cM Yay 2 p0.hubs, cM Yas 5 p0.letters], cI p1] (Zmn p0 p1) (fun r => cI r) := Sp.of (so Tryz.func43 rfl rfl fun r X h => gh .z)

def Zmp (p0 : Yal) (p1 : Int) : Option Int := (Zmn p0.peers p1).bind fun r2 => cond (decide (r2 < 0)) (some (-1)) (some r2)
instance Zmq (p0 : Yal) (p1 : Int) : Sp Tryz.prog 14 [C.agg [cM Yay 2 p0.peers.hubs, cM Yas 5 p0.peers.letters, cI p0.id, cI p0.code], cI p1] (Zmp p0 p1) (fun r => cI r) := Sp.of (so Tryz.func14 rfl rfl fun r X h => gh .z)

def Zmr (p0 : Yae) (p1 : Int) (p2 : Int) (p3 : Int) (r7 : Yal) (r15 : Yal) (x47 : Bool) : Option Bool := cond x47 (some false) ((Zlx r15 1).bind fun r49 => (Zmp (Yal.mk (Yah.mk r49.2.1 r49.2.2) r15.id r15.code) 1).bind fun r51 => cond (decide (r51 < 0)) (some false) (cond (r51 != r49.1) (some false) ((Z1w p0).bind fun r55 => (Zjw r55 p1 p2 p3).bind fun r57 => (Zky r57 r7).bind fun r60 => cond r60 ((Zmp (Yal.mk (Yah.mk r49.2.1 r49.2.2) r15.id r15.code) 1).bind fun r63 => cond (decide (r63 < 0)) (some false) (cond (r63 != r49.1) (some false) (some true))) (some false))))
def Zms (p0 : Yae) (p1 : Int) (p2 : Int) (p3 : Int) : Option Bool := (Zt p0 1048576).bind fun r2 => cond (decide (r2 < 0)) (some true) ((Z1w p0).bind fun r5 => (Z9g r5 p1 p2 p3).bind fun r7 => (Z1w p0).bind fun r10 => (Zjw r10 p1 p2 p3).bind fun r15 => (Zky r15 r7).bind fun r22 => cond r22 ((Z1w p0).bind fun r37 => (Zkw r10 r37).bind fun r39 => cond r39 ((Zlv r10 1).bind fun r42 => cond (decide (r42.1 < 0)) (Zmr p0 p1 p2 p3 r7 r15 true) ((Zky r15 r7).bind fun r45 => Zmr p0 p1 p2 p3 r7 r15 (!r45))) (some false)) (some false))
instance Zmt (p0 : Yae) (p1 : Int) (p2 : Int) (p3 : Int) : Sp Tryz.prog 3 [C.agg [cM kHub 2 p0.hubs, cM Yas 5 p0.letters], cI p1, cI p2, cI p3] (Zms p0 p1 p2 p3) (fun r => C.bool r) := Sp.of (so Tryz.func3 rfl rfl fun r X h => gh (.b .z (.p (.k (.k (.b (.r [0,0,0,2,2,2] [0,1] [] [1,5,10,14,16] (.b (.q 3 (.c1 (fun x47 => .d [(54, C.bool x47)] []) [1,2,3,4,10,12] [7,6,4,2,3] .z .z)) .z)) .z))))))

end Go.Proofs.YtnoknphekhclcaaGreat
