/- Printed by gen.py: plain functions for Go functions, and that the walks keep to them. -/
import Derived.Test.YtnoknphekhclcaaGreatBQ2
set_option autoImplicit false
set_option linter.unusedVariables false
set_option linter.unusedSimpArgs false
set_option maxHeartbeats 8000000
set_option maxRecDepth 100000
namespace Go.Proofs.YtnoknphekhclcaaGreat
open Go Go.Abs
attribute [local irreducible] AW Ops OpsD Y3z VoK HoK GhF UsC Go.Abs.Fin PkK LenT LenL Y9q BldK FzK FzLK
def Z8y : Option Bool := some true
def Z8z (x16 : Int) (x29 : Bool) : Option (Int ⊕ (Bool ⊕ Unit)) := cond x29 (some (.inr (.inl false))) (some (.inl (IntKind.i64.wrap (x16 + 1))))
def Z90 (p0 : List Yam) (x16 : Int) : Option (Int ⊕ (Bool ⊕ Unit)) := cond (decide (x16 < (p0.length : Int))) ((getI p0 x16).bind fun e18 => (Z21 e18.from_).bind fun r20 => cond r20 ((Z1z e18.to_ e18.from_ 1000000).bind fun r23 => cond r23 (cond (decide (x16 > 0)) ((getI p0 (IntKind.i64.wrap (x16 - 1))).bind fun e27 => Z8z x16 (decide (e18.from_ < (IntKind.i64.wrap (e27.to_ + 2))))) (Z8z x16 false)) (Z8z x16 true)) (Z8z x16 true)) (some (.inr (.inr ())))
def Z91 (p0 : List Yam) : Option Bool := cond (decide ((p0.length : Int) > 400)) (some false) ((iter (Z90 p0) big 0).bind (fun z32 => match z32 with | .inl y31 => some y31 | .inr () => Z8y))
instance Z92 (p0 : List Yam) : Sp Tryz.prog 111 [cM Yb7 2 p0] (Z91 p0) (fun r => C.bool r) := Sp.of (so Tryz.func111 rfl rfl fun r X h => gh (.b .z (.c0 (.d [] []) [] [] (.l1 (fun x16 => .d [(3, cI x16)] []) [0] [] (.b (.q 1 (.c1 (fun x29 => .d [(52, C.bool x29)] []) [0,3] [] (.r [] [4,12,17,29,35] [] [0,4,8,12,17,22,24,28,32,36,40,44,49,52,56,60,64,69,74,76,80,84,88,92,96,100,104,108,112,117,120,124,128,132,136,141,144,148,152,156] .z) .z)) .z)) .z)))

def Z93 (p0 : Int) : Option Int := cond (decide (p0 < 0)) (some (IntKind.u64.wrap ((IntKind.u64.wrap (2 * (IntKind.u64.wrap (IntKind.i64.wrap (0 - (IntKind.i64.wrap (p0 + 1))))))) + 1))) (some (IntKind.u64.wrap (2 * (IntKind.u64.wrap p0))))
instance Z94 (p0 : Int) : Sp Tryz.prog 192 [cI p0] (Z93 p0) (fun r => cV (.int .u64 r)) := Sp.of (so Tryz.func192 rfl rfl fun r X h => gh .z)

def Z95 (x17 : Int) (l19 : List Int) : Option ByteArray := (chk (decide ((l19.length + [(IntKind.u8.wrap x17)].length) * 1 ≤ 140737488355328))).bind fun u22 => some (Y7f (l19 ++ [(IntKind.u8.wrap x17)]))
def Z96 (x9 : Int) (l11 : List Int) : Option ((Int × List Int) ⊕ ((Int × List Int))) := cond (decide (x9 ≥ 128)) ((chk (decide ((l11.length + [(IntKind.u8.wrap (IntKind.u64.wrap ((Int.tmod x9 128) + 128)))].length) * 1 ≤ 140737488355328))).bind fun u15 => some (.inl ((IntKind.u64.wrap (Int.tdiv x9 128)), (l11 ++ [(IntKind.u8.wrap (IntKind.u64.wrap ((Int.tmod x9 128) + 128)))])))) (some (.inr (x9, l11)))
def Z97 (p0 : Int) : Option ByteArray := (Z93 p0).bind fun r1 => (iter (fun z24 => Z96 z24.1 z24.2) big (r1, ([] : List Int))).bind fun (y25, y26) => Z95 y25 y26
instance Z98 (p0 : Int) : Sp Tryz.prog 112 [cI p0] (Z97 p0) (fun r => C.str r) := Sp.of (so Tryz.func112 rfl rfl fun r X h => gh (.q 3 (.c2 (fun x17 l19 => .x fun v18 => .d [(3, cV (.int .u64 x17)), (4, cV v18)] [oA v18 5 kU8 1 l19]) [] [] (.l2 (fun x9 l11 => .x fun v10 => .d [(3, cV (.int .u64 x9)), (4, cV v10)] [oA v10 5 kU8 1 l11]) [] [] .z) .z)))

def Z99 (l66 : List Int) : Option ByteArray := cond (decide ((l66.length : Int) > 8000)) (some ByteArray.empty) (some (Y7f l66))
def Z9a (p0 : List Yam) (l36 : List Int) (x37 : Int) (x38 : Int) : Option ((List Int × Int × Int) ⊕ ((List Int))) := cond (decide (x38 < (p0.length : Int))) ((getI p0 x38).bind fun e54 => (Z97 (IntKind.i64.wrap (e54.from_ - x37))).bind fun r56 => (Z97 (IntKind.i64.wrap (e54.to_ - e54.from_))).bind fun r58 => (chk (decide (r56.size + r58.size ≤ 9223372036854775807))).bind fun u61 => (chk (decide (l36.length + (r56 ++ r58).size ≤ 140737488355328))).bind fun u63 => some (.inl ((l36 ++ Y9v (r56 ++ r58)), e54.to_, (IntKind.i64.wrap (x38 + 1))))) (some (.inr l36))
def Z9b (p0 : List Yam) : Option ByteArray := (Z91 p0).bind fun r1 => cond r1 ((Z97 (p0.length : Int)).bind fun r4 => (chk (decide (r4.size ≤ 140737488355328))).bind fun u7 => (iter (fun z68 => Z9a p0 z68.1 z68.2.1 z68.2.2) big ((Y9v r4), 0, 0)).bind fun y69 => Z99 y69) (some ByteArray.empty)
instance Z9c (p0 : List Yam) : Sp Tryz.prog 62 [cM Yb7 2 p0] (Z9b p0) C.str := sp Tryz.func62 rfl rfl fun r X h => by
 unfold Z9b at h
 refine zw ?_
 refine oc h fun r1 g2 h => ?_
 refine zw ?_
 refine cnd h (fun hb3 h => ?_) fun hb3 h => ?_
 ·
  refine AW.cond rfl (fun hn => absurd ((Y46 hb3).symm.trans hn) (by decide)) (fun _ => ?_)
  refine zw ?_
  refine oc h fun r4 g5 h => ?_
  refine ob' h fun u7 c6 h => ?_
  refine Ops.h (ns := []) rfl rfl (Ya4 un_9 Yfx rfl (Wo (Y45 c6)) rfl) ?_
  rintro _ _ ⟨v8, rfl, rfl⟩
  refine Ops.v rfl (Ys rfl rfl) ?_
  refine Ops.nil ?_
  refine AW.seq ?_
  refine AW.region ?_
  refine Ops.v rfl (Ys rfl rfl) ?_
  refine Ops.nil ?_
  refine AW.seq ?_
  refine AW.cut (τ := List Int × Value) (fun (l66, v65) => ⟨[(3, cV v65)], [Obj.bys v65 5 l66]⟩) (fun (l66, v65) => Z99 l66 = some r) ?_ ?_
  ·
   refine zw ?_
   refine ob' h fun o70 g71 q72 => ?_
   refine AW.loop (τ := List Int × Int × Int × Value) (x := ((Y9v r4), 0, 0, v8)) (fun (l36, x37, x38, v35) => ⟨[(0, cM Yb7 2 p0), (3, cV v35), (4, cI x37), (5, cI x38)], [Obj.bys v35 5 l36]⟩) (fun k (l36, x37, x38, v35) => iter (fun z68 => Z9a p0 z68.1 z68.2.1 z68.2.2) k (l36, x37, x38) = some o70) g71 (Y25.both (ns := [0]) rfl rfl) ?_
   rintro k ⟨l36, x37, x38, v35⟩ i74
   refine Y4f (show iter (fun z68 => Z9a p0 z68.1 z68.2.1 z68.2.2) k (l36, x37, x38) = some o70 from i74) fun k73 y75 hlt_k73 h h76 => ?_
   replace h : Z9a p0 l36 x37 x38 = some y75 := h
   unfold Z9a at h
   refine zw ?_
   refine cnd h (fun hb39 h => ?_) fun hb39 h => ?_
   ·
    refine AW.ct hb39 rfl ?_
    refine zw ?_
    refine rD [] [5,13,18] [] [0,4,8,12,16,21,24,28,36,40,44,48,53,56,60,64,68,73,76,34,82,84,90,92] ?_
    refine zw ?_
    refine di h fun e54 g55 h => ?_
    refine zw ?_
    refine dc h fun r56 g57 h => ?_
    refine zw ?_
    refine dc h fun r58 g59 h => ?_
    refine ob' h fun u61 c60 h => ?_
    refine OpsD.v rfl rfl (Y7k rfl rfl (Wo (Y45 c60)) rfl) ?_
    refine zw ?_
    refine ob' h fun u63 c62 h => ?_
    refine Y3z.h (ns := [0]) rfl rfl rfl (Ya3 Yfx un_9 rfl rfl (Wo (Y45 c62)) rfl) ?_
    rintro _ _ ⟨v64, rfl, rfl⟩
    refine zw ?_
    obtain rfl := Wj h
    exact ⟨k73, ((l36 ++ Y9v (r56 ++ r58)), e54.to_, (IntKind.i64.wrap (x38 + 1)), v64), hlt_k73, h76, Y25.both (ns := [0]) rfl rfl⟩
   refine AW.cf hb39 rfl ?_
   refine AW.exit ?_
   obtain rfl := Wj h
   obtain rfl := Wj h76
   replace h := q72
   exact ⟨(l36, v35), h, Y25.both (ns := [0]) rfl rfl⟩
  rintro ⟨l66, v65⟩ h
  replace h : Z99 l66 = some r := h
  unfold Z99 at h
  refine zw ?_
  refine Ops.v rfl (Ya5 (p := 0) Yfx rfl rfl rfl) ?_
  refine zw ?_
  refine cnd h (fun hb67 h => ?_) fun hb67 h => ?_
  ·
   refine AW.ct hb67 rfl ?_
   refine zw ?_
   refine AW.ret ?_
   rw [← Wj h]
   exact finI ⟨[C.str ByteArray.empty], _, Y25.refl _, (.cons (.tmp rfl) .nil), [], _, _, rfl, ⟨rfl, rfl⟩⟩
  refine AW.cf hb67 rfl ?_
  refine zw ?_
  refine Ops.v rfl (Ya6 (p := 0) Yfx un_9 rfl rfl rfl) ?_
  refine zw ?_
  refine AW.ret ?_
  rw [← Wj h]
  exact finI ⟨[C.str (Y7f l66)], _, Y25.refl _, (.cons (.tmp rfl) .nil), [], _, _, rfl, ⟨rfl, rfl⟩⟩
 refine AW.cond rfl (fun _ => ?_) (fun hn => absurd ((Y47 hb3).symm.trans hn) (by decide))
 refine zw ?_
 refine AW.ret ?_
 rw [← Wj h]
 exact finI ⟨[C.str ByteArray.empty], _, Y25.refl _, (.cons (.tmp rfl) .nil), [], _, _, rfl, ⟨rfl, rfl⟩⟩

def Z9d (p0 : Yah) (p1 : Int) (p2 : Int) (p3 : Int) : Option Yad := (getI p0.hubs p1).bind fun e3 => (getI e3.rooms (IntKind.i64.wrap (p3 - 1))).bind fun e5 => (Z8w e5).bind fun r7 => (Z9b r7).bind fun r9 => some (Yad.mk 1 p1 p2 p3 r9)
instance Z9e (p0 : Yah) (p1 : Int) (p2 : Int) (p3 : Int) : Sp Tryz.prog 30 [C.agg [cM Yay 2 p0.hubs, cM Yas 5 p0.letters], cI p1, cI p2, cI p3] (Z9d p0 p1 p2 p3) (fun r => C.agg [cI r.kind, cI r.from_, cI r.to_, cI r.room, C.str r.text]) := Sp.of (so Tryz.func30 rfl rfl fun r X h => gh .z)

def Z9f (p0 : Yah) (p1 : Int) (p2 : Int) (p3 : Int) (x12 : Bool) : Option Yal := cond x12 ((Z86 6).bind fun r14 => some r14) ((Z7w p3).bind fun r16 => cond r16 (cond (decide ((p0.letters.length : Int) ≥ 60)) ((Z86 9).bind fun r20 => some r20) ((Z8k p0).bind fun r26 => (Z9d p0 p1 p2 p3).bind fun r40 => (chk (decide ((r26.letters.length + [r40].length) * 48 ≤ 140737488355328))).bind fun u44 => some (Yal.mk (Yah.mk r26.hubs (r26.letters ++ [r40])) 0 0))) ((Z86 1).bind fun r22 => some r22))
def Z9g (p0 : Yah) (p1 : Int) (p2 : Int) (p3 : Int) : Option Yal := (Z84 p0).bind fun r3 => cond r3 ((Z7u p0 p1).bind fun r6 => cond r6 ((Z7u p0 p2).bind fun r9 => cond r9 (Z9f p0 p1 p2 p3 (p1 == p2)) (Z9f p0 p1 p2 p3 true)) (Z9f p0 p1 p2 p3 true)) ((Z86 1).bind fun r24 => some r24)
instance Z9h (p0 : Yah) (p1 : Int) (p2 : Int) (p3 : Int) : Sp Tryz.prog 7 [C.agg [cM Yay 2 p0.hubs, cM Yas 5 p0.letters], cI p1, cI p2, cI p3] (Z9g p0 p1 p2 p3) (fun r => C.agg [cM Yay 2 r.peers.hubs, cM Yas 5 r.peers.letters, cI r.id, cI r.code]) := Sp.of (so Tryz.func7 rfl rfl fun r X h => gh (.b (.c1 (fun x12 => .d [(15, C.bool x12)] []) [1,2,3,4,8] [1,0] .z (.b .z (.b (.b .z (.k (.r [0,0,1,1] [1,2] [10] [0,5,9,12,16,20,26,30,34,36,43] .z))) .z))) .z))

def Z9i (p0 : List Yad) : Option (List Yad) := (chk (decide (p0.length * 48 ≤ 140737488355328))).bind fun _ => some p0
theorem Z9j (p0 : List Yad) (r : List Yad) (h : Z9i p0 = some r) : Ok Tryz.prog 66 [cM Yas 5 p0] [] (fun c qs => ∃ (v : Value), c = cV v ∧ qs = [oA v 60 Yas 5 r]) := by
 refine ob' h fun u hc h => ?_
 obtain rfl := Wj h
 have hc := Wo (Y45 hc)
 refine Ok.of_body (rs := [.tmp 2]) Tryz.func66 rfl rfl rfl rfl rfl fun X => ?_
 refine zw ?_
 refine Ops.h (ns := []) rfl rfl (Y63 Ye7.h rfl rfl) ?_
 rintro _ _ ⟨b, hb, rfl, rfl⟩
 refine zw ?_
 refine tf' b (fun hq => ?_) (fun hq => ?_)
 ·
  refine AW.cond rfl (fun _ => ?_) (fun hn => absurd (hq.symm.trans hn) (by decide))
  refine zw ?_
  refine AW.ret ?_
  obtain rfl := hb hq
  exact finI ⟨[cV s0], _, Y25.nil 60 Yas 5, .cons (.tmp rfl) .nil, [0], _, _, rfl, ⟨_, rfl, rfl⟩⟩
 refine AW.cond rfl (fun hn => absurd (hq.symm.trans hn) (by decide)) (fun _ => ?_)
 refine zw ?_
 refine Ops.h (ns := []) rfl rfl (Y3l (k := Yas) (ys := ([] : List Yad)) Ye6 .nil rfl rfl rfl) ?_
 rintro _ _ ⟨b1, rfl, rfl⟩
 refine zw ?_
 refine Ops.h (ns := [0]) rfl rfl (Y33 Ye6 rfl rfl (by simpa using hc) (by simp; omega) rfl) ?_
 rintro _ _ ⟨v, rfl, rfl⟩
 refine zw ?_
 refine AW.ret ?_
 exact finI ⟨[cV v], _, Y25.refl _, .cons (.tmp rfl) .nil, [0], _, _, rfl, ⟨v, rfl, rfl⟩⟩
instance Z9j' (p0 : List Yad) : Sp Tryz.prog 66 [cM Yas 5 p0] (Z9i p0) (fun r => cM Yas 5 r) := ⟨fun r h => Ok.freeze (Z9j p0 r h) (by rintro c qs ⟨v, rfl, rfl⟩; exact Frz.arr)⟩
instance Z9k (p0 : List Yad) : SpO Tryz.prog 66 (Z9i p0) (.d [cM Yas 5 p0] [] fun r => .x fun (v : Value) => .d (cV v) [oA v 60 Yas 5 r]) := ⟨fun r h => Z9j p0 r h⟩

def Z9l (x2 : Bool) : Option Bool := some x2
def Z9m (p0 : Int) (p1 : Int) (p2 : Int) : Option Bool := cond (decide (p1 ≤ p0)) (Z9l (decide (p0 ≤ p2))) (Z9l false)
instance Z9n (p0 : Int) (p1 : Int) (p2 : Int) : Sp Tryz.prog 70 [cI p0, cI p1, cI p2] (Z9m p0 p1 p2) (fun r => C.bool r) := Sp.of (so Tryz.func70 rfl rfl fun r X h => gh (.q 1 (.c1 (fun x2 => .d [(6, C.bool x2)] []) [] [] .z .z)))

def Z9o (p0 : Int) : Option Bool := (Z9m p0 1 3).bind fun r1 => some r1
instance Z9p (p0 : Int) : Sp Tryz.prog 35 [cI p0] (Z9o p0) (fun r => C.bool r) := Sp.of (so Tryz.func35 rfl rfl fun r X h => gh .z)

def Z9q (p0 : Int) : Option Bool := (Z9m p0 1 1000000).bind fun r1 => some r1
instance Z9r (p0 : Int) : Sp Tryz.prog 180 [cI p0] (Z9q p0) (fun r => C.bool r) := Sp.of (so Tryz.func180 rfl rfl fun r X h => gh .z)

def Z9s (p0 : Int) : Option Bool := (Z9m p0 1 6).bind fun r1 => some r1
instance Z9t (p0 : Int) : Sp Tryz.prog 181 [cI p0] (Z9s p0) (fun r => C.bool r) := Sp.of (so Tryz.func181 rfl rfl fun r X h => gh .z)

def Z9u (p0 : Int) : Option Bool := (Z9m p0 0 1000000).bind fun r1 => some r1
instance Z9v (p0 : Int) : Sp Tryz.prog 182 [cI p0] (Z9u p0) (fun r => C.bool r) := Sp.of (so Tryz.func182 rfl rfl fun r X h => gh .z)

def Z9w : Option Bool := some true
def Z9x (x12 : Int) (x22 : Bool) : Option (Int ⊕ (Bool ⊕ Unit)) := cond x22 (some (.inr (.inl false))) (some (.inl (IntKind.i64.wrap (x12 + 1))))
def Z9y (p0 : List Int) (p1 : Int) (p2 : Int) (x12 : Int) : Option (Int ⊕ (Bool ⊕ Unit)) := cond (decide (x12 < (p0.length : Int))) ((getI p0 x12).bind fun e14 => (Z9m e14 p1 p2).bind fun r16 => cond r16 (cond (decide (x12 > 0)) ((getI p0 (IntKind.i64.wrap (x12 - 1))).bind fun e20 => Z9x x12 (decide (e20 ≥ e14))) (Z9x x12 false)) (Z9x x12 true)) (some (.inr (.inr ())))
def Z9z (p0 : List Int) (p1 : Int) (p2 : Int) : Option Bool := (iter (Z9y p0 p1 p2) big 0).bind (fun z25 => match z25 with | .inl y24 => some y24 | .inr () => Z9w)
instance Za0 (p0 : List Int) (p1 : Int) (p2 : Int) : Sp Tryz.prog 183 [cM kI64 1 p0, cI p1, cI p2] (Z9z p0 p1 p2) (fun r => C.bool r) := Sp.of (so Tryz.func183 rfl rfl fun r X h => gh (.q 1 (.c0 (.d [] []) [] [] (.l1 (fun x12 => .d [(11, cI x12)] []) [0,1,2,9,10] [] (.b (.q 2 (.c1 (fun x22 => .d [(33, C.bool x22)] []) [0,1,2,9,10,11] [] .z .z)) .z)) .z)))

def Za1 : Option Int := some (-1)
def Za2 (p0 : List Int) (p1 : Int) (x5 : Int) : Option (Int ⊕ (Int ⊕ Unit)) := cond (decide (x5 < (p0.length : Int))) ((getI p0 x5).bind fun e7 => cond (p1 == e7) (some (.inr (.inl x5))) (some (.inl (IntKind.i64.wrap (x5 + 1))))) (some (.inr (.inr ())))
def Za3 (p0 : List Int) (p1 : Int) : Option Int := (iter (Za2 p0 p1) big 0).bind (fun z11 => match z11 with | .inl y10 => some y10 | .inr () => Za1)
instance Za4 (p0 : List Int) (p1 : Int) : Sp Tryz.prog 240 [cM kI64 1 p0, cI p1] (Za3 p0 p1) (fun r => cI r) := Sp.of (so Tryz.func240 rfl rfl fun r X h => gh (.q 1 (.c0 (.d [] []) [] [] (.l1 (fun x5 => .d [(8, cI x5)] []) [0,1,7] [] .z) .z)))

def Za5 (p0 : List Int) (p1 : Int) : Option Bool := (Za3 p0 p1).bind fun r1 => some (decide (r1 ≥ 0))
instance Za6 (p0 : List Int) (p1 : Int) : Sp Tryz.prog 184 [cM kI64 1 p0, cI p1] (Za5 p0 p1) (fun r => C.bool r) := Sp.of (so Tryz.func184 rfl rfl fun r X h => gh .z)

def Za7 (x5 : Bool) : Option Bool := some x5
def Za8 (x13 : Bool) : Option Bool := some x13
def Za9 (x21 : Bool) : Option Bool := some x21
def Zaa (x25 : Bool) : Option Bool := some x25
def Zab (x31 : Bool) : Option Bool := some x31
def Zac (x37 : Bool) : Option Bool := some x37
def Zad (x43 : Bool) : Option Bool := some x43
def Zae (x49 : Bool) : Option Bool := some x49
def Zaf (p0 : Yaa) : Option Bool := cond (p0.kind == 1) (cond (p0.key == 0) (cond (p0.n == 0) (Za7 ((p0.text.size : Int) == 0)) (Za7 false)) (Za7 false)) (cond (p0.kind == 2) ((Z9s p0.key).bind fun r7 => cond r7 ((Z9m p0.n 1 4).bind fun r10 => cond r10 (Za8 ((p0.text.size : Int) == 0)) (Za8 false)) (Za8 false)) (cond (p0.kind == 3) ((Z9s p0.key).bind fun r15 => cond r15 ((Z9m p0.n 0 100).bind fun r18 => cond r18 (Za9 ((p0.text.size : Int) == 0)) (Za9 false)) (Za9 false)) (cond (p0.kind == 4) (cond (p0.key == 0) (cond (p0.n == 0) (Zaa (decide ((p0.text.size : Int) ≤ 30))) (Zaa false)) (Zaa false)) (cond (p0.kind == 5) (cond (p0.key == 0) ((Z9m p0.n 1 2).bind fun r28 => cond r28 (Zab ((p0.text.size : Int) == 0)) (Zab false)) (Zab false)) (cond (p0.kind == 6) (cond (p0.key == 0) ((Z9m p0.n 1 3).bind fun r34 => cond r34 (Zac ((p0.text.size : Int) == 0)) (Zac false)) (Zac false)) (cond (p0.kind == 7) (cond (p0.key == 0) (cond (p0.n == 0) ((Z9m (p0.text.size : Int) 1 30).bind fun r41 => Zad r41) (Zad false)) (Zad false)) (cond (p0.kind == 8) ((Z9q p0.key).bind fun r45 => cond r45 (cond (p0.n == 0) (Zae ((p0.text.size : Int) == 0)) (Zae false)) (Zae false)) (Zae false))))))))
instance Zag (p0 : Yaa) : Sp Tryz.prog 185 [C.agg [cI p0.id, cI p0.room, cI p0.author, cI p0.kind, cI p0.key, cI p0.n, C.str p0.text, cM kI64 1 p0.prev, cI p0.time]] (Zaf p0) (fun r => C.bool r) := Sp.of (so Tryz.func185 rfl rfl fun r X h => gh (.r [0] [1,4,7] [] [0,5,8,12,17,20,24,29,32,36,40,44] (.b (.c1 (fun x5 => .d [(2, C.bool x5)] []) [] [] .z .z) (.b (.c1 (fun x13 => .d [(2, C.bool x13)] []) [] [] .z .z) (.b (.c1 (fun x21 => .d [(2, C.bool x21)] []) [] [] .z .z) (.b (.c1 (fun x25 => .d [(2, C.bool x25)] []) [] [] .z .z) (.b (.c1 (fun x31 => .d [(2, C.bool x31)] []) [] [] .z .z) (.b (.c1 (fun x37 => .d [(2, C.bool x37)] []) [] [] .z .z) (.b (.c1 (fun x43 => .d [(2, C.bool x43)] []) [] [] .z .z) (.c1 (fun x49 => .d [(2, C.bool x49)] []) [] [] .z .z))))))))))

def Zah (x23 : Bool) : Option Bool := some x23
def Zai (p0 : Yaa) : Option Bool := (Z9q p0.id).bind fun r2 => cond r2 ((Z9o p0.room).bind fun r5 => cond r5 ((Z9s p0.author).bind fun r8 => cond r8 ((Z9u p0.time).bind fun r11 => cond r11 (cond (decide ((p0.prev.length : Int) ≤ 4)) ((Z9z p0.prev 1 1000000).bind fun r15 => cond r15 ((Za5 p0.prev p0.id).bind fun r18 => cond r18 (Zah false) ((Zaf p0).bind fun r21 => Zah r21)) (Zah false)) (Zah false)) (Zah false)) (Zah false)) (Zah false)) (Zah false)
instance Zaj (p0 : Yaa) : Sp Tryz.prog 106 [C.agg [cI p0.id, cI p0.room, cI p0.author, cI p0.kind, cI p0.key, cI p0.n, C.str p0.text, cM kI64 1 p0.prev, cI p0.time]] (Zai p0) (fun r => C.bool r) := Sp.of (so Tryz.func106 rfl rfl fun r X h => gh (.q 1 (.c1 (fun x23 => .d [(2, C.bool x23)] []) [] [] .z .z)))

def Zak (x5 : Bool) : Option Bool := some x5
def Zal (p0 : Yaa) : Option Bool := (Zai p0).bind fun r2 => cond r2 (Zak ((p0.kind == 1) == ((p0.prev.length : Int) == 0))) (Zak false)
instance Zam (p0 : Yaa) : Sp Tryz.prog 159 [C.agg [cI p0.id, cI p0.room, cI p0.author, cI p0.kind, cI p0.key, cI p0.n, C.str p0.text, cM kI64 1 p0.prev, cI p0.time]] (Zal p0) (fun r => C.bool r) := Sp.of (so Tryz.func159 rfl rfl fun r X h => gh (.q 1 (.c1 (fun x5 => .d [(2, C.bool x5)] []) [] [] .z .z)))

def Zan : Option Bool := some true
def Zao (x15 : Int) (x27 : Bool) : Option (Int ⊕ (Bool ⊕ Unit)) := cond x27 (some (.inr (.inl false))) (some (.inl (IntKind.i64.wrap (x15 + 1))))
def Zap (p0 : Yaf) (p1 : List Yaa) (x15 : Int) : Option (Int ⊕ (Bool ⊕ Unit)) := cond (decide (x15 < (p1.length : Int))) ((getI p1 x15).bind fun e17 => (Zal e17).bind fun r20 => cond r20 (cond (e17.room != p0.room) (Zao x15 true) (cond (decide (x15 > 0)) ((getI p1 (IntKind.i64.wrap (x15 - 1))).bind fun e25 => Zao x15 (decide (e25.id ≥ e17.id))) (Zao x15 false))) (Zao x15 true)) (some (.inr (.inr ())))
def Zaq (p0 : Yaf) (p1 : List Yaa) : Option Bool := (iter (Zap p0 p1) big 0).bind (fun z30 => match z30 with | .inl y29 => some y29 | .inr () => Zan)
instance Zar (p0 : Yaf) (p1 : List Yaa) : Sp Tryz.prog 195 [C.agg [cI p0.room, cM Yap 9 p0.events, cM Yap 9 p0.parked], cM Yap 9 p1] (Zaq p0 p1) (fun r => C.bool r) := Sp.of (so Tryz.func195 rfl rfl fun r X h => gh (.q 1 (.c0 (.d [] []) [] [] (.l1 (fun x15 => .d [(9, cI x15)] []) [1,2,7,8] [0] (.b (.q 2 (.c1 (fun x27 => .d [(38, C.bool x27)] []) [1,2,7,8,9] [1] (.r [0,0] [0,5,7,19,21] [] [1,6,8,12,16,21,24,29,32,36,40,44,48,52,56,60,64,68,72,77,80,85,88,92,96] .z) .z)) .z)) .z)))

def Zas (p0 : Int) : Option Bool := some (p0 != p0)
instance Zat (p0 : Int) : Sp Tryz.prog 266 [cI p0] (Zas p0) (fun r => C.bool r) := Sp.of (so Tryz.func266 rfl rfl fun r X h => gh .z)

def Zau (p0 : Int) (p1 : Int) : Option Int := (Zas p0).bind fun r1 => (Zas p1).bind fun r3 => cond r1 (cond r3 (some 0) (some (-1))) (cond r3 (some 1) (cond (decide (p0 < p1)) (some (-1)) (cond (decide (p0 > p1)) (some 1) (some 0))))
instance Zav (p0 : Int) (p1 : Int) : Sp Tryz.prog 226 [cI p0, cI p1] (Zau p0 p1) (fun r => cI r) := Sp.of (so Tryz.func226 rfl rfl fun r X h => gh .z)

def Zaw (p0 : Yaa) (p1 : Int) : Option Int := (Zau p0.id p1).bind fun r2 => some r2
instance Zax (p0 : Yaa) (p1 : Int) : Sp Tryz.prog 259 [C.agg [cI p0.id, cI p0.room, cI p0.author, cI p0.kind, cI p0.key, cI p0.n, C.str p0.text, cM kI64 1 p0.prev, cI p0.time], cI p1] (Zaw p0 p1) (fun r => cI r) := Sp.of (so Tryz.func259 rfl rfl fun r X h => gh .z)

def Zay (x15 : Int) (x21 : Bool) : Option (Int × Bool) := some (x15, x21)
def Zaz (p0 : List Yaa) (p1 : Int) (x15 : Int) : Option (Int × Bool) := cond (decide (x15 < (p0.length : Int))) ((getI p0 x15).bind fun e17 => (Zaw e17 p1).bind fun r19 => Zay x15 (r19 == 0)) (Zay x15 false)
def Zb0 (p0 : List Yaa) (p1 : Int) (x7 : Int) (x8 : Int) : Option ((Int × Int) ⊕ (Int)) := cond (decide (x7 < x8)) ((getI p0 (IntKind.i64.wrap (shrI .u64 (IntKind.u64.wrap (IntKind.i64.wrap (x7 + x8))) 1))).bind fun e10 => (Zaw e10 p1).bind fun r12 => cond (decide (r12 < 0)) (some (.inl ((IntKind.i64.wrap ((IntKind.i64.wrap (shrI .u64 (IntKind.u64.wrap (IntKind.i64.wrap (x7 + x8))) 1)) + 1)), x8))) (some (.inl (x7, (IntKind.i64.wrap (shrI .u64 (IntKind.u64.wrap (IntKind.i64.wrap (x7 + x8))) 1)))))) (some (.inr x7))
def Zb1 (p0 : List Yaa) (p1 : Int) : Option (Int × Bool) := (iter (fun z22 => Zb0 p0 p1 z22.1 z22.2) big (0, (p0.length : Int))).bind fun y23 => Zaz p0 p1 y23
instance Zb2 (p0 : List Yaa) (p1 : Int) : Sp Tryz.prog 258 [cM Yap 9 p0, cI p1, cV (.func (.func 259) #[] #[])] (Zb1 p0 p1) (fun r => C.tup [cI r.1, C.bool r.2]) := Sp.of (so Tryz.func258 rfl rfl fun r X h => gh (.q 3 (.c1 (fun x15 => .d [(9, cI x15)] []) [0,1,2,8] [] (.l2 (fun x7 x8 => .d [(9, cI x7), (10, cI x8)] []) [0,1,2,8] [] .z) (.e 9 cI fun x15 => .c1 (fun x21 => .d [(6, cI x15), (7, C.bool x21)] []) [] [] .z .z))))

def Zb3 (p0 : List Yaa) (p1 : Int) : Option (Int × Bool) := (Zb1 p0 p1).bind fun r1 => some (r1.1, r1.2)
instance Zb4 (p0 : List Yaa) (p1 : Int) : Sp Tryz.prog 203 [cM Yap 9 p0, cI p1] (Zb3 p0 p1) (fun r => C.tup [cI r.1, C.bool r.2]) := Sp.of (so Tryz.func203 rfl rfl fun r X h => gh .z)

def Zb5 (p0 : Yaf) (p1 : Int) : Option Bool := (Zb3 p0.events p1).bind fun r2 => some r2.2
instance Zb6 (p0 : Yaf) (p1 : Int) : Sp Tryz.prog 200 [C.agg [cI p0.room, cM Yap 9 p0.events, cM Yap 9 p0.parked], cI p1] (Zb5 p0 p1) (fun r => C.bool r) := Sp.of (so Tryz.func200 rfl rfl fun r X h => gh .z)

def Zb7 (p0 : Int) (q0 : Yaf) : Option Bool := (Zb5 q0 p0).bind fun r1 => some (!r1)
instance Zb8 (p0 : Int) (q0 : Yaf) : SpO Tryz.prog 257 (Zb7 p0 q0) (.x fun (b00 : Nat) => .d [cI p0, pt b00] [oB b00 114 [cI q0.room, cM Yap 9 q0.events, cM Yap 9 q0.parked]] fun r => .d (C.bool r) [oB b00 114 [cI q0.room, cM Yap 9 q0.events, cM Yap 9 q0.parked]]) := ⟨fun b00 => so Tryz.func257 rfl rfl fun r X h => gh .z⟩

def Zb9 : Option Int := some (-1)
def Zba (p0 : List Int) (p1_0 : Yaf) (x7 : Int) : Option (Int ⊕ (Int ⊕ Unit)) := cond (decide (x7 < (p0.length : Int))) ((getI p0 x7).bind fun e9 => (Zb7 e9 p1_0).bind fun r11 => cond r11 (some (.inr (.inl x7))) (some (.inl (IntKind.i64.wrap (x7 + 1))))) (some (.inr (.inr ())))
def Zbb (p0 : List Int) (p1_0 : Yaf) : Option Int := (iter (Zba p0 p1_0) big 0).bind (fun z15 => match z15 with | .inl y14 => some y14 | .inr () => Zb9)
instance Zbc (p0 : List Int) (p1_0 : Yaf) : SpO Tryz.prog 204 (Zbb p0 p1_0) (.x fun (b00 : Nat) => .d [cM kI64 1 p0, C.clo 257 [pt b00]] [oB b00 114 [cI p1_0.room, cM Yap 9 p1_0.events, cM Yap 9 p1_0.parked]] fun r => .d (cI r) [oB b00 114 [cI p1_0.room, cM Yap 9 p1_0.events, cM Yap 9 p1_0.parked]]) := ⟨fun b00 => so Tryz.func204 rfl rfl fun r X h => gh (.q 1 (.c0 (.d [] []) [] [0] (.l1 (fun x7 => .d [(8, cI x7)] []) [0,1,7] [0] .z) .z))⟩

def Zbd (p0 : List Int) (p1_0 : Yaf) : Option Bool := (Zbb p0 p1_0).bind fun r1 => some (decide (r1 ≥ 0))
instance Zbe (p0 : List Int) (p1_0 : Yaf) : SpO Tryz.prog 121 (Zbd p0 p1_0) (.x fun (b00 : Nat) => .d [cM kI64 1 p0, C.clo 257 [pt b00]] [oB b00 114 [cI p1_0.room, cM Yap 9 p1_0.events, cM Yap 9 p1_0.parked]] fun r => .d (C.bool r) [oB b00 114 [cI p1_0.room, cM Yap 9 p1_0.events, cM Yap 9 p1_0.parked]]) := ⟨fun b00 => so Tryz.func121 rfl rfl fun r X h => gh .z⟩

def Zbf (p0 : Yaf) (p1 : Yaa) : Option Bool := (Zbd p1.prev p0).bind fun r3 => some (!r3)
instance Zbg (p0 : Yaf) (p1 : Yaa) : Sp Tryz.prog 198 [C.agg [cI p0.room, cM Yap 9 p0.events, cM Yap 9 p0.parked], C.agg [cI p1.id, cI p1.room, cI p1.author, cI p1.kind, cI p1.key, cI p1.n, C.str p1.text, cM kI64 1 p1.prev, cI p1.time]] (Zbf p0 p1) (fun r => C.bool r) := Sp.of (so Tryz.func198 rfl rfl fun r X h => gh .z)

def Zbh (l140 : List Int) (x141 : Int) : Option (List Int × Bool) := some (l140, (x141 == 0))
def Zbi (x109 : Int) (l137 : List Int) (x138 : Int) (x139 : Bool) : Option ((List Int × Int × Bool × Int) ⊕ ((List Int × Int × Bool))) := some (.inl (l137, x138, x139, (IntKind.i64.wrap (x109 + 1))))
def Zbj (l106 : List Int) (x107 : Int) (x108 : Bool) (x109 : Int) (x135 : Int) : Option ((List Int × Int × Bool × Int) ⊕ ((List Int × Int × Bool))) := cond (decide (x135 > 0)) (Zbi x109 (List.set l106 (Int.toNat x109) x135) (IntKind.i64.wrap (x107 - 1)) true) (Zbi x109 l106 x107 x108)
def Zbk (p0 : Yaf) (l106 : List Int) (e111 : Yaa) (x125 : Int) (x126 : Int) : Option ((Int × Int) ⊕ (Int)) := cond (decide (x126 < (e111.prev.length : Int))) ((getI e111.prev x126).bind fun e128 => (Zb3 p0.events e128).bind fun r130 => (getI l106 r130.1).bind fun e132 => cond (e132 == 0) (some (.inr 0)) (some (.inl ((if (IntKind.i64.wrap (e132 + 1)) > x125 then (IntKind.i64.wrap (e132 + 1)) else x125), (IntKind.i64.wrap (x126 + 1)))))) (some (.inr x125))
def Zbl (p0 : Yaf) (l106 : List Int) (x107 : Int) (x108 : Bool) (x109 : Int) : Option ((List Int × Int × Bool × Int) ⊕ ((List Int × Int × Bool))) := cond (decide (x109 < (p0.events.length : Int))) ((getI p0.events x109).bind fun e111 => (getI l106 x109).bind fun e114 => cond (decide (e114 > 0)) (Zbi x109 l106 x107 x108) ((iter (fun z143 => Zbk p0 l106 e111 z143.1 z143.2) big (1, 0)).bind fun y144 => Zbj l106 x107 x108 x109 y144)) (some (.inr (l106, x107, x108)))
def Zbm (p0 : Yaf) (l70 : List Int) (x71 : Int) (x74 : Bool) : Option ((List Int × Int × Bool) ⊕ ((List Int × Int))) := cond x74 ((iter (fun z145 => Zbl p0 z145.1 z145.2.1 z145.2.2.1 z145.2.2.2) big (l70, x71, false, 0)).bind fun (y146, y147, y148) => some (.inl (y146, y147, y148))) (some (.inr (l70, x71)))
def Zbn (p0 : Yaf) (l70 : List Int) (x71 : Int) (x72 : Bool) : Option ((List Int × Int × Bool) ⊕ ((List Int × Int))) := cond x72 (Zbm p0 l70 x71 (decide (x71 > 0))) (Zbm p0 l70 x71 false)
def Zbo (p0 : Yaf) : Option (List Int × Bool) := (chk (decide (0 ≤ (p0.events.length : Int) ∧ (p0.events.length : Int) * 8 ≤ 140737488355328))).bind fun u3 => (iter (fun z149 => Zbn p0 z149.1 z149.2.1 z149.2.2) big ((List.replicate (Int.toNat (p0.events.length : Int)) 0), (p0.events.length : Int), true)).bind fun (y150, y151) => Zbh y150 y151
instance Zbp (p0 : Yaf) : SpO Tryz.prog 201 (Zbo p0) (.d [C.agg [cI p0.room, cM Yap 9 p0.events, cM Yap 9 p0.parked]] [] fun r => .x fun (v142 : Value) => .d (C.tup [cV v142, C.bool r.2]) [oA v142 2 kI64 1 r.1]) := ⟨so Tryz.func201 rfl rfl fun r X h => gh (.r [0] [1,5] [] [0,5,8,16,21,24,14,28,32] (.a 1 fun w1 => .c2 (fun l140 x141 => .d [(5, cI x141)] [oA w1 2 kI64 1 l140]) [4] [] (.A 1 fun w1 => .l3 (fun l70 x71 x72 => .d [(5, cI x71), (6, C.bool x72)] [oA w1 2 kI64 1 l70]) [1,4] [0] (.q 1 (.c1 (fun x74 => .d [(25, C.bool x74)] []) [1,4,5] [1,0] .z (.b (.A 1 fun w1 => .l4 (fun l106 x107 x108 x109 => .d [(5, cI x107), (6, C.bool x108), (29, cI x109)] [oA w1 2 kI64 1 l106]) [1,4,27,28] [0] (.b (.a 0 fun w0 => .c3 (fun l137 x138 x139 => .d [(5, cI x138), (6, C.bool x139)] [oA w0 2 kI64 1 l137]) [1,4,27,28,29] [1] (.b .z (.q 1 (.c1 (fun x135 => .d [(9, cI x135)] []) [1,4,5,6,7,27,28,29] [2,1] (.l2 (fun x125 x126 => .d [(9, cI x125), (42, cI x126)] []) [1,4,5,6,7,27,28,29,40,41] [2,1] .z) .z))) .z) .z)) .z)))) .z))⟩
instance Zbp' (p0 : Yaf) : Sp Tryz.prog 201 [C.agg [cI p0.room, cM Yap 9 p0.events, cM Yap 9 p0.parked]] (Zbo p0) (fun r => C.tup [cM kI64 1 r.1, C.bool r.2]) := ⟨fun r h => Ok.freeze ((Zbp p0).h r h) (by rintro c qs ⟨v142, rfl, rfl⟩; exact Frz.tup (FrzT.cons (os := [_]) (Frz.arr) (fT (FrzT.nil))))⟩

def Zbq (p0 : Yaa) (q0 : Yaf) : Option Bool := (Zbf q0 p0).bind fun r2 => some (!r2)
instance Zbr (p0 : Yaa) (q0 : Yaf) : SpO Tryz.prog 197 (Zbq p0 q0) (.x fun (b00 : Nat) => .d [C.agg [cI p0.id, cI p0.room, cI p0.author, cI p0.kind, cI p0.key, cI p0.n, C.str p0.text, cM kI64 1 p0.prev, cI p0.time], pt b00] [oB b00 114 [cI q0.room, cM Yap 9 q0.events, cM Yap 9 q0.parked]] fun r => .d (C.bool r) [oB b00 114 [cI q0.room, cM Yap 9 q0.events, cM Yap 9 q0.parked]]) := ⟨fun b00 => so Tryz.func197 rfl rfl fun r X h => gh .z⟩

def Zbs : Option Int := some (-1)
def Zbt (p0 : List Yaa) (p1_0 : Yaf) (x7 : Int) : Option (Int ⊕ (Int ⊕ Unit)) := cond (decide (x7 < (p0.length : Int))) ((getI p0 x7).bind fun e9 => (Zbq e9 p1_0).bind fun r11 => cond r11 (some (.inr (.inl x7))) (some (.inl (IntKind.i64.wrap (x7 + 1))))) (some (.inr (.inr ())))
def Zbu (p0 : List Yaa) (p1_0 : Yaf) : Option Int := (iter (Zbt p0 p1_0) big 0).bind (fun z15 => match z15 with | .inl y14 => some y14 | .inr () => Zbs)
instance Zbv (p0 : List Yaa) (p1_0 : Yaf) : SpO Tryz.prog 222 (Zbu p0 p1_0) (.x fun (b00 : Nat) => .d [cM Yap 9 p0, C.clo 197 [pt b00]] [oB b00 114 [cI p1_0.room, cM Yap 9 p1_0.events, cM Yap 9 p1_0.parked]] fun r => .d (cI r) [oB b00 114 [cI p1_0.room, cM Yap 9 p1_0.events, cM Yap 9 p1_0.parked]]) := ⟨fun b00 => so Tryz.func222 rfl rfl fun r X h => gh (.q 1 (.c0 (.d [] []) [] [0] (.l1 (fun x7 => .d [(8, cI x7)] []) [0,1,7] [0] .z) .z))⟩

def Zbw (p0 : List Yaa) (p1_0 : Yaf) : Option Bool := (Zbu p0 p1_0).bind fun r1 => some (decide (r1 ≥ 0))
instance Zbx (p0 : List Yaa) (p1_0 : Yaf) : SpO Tryz.prog 196 (Zbw p0 p1_0) (.x fun (b00 : Nat) => .d [cM Yap 9 p0, C.clo 197 [pt b00]] [oB b00 114 [cI p1_0.room, cM Yap 9 p1_0.events, cM Yap 9 p1_0.parked]] fun r => .d (C.bool r) [oB b00 114 [cI p1_0.room, cM Yap 9 p1_0.events, cM Yap 9 p1_0.parked]]) := ⟨fun b00 => so Tryz.func196 rfl rfl fun r X h => gh .z⟩

def Zby (x7 : Bool) : Option Bool := some x7
def Zbz (p0 : Yaa) (q0 : Yaf) : Option Bool := (Zb5 q0 p0.id).bind fun r2 => cond r2 (Zby true) ((Zbf q0 p0).bind fun r5 => Zby r5)
instance Zc0 (p0 : Yaa) (q0 : Yaf) : SpO Tryz.prog 199 (Zbz p0 q0) (.x fun (b00 : Nat) => .d [C.agg [cI p0.id, cI p0.room, cI p0.author, cI p0.kind, cI p0.key, cI p0.n, C.str p0.text, cM kI64 1 p0.prev, cI p0.time], pt b00] [oB b00 114 [cI q0.room, cM Yap 9 q0.events, cM Yap 9 q0.parked]] fun r => .d (C.bool r) [oB b00 114 [cI q0.room, cM Yap 9 q0.events, cM Yap 9 q0.parked]]) := ⟨fun b00 => so Tryz.func199 rfl rfl fun r X h => gh (.q 1 (.c1 (fun x7 => .d [(3, C.bool x7)] []) [] [1] .z .z))⟩

def Zc1 : Option Int := some (-1)
def Zc2 (p0 : List Yaa) (p1_0 : Yaf) (x7 : Int) : Option (Int ⊕ (Int ⊕ Unit)) := cond (decide (x7 < (p0.length : Int))) ((getI p0 x7).bind fun e9 => (Zbz e9 p1_0).bind fun r11 => cond r11 (some (.inr (.inl x7))) (some (.inl (IntKind.i64.wrap (x7 + 1))))) (some (.inr (.inr ())))
def Zc3 (p0 : List Yaa) (p1_0 : Yaf) : Option Int := (iter (Zc2 p0 p1_0) big 0).bind (fun z15 => match z15 with | .inl y14 => some y14 | .inr () => Zc1)
instance Zc4 (p0 : List Yaa) (p1_0 : Yaf) : SpO Tryz.prog 222 (Zc3 p0 p1_0) (.x fun (b00 : Nat) => .d [cM Yap 9 p0, C.clo 199 [pt b00]] [oB b00 114 [cI p1_0.room, cM Yap 9 p1_0.events, cM Yap 9 p1_0.parked]] fun r => .d (cI r) [oB b00 114 [cI p1_0.room, cM Yap 9 p1_0.events, cM Yap 9 p1_0.parked]]) := ⟨fun b00 => so Tryz.func222 rfl rfl fun r X h => gh (.q 1 (.c0 (.d [] []) [] [0] (.l1 (fun x7 => .d [(8, cI x7)] []) [0,1,7] [0] .z) .z))⟩

def Zc5 (p0 : List Yaa) (p1_0 : Yaf) : Option Bool := (Zc3 p0 p1_0).bind fun r1 => some (decide (r1 ≥ 0))
instance Zc6 (p0 : List Yaa) (p1_0 : Yaf) : SpO Tryz.prog 196 (Zc5 p0 p1_0) (.x fun (b00 : Nat) => .d [cM Yap 9 p0, C.clo 199 [pt b00]] [oB b00 114 [cI p1_0.room, cM Yap 9 p1_0.events, cM Yap 9 p1_0.parked]] fun r => .d (C.bool r) [oB b00 114 [cI p1_0.room, cM Yap 9 p1_0.events, cM Yap 9 p1_0.parked]]) := ⟨fun b00 => so Tryz.func196 rfl rfl fun r X h => gh .z⟩

def Zc7 (p0 : Yaf) (x12 : Bool) : Option Bool := cond x12 (some false) ((Zbw p0.events p0).bind fun r14 => cond r14 (some false) ((Zc5 p0.parked p0).bind fun r17 => cond r17 (some false) ((Zbo p0).bind fun r20 => some r20.2)))
def Zc8 (p0 : Yaf) : Option Bool := (Z9o p0.room).bind fun r2 => cond r2 (cond (decide ((p0.events.length : Int) > 60)) (Zc7 p0 true) (cond (decide ((p0.parked.length : Int) > 20)) (Zc7 p0 true) ((Zaq p0 p0.events).bind fun r7 => cond r7 ((Zaq p0 p0.parked).bind fun r10 => Zc7 p0 (!r10)) (Zc7 p0 true)))) (Zc7 p0 true)
instance Zc9 (p0 : Yaf) : Sp Tryz.prog 117 [C.agg [cI p0.room, cM Yap 9 p0.events, cM Yap 9 p0.parked]] (Zc8 p0) (fun r => C.bool r) := Sp.of (so Tryz.func117 rfl rfl fun r X h => gh (.q 2 (.c1 (fun x12 => .d [(34, C.bool x12)] []) [1] [0] .z .z)))

def Zca (p0 : Int) (p1 : Int) (q0 : List Int) : Option Int := (getI q0 p0).bind fun e1 => (getI q0 p1).bind fun e3 => (Zau e1 e3).bind fun r5 => some r5
instance Zcb (p0 : Int) (p1 : Int) (q0 : List Int) : SpO Tryz.prog 225 (Zca p0 p1 q0) (.x fun (b00 : Nat) => .d [cI p0, cI p1, pt b00] [oB b00 42 [cM kI64 1 q0]] fun r => .d (cI r) [oB b00 42 [cM kI64 1 q0]]) := ⟨fun b00 => so Tryz.func225 rfl rfl fun r X h => gh (.r [0] [0,3,4,7] [] [1,4,8,13,17,20,24,29,34,36] .z)⟩

def Zcc (x62 : Int) (l122 : List Int) : Option ((List Int × Int) ⊕ ((List Int))) := some (.inl (l122, (IntKind.i64.wrap (x62 + 1))))
def Zcd (l92 : List Int) (x93 : Int) (x110 : Bool) : Option ((List Int × Int) ⊕ ((List Int))) := cond x110 ((getI l92 (IntKind.i64.wrap (x93 - 1))).bind fun e112 => (getI l92 x93).bind fun e114 => (getI (List.set l92 (Int.toNat x93) e112) (IntKind.i64.wrap (x93 - 1))).bind fun e120 => some (.inl ((List.set (List.set l92 (Int.toNat x93) e112) (Int.toNat (IntKind.i64.wrap (x93 - 1))) e114), (IntKind.i64.wrap (x93 - 1))))) (some (.inr l92))
def Zce (p1 : Int) (p3_0 : List Int) (l92 : List Int) (x93 : Int) : Option ((List Int × Int) ⊕ ((List Int))) := cond (decide (x93 > p1)) ((getI l92 x93).bind fun e104 => (getI l92 (IntKind.i64.wrap (x93 - 1))).bind fun e106 => (Zca e104 e106 p3_0).bind fun r108 => Zcd l92 x93 (decide (r108 < 0))) (Zcd l92 x93 false)
def Zcf (p1 : Int) (p2 : Int) (p3_0 : List Int) (l61 : List Int) (x62 : Int) : Option ((List Int × Int) ⊕ ((List Int))) := cond (decide (x62 < p2)) ((iter (fun z123 => Zce p1 p3_0 z123.1 z123.2) big (l61, x62)).bind fun y124 => Zcc x62 y124) (some (.inr l61))
def Zcg (p0 : List Int) (p1 : Int) (p2 : Int) (p3_0 : List Int) : Option (List Int) := (iter (fun z125 => Zcf p1 p2 p3_0 z125.1 z125.2) big (p0, (IntKind.i64.wrap (p1 + 1)))).bind fun y126 => some y126
instance Zch (p0 : List Int) (p1 : Int) (p2 : Int) (p3_0 : List Int) : SpO Tryz.prog 289 (Zcg p0 p1 p2 p3_0) (.x fun (w00 : Value) => .x fun (b01 : Nat) => .d [cV w00, cI p1, cI p2, C.clo 225 [pt b01]] [oA w00 3 kI64 1 p0, oB b01 42 [cM kI64 1 p3_0]] fun r => .d (C.tup []) [oA w00 3 kI64 1 r, oB b01 42 [cM kI64 1 p3_0]]) := ⟨fun w00 b01 => so Tryz.func289 rfl rfl fun r X h => gh (.l2 (fun l61 x62 => .d [(8, cI x62)] [oA w00 3 kI64 1 l61]) [0,1,2,3] [1] (.b (.c1 (fun l122 => .d [] [oA w00 3 kI64 1 l122]) [0,1,2,3,8] [1] (.l2 (fun l92 x93 => .d [(9, cI x93)] [oA w00 3 kI64 1 l92]) [0,1,2,3,8] [1] (.q 1 (.c1 (fun x110 => .d [(34, C.bool x110)] []) [0,1,2,3,8,9] [0,1] (.r [0] [8,13] [] [0,4,8,12,16,20,24,28,33,36,40,44,48,53,58,60,64] .z) (.b (.r [0,0] [9,13] [15,17] [0,4,8,12,16,20,24,28,32,37,40,44,48,53,56,63,64,71] (.w 16 .z)) .z)))) .z) .z))⟩

def Zci (p1 : Int) (p2 : Int) (p3 : Int) (l12 : List Int) (x13 : Int) : Option ((List Int × Int) ⊕ ((List Int))) := cond (decide (x13 < p3)) ((getI l12 (IntKind.i64.wrap (p2 + x13))).bind fun e15 => (getI l12 (IntKind.i64.wrap (p1 + x13))).bind fun e17 => (getI (List.set l12 (Int.toNat (IntKind.i64.wrap (p1 + x13))) e15) (IntKind.i64.wrap (p2 + x13))).bind fun e23 => some (.inl ((List.set (List.set l12 (Int.toNat (IntKind.i64.wrap (p1 + x13))) e15) (Int.toNat (IntKind.i64.wrap (p2 + x13))) e17), (IntKind.i64.wrap (x13 + 1))))) (some (.inr l12))
def Zcj (p0 : List Int) (p1 : Int) (p2 : Int) (p3 : Int) (p4_0 : List Int) : Option (List Int) := (iter (fun z25 => Zci p1 p2 p3 z25.1 z25.2) big (p0, 0)).bind fun y26 => some y26
instance Zck (p0 : List Int) (p1 : Int) (p2 : Int) (p3 : Int) (p4_0 : List Int) : SpO Tryz.prog 316 (Zcj p0 p1 p2 p3 p4_0) (.x fun (w00 : Value) => .x fun (b01 : Nat) => .d [cV w00, cI p1, cI p2, cI p3, C.clo 225 [pt b01]] [oA w00 3 kI64 1 p0, oB b01 42 [cM kI64 1 p4_0]] fun r => .d (C.tup []) [oA w00 3 kI64 1 r, oB b01 42 [cM kI64 1 p4_0]]) := ⟨fun w00 b01 => so Tryz.func316 rfl rfl fun r X h => gh (.l2 (fun l12 x13 => .d [(10, cI x13)] [oA w00 3 kI64 1 l12]) [0,1,2,3] [1] (.b (.r [0,0] [13,19] [21,23] [0,4,8,12,16,20,24,28,32,36,40,44,48,53,56,60,64,68,72,77,80,87,88,95] (.w 22 .z)) .z))⟩

def Zcl (p2 : Int) (p4_0 : List Int) (l16 : List Int) (x17 : Int) : Option (List Int) := (Zcj l16 (IntKind.i64.wrap (p2 - x17)) p2 x17 p4_0).bind fun r18 => some r18
def Zcm (p2 : Int) (p4_0 : List Int) (l7 : List Int) (x8 : Int) (x9 : Int) : Option ((List Int × Int × Int) ⊕ ((List Int × Int))) := cond (x8 != x9) (cond (decide (x8 > x9)) ((Zcj l7 (IntKind.i64.wrap (p2 - x8)) p2 x9 p4_0).bind fun r12 => some (.inl (r12, (IntKind.i64.wrap (x8 - x9)), x9))) ((Zcj l7 (IntKind.i64.wrap (p2 - x8)) (IntKind.i64.wrap ((IntKind.i64.wrap (p2 + x9)) - x8)) x8 p4_0).bind fun r14 => some (.inl (r14, x8, (IntKind.i64.wrap (x9 - x8)))))) (some (.inr (l7, x8)))
def Zcn (p0 : List Int) (p1 : Int) (p2 : Int) (p3 : Int) (p4_0 : List Int) : Option (List Int) := (iter (fun z20 => Zcm p2 p4_0 z20.1 z20.2.1 z20.2.2) big (p0, (IntKind.i64.wrap (p2 - p1)), (IntKind.i64.wrap (p3 - p2)))).bind fun (y21, y22) => Zcl p2 p4_0 y21 y22
instance Zco (p0 : List Int) (p1 : Int) (p2 : Int) (p3 : Int) (p4_0 : List Int) : SpO Tryz.prog 309 (Zcn p0 p1 p2 p3 p4_0) (.x fun (w00 : Value) => .x fun (b01 : Nat) => .d [cV w00, cI p1, cI p2, cI p3, C.clo 225 [pt b01]] [oA w00 3 kI64 1 p0, oB b01 42 [cM kI64 1 p4_0]] fun r => .d (C.tup []) [oA w00 3 kI64 1 r, oB b01 42 [cM kI64 1 p4_0]]) := ⟨fun w00 b01 => so Tryz.func309 rfl rfl fun r X h => gh (.q 2 (.c2 (fun l16 x17 => .d [(10, cI x17)] [oA w00 3 kI64 1 l16]) [0,2,4] [1] (.l3 (fun l7 x8 x9 => .d [(10, cI x8), (11, cI x9)] [oA w00 3 kI64 1 l7]) [0,2,4] [1] .z) .z))⟩

def Zcp (l61 : List Int) : Option (List Int) := some l61
def Zcq (x36 : Int) (l48 : List Int) (x49 : Int) : Option ((List Int × Int) ⊕ ((List Int))) := cond (decide (x49 < (IntKind.i64.wrap (x36 - 1)))) ((getI l48 (IntKind.i64.wrap (x49 + 1))).bind fun e51 => (getI l48 x49).bind fun e53 => (getI (List.set l48 (Int.toNat x49) e51) (IntKind.i64.wrap (x49 + 1))).bind fun e59 => some (.inl ((List.set (List.set l48 (Int.toNat x49) e51) (Int.toNat (IntKind.i64.wrap (x49 + 1))) e53), (IntKind.i64.wrap (x49 + 1))))) (some (.inr l48))
def Zcr (p0 : List Int) (p1 : Int) (x36 : Int) : Option (List Int) := (iter (fun z178 => Zcq x36 z178.1 z178.2) big (p0, p1)).bind fun y179 => Zcp y179
def Zcs (p0 : List Int) (p1 : Int) (p4_0 : List Int) (x18 : Int) (x19 : Int) : Option ((Int × Int) ⊕ (Int)) := cond (decide (x18 < x19)) ((getI p0 (IntKind.i64.wrap (shrI .u64 (IntKind.u64.wrap (IntKind.i64.wrap (x18 + x19))) 1))).bind fun e29 => (getI p0 p1).bind fun e31 => (Zca e29 e31 p4_0).bind fun r33 => cond (decide (r33 < 0)) (some (.inl ((IntKind.i64.wrap ((IntKind.i64.wrap (shrI .u64 (IntKind.u64.wrap (IntKind.i64.wrap (x18 + x19))) 1)) + 1)), x19))) (some (.inl (x18, (IntKind.i64.wrap (shrI .u64 (IntKind.u64.wrap (IntKind.i64.wrap (x18 + x19))) 1)))))) (some (.inr x18))
def Zct (l122 : List Int) : Option (List Int) := some l122
def Zcu (x97 : Int) (l109 : List Int) (x110 : Int) : Option ((List Int × Int) ⊕ ((List Int))) := cond (decide (x110 > x97)) ((getI l109 (IntKind.i64.wrap (x110 - 1))).bind fun e112 => (getI l109 x110).bind fun e114 => (getI (List.set l109 (Int.toNat x110) e112) (IntKind.i64.wrap (x110 - 1))).bind fun e120 => some (.inl ((List.set (List.set l109 (Int.toNat x110) e112) (Int.toNat (IntKind.i64.wrap (x110 - 1))) e114), (IntKind.i64.wrap (x110 - 1))))) (some (.inr l109))
def Zcv (p0 : List Int) (p2 : Int) (x97 : Int) : Option (List Int) := (iter (fun z182 => Zcu x97 z182.1 z182.2) big (p0, p2)).bind fun y183 => Zct y183
def Zcw (p0 : List Int) (p2 : Int) (p4_0 : List Int) (x79 : Int) (x80 : Int) : Option ((Int × Int) ⊕ (Int)) := cond (decide (x79 < x80)) ((getI p0 p2).bind fun e90 => (getI p0 (IntKind.i64.wrap (shrI .u64 (IntKind.u64.wrap (IntKind.i64.wrap (x79 + x80))) 1))).bind fun e92 => (Zca e90 e92 p4_0).bind fun r94 => cond (decide (r94 < 0)) (some (.inl (x79, (IntKind.i64.wrap (shrI .u64 (IntKind.u64.wrap (IntKind.i64.wrap (x79 + x80))) 1))))) (some (.inl ((IntKind.i64.wrap ((IntKind.i64.wrap (shrI .u64 (IntKind.u64.wrap (IntKind.i64.wrap (x79 + x80))) 1)) + 1)), x80)))) (some (.inr x79))
def Zcx (p1 : Int) (p2 : Int) (p3 : Int) (p4_0 : List Int) (self_ : (List Int) → Int → Int → Int → (List Int) → Option (List Int)) (x160 : Int) (l172 : List Int) (x174 : Bool) : Option (List Int) := cond x174 ((self_ l172 (IntKind.i64.wrap (shrI .u64 (IntKind.u64.wrap (IntKind.i64.wrap (p1 + p3))) 1)) (IntKind.i64.wrap ((IntKind.i64.wrap ((IntKind.i64.wrap (shrI .u64 (IntKind.u64.wrap (IntKind.i64.wrap (p1 + p3))) 1)) + p2)) - x160)) p3 p4_0).bind fun r176 => some r176) (some l172)
def Zcy (p1 : Int) (p2 : Int) (p3 : Int) (p4_0 : List Int) (self_ : (List Int) → Int → Int → Int → (List Int) → Option (List Int)) (x160 : Int) (l172 : List Int) : Option (List Int) := cond (decide ((IntKind.i64.wrap (shrI .u64 (IntKind.u64.wrap (IntKind.i64.wrap (p1 + p3))) 1)) < (IntKind.i64.wrap ((IntKind.i64.wrap ((IntKind.i64.wrap (shrI .u64 (IntKind.u64.wrap (IntKind.i64.wrap (p1 + p3))) 1)) + p2)) - x160)))) (Zcx p1 p2 p3 p4_0 self_ x160 l172 (decide ((IntKind.i64.wrap ((IntKind.i64.wrap ((IntKind.i64.wrap (shrI .u64 (IntKind.u64.wrap (IntKind.i64.wrap (p1 + p3))) 1)) + p2)) - x160)) < p3))) (Zcx p1 p2 p3 p4_0 self_ x160 l172 false)
def Zcz (p1 : Int) (p2 : Int) (p3 : Int) (p4_0 : List Int) (self_ : (List Int) → Int → Int → Int → (List Int) → Option (List Int)) (x160 : Int) (l166 : List Int) (x168 : Bool) : Option (List Int) := cond x168 ((self_ l166 p1 x160 (IntKind.i64.wrap (shrI .u64 (IntKind.u64.wrap (IntKind.i64.wrap (p1 + p3))) 1)) p4_0).bind fun r170 => Zcy p1 p2 p3 p4_0 self_ x160 r170) (Zcy p1 p2 p3 p4_0 self_ x160 l166)
def Zd0 (p1 : Int) (p2 : Int) (p3 : Int) (p4_0 : List Int) (self_ : (List Int) → Int → Int → Int → (List Int) → Option (List Int)) (x160 : Int) (l166 : List Int) : Option (List Int) := cond (decide (p1 < x160)) (Zcz p1 p2 p3 p4_0 self_ x160 l166 (decide (x160 < (IntKind.i64.wrap (shrI .u64 (IntKind.u64.wrap (IntKind.i64.wrap (p1 + p3))) 1))))) (Zcz p1 p2 p3 p4_0 self_ x160 l166 false)
def Zd1 (p0 : List Int) (p1 : Int) (p2 : Int) (p3 : Int) (p4_0 : List Int) (self_ : (List Int) → Int → Int → Int → (List Int) → Option (List Int)) (x160 : Int) (x162 : Bool) : Option (List Int) := cond x162 ((Zcn p0 x160 p2 (IntKind.i64.wrap ((IntKind.i64.wrap ((IntKind.i64.wrap (shrI .u64 (IntKind.u64.wrap (IntKind.i64.wrap (p1 + p3))) 1)) + p2)) - x160)) p4_0).bind fun r164 => Zd0 p1 p2 p3 p4_0 self_ x160 r164) (Zd0 p1 p2 p3 p4_0 self_ x160 p0)
def Zd2 (p0 : List Int) (p1 : Int) (p2 : Int) (p3 : Int) (p4_0 : List Int) (self_ : (List Int) → Int → Int → Int → (List Int) → Option (List Int)) (x160 : Int) : Option (List Int) := cond (decide (x160 < p2)) (Zd1 p0 p1 p2 p3 p4_0 self_ x160 (decide (p2 < (IntKind.i64.wrap ((IntKind.i64.wrap ((IntKind.i64.wrap (shrI .u64 (IntKind.u64.wrap (IntKind.i64.wrap (p1 + p3))) 1)) + p2)) - x160))))) (Zd1 p0 p1 p2 p3 p4_0 self_ x160 false)
def Zd3 (p0 : List Int) (p1 : Int) (p2 : Int) (p3 : Int) (p4_0 : List Int) (x142 : Int) (x143 : Int) : Option ((Int × Int) ⊕ (Int)) := cond (decide (x142 < x143)) ((getI p0 (IntKind.i64.wrap ((IntKind.i64.wrap ((IntKind.i64.wrap ((IntKind.i64.wrap (shrI .u64 (IntKind.u64.wrap (IntKind.i64.wrap (p1 + p3))) 1)) + p2)) - 1)) - (IntKind.i64.wrap (shrI .u64 (IntKind.u64.wrap (IntKind.i64.wrap (x142 + x143))) 1))))).bind fun e153 => (getI p0 (IntKind.i64.wrap (shrI .u64 (IntKind.u64.wrap (IntKind.i64.wrap (x142 + x143))) 1))).bind fun e155 => (Zca e153 e155 p4_0).bind fun r157 => cond (decide (r157 < 0)) (some (.inl (x142, (IntKind.i64.wrap (shrI .u64 (IntKind.u64.wrap (IntKind.i64.wrap (x142 + x143))) 1))))) (some (.inl ((IntKind.i64.wrap ((IntKind.i64.wrap (shrI .u64 (IntKind.u64.wrap (IntKind.i64.wrap (x142 + x143))) 1)) + 1)), x143)))) (some (.inr x142))
def Zd4 (p0 : List Int) (p1 : Int) (p2 : Int) (p3 : Int) (p4_0 : List Int) (self_ : (List Int) → Int → Int → Int → (List Int) → Option (List Int)) (x124 : Int) (x125 : Int) : Option (List Int) := (iter (fun z186 => Zd3 p0 p1 p2 p3 p4_0 z186.1 z186.2) big (x124, x125)).bind fun y187 => Zd2 p0 p1 p2 p3 p4_0 self_ y187
def Zd5 (self_ : (List Int) → Int → Int → Int → (List Int) → Option (List Int)) (p0 : List Int) (p1 : Int) (p2 : Int) (p3 : Int) (p4_0 : List Int) : Option (List Int) := cond ((IntKind.i64.wrap (p2 - p1)) == 1) ((iter (fun z180 => Zcs p0 p1 p4_0 z180.1 z180.2) big (p2, p3)).bind fun y181 => Zcr p0 p1 y181) (cond ((IntKind.i64.wrap (p3 - p2)) == 1) ((iter (fun z184 => Zcw p0 p2 p4_0 z184.1 z184.2) big (p1, p2)).bind fun y185 => Zcv p0 p2 y185) (cond (decide (p2 > (IntKind.i64.wrap (shrI .u64 (IntKind.u64.wrap (IntKind.i64.wrap (p1 + p3))) 1)))) (Zd4 p0 p1 p2 p3 p4_0 self_ (IntKind.i64.wrap ((IntKind.i64.wrap ((IntKind.i64.wrap (shrI .u64 (IntKind.u64.wrap (IntKind.i64.wrap (p1 + p3))) 1)) + p2)) - p3)) (IntKind.i64.wrap (shrI .u64 (IntKind.u64.wrap (IntKind.i64.wrap (p1 + p3))) 1))) (Zd4 p0 p1 p2 p3 p4_0 self_ p1 p2)))
theorem Zd6 (self_ : (List Int) → Int → Int → Int → (List Int) → Option (List Int)) [hself_ : ∀ (p0 : List Int) (p1 : Int) (p2 : Int) (p3 : Int) (p4_0 : List Int), SpO Tryz.prog 290 (self_ p0 p1 p2 p3 p4_0) (.x fun (w00 : Value) => .x fun (b01 : Nat) => .d [cV w00, cI p1, cI p2, cI p3, C.clo 225 [pt b01]] [oA w00 3 kI64 1 p0, oB b01 42 [cM kI64 1 p4_0]] fun r => .d (C.tup []) [oA w00 3 kI64 1 r, oB b01 42 [cM kI64 1 p4_0]])] (p0 : List Int) (p1 : Int) (p2 : Int) (p3 : Int) (p4_0 : List Int) : SpO Tryz.prog 290 (Zd5 self_ p0 p1 p2 p3 p4_0) (.x fun (w00 : Value) => .x fun (b01 : Nat) => .d [cV w00, cI p1, cI p2, cI p3, C.clo 225 [pt b01]] [oA w00 3 kI64 1 p0, oB b01 42 [cM kI64 1 p4_0]] fun r => .d (C.tup []) [oA w00 3 kI64 1 r, oB b01 42 [cM kI64 1 p4_0]]) := ⟨fun w00 b01 => so Tryz.func290 rfl rfl fun r X h => gh (.b (.q 2 (.c1 (fun x36 => .d [(10, cI x36)] []) [0,1] [0,1] (.l2 (fun x18 x19 => .d [(10, cI x18), (11, cI x19)] []) [0,1,4] [0,1] (.b (.r [0] [4,8] [] [0,4,8,12,17,20,24,28,33,38,40] .z) .z)) (.c1 (fun l61 => .d [] [oA w00 3 kI64 1 l61]) [] [1] (.l2 (fun l48 x49 => .d [(13, cI x49)] [oA w00 3 kI64 1 l48]) [0,10] [1] (.b (.r [0,0] [9,13] [15,17] [0,4,8,12,16,20,24,28,32,37,40,44,48,53,56,63,64,71] (.w 16 .z)) .z)) .z))) (.b (.q 2 (.c1 (fun x97 => .d [(14, cI x97)] []) [0,2] [0,1] (.l2 (fun x79 x80 => .d [(14, cI x79), (15, cI x80)] []) [0,2,4] [0,1] (.b (.r [0] [4,8] [] [0,4,8,12,17,20,24,28,33,38,40,44] .z) .z)) (.c1 (fun l122 => .d [] [oA w00 3 kI64 1 l122]) [] [1] (.l2 (fun l109 x110 => .d [(17, cI x110)] [oA w00 3 kI64 1 l109]) [0,14] [1] (.b (.r [0,0] [9,13] [15,17] [0,4,8,12,16,20,24,28,32,37,40,44,48,53,56,63,64,71] (.w 16 .z)) .z)) .z))) (.q 3 (.c2 (fun x124 x125 => .d [(20, cI x124), (21, cI x125)] []) [0,1,2,3,4,18,19] [0,1] .z (.q 1 (.c1 (fun x160 => .d [(20, cI x160)] []) [0,1,2,3,4,18,19] [0,1] (.l2 (fun x142 x143 => .d [(20, cI x142), (21, cI x143)] []) [0,1,2,3,4,18,19,22] [0,1] (.b (.r [0] [6,10] [] [0,4,8,12,16,20,25,28,32,36,41,46,48,52] .z) .z)) (.q 1 (.c1 (fun l166 => .d [] [oA w00 3 kI64 1 l166]) [0,1,3,4,18,20,24] [1] (.c1 (fun x162 => .d [(185, C.bool x162)] []) [0,1,2,3,4,18,20,24] [0,1] .z .z) (.c1 (fun l172 => .d [] [oA w00 3 kI64 1 l172]) [0,3,4,18,24] [1] (.c1 (fun x168 => .d [(199, C.bool x168)] []) [0,1,3,4,18,20,24] [0,1] .z .z) (.c1 (fun x174 => .d [(213, C.bool x174)] []) [0,3,4,18,24] [0,1] .z .z))))))))))⟩
def Zd7 : Nat → (List Int) → Int → Int → Int → (List Int) → Option (List Int)
  | 0 => fun _ _ _ _ _ => none
  | n_ + 1 => Zd5 (Zd7 n_)
theorem Zd8 : ∀ (n_ : Nat) (p0 : List Int) (p1 : Int) (p2 : Int) (p3 : Int) (p4_0 : List Int), SpO Tryz.prog 290 (Zd7 n_ p0 p1 p2 p3 p4_0) (.x fun (w00 : Value) => .x fun (b01 : Nat) => .d [cV w00, cI p1, cI p2, cI p3, C.clo 225 [pt b01]] [oA w00 3 kI64 1 p0, oB b01 42 [cM kI64 1 p4_0]] fun r => .d (C.tup []) [oA w00 3 kI64 1 r, oB b01 42 [cM kI64 1 p4_0]])
  | 0, p0, p1, p2, p3, p4_0 => ⟨fun w00 b01 r h => nomatch h⟩
  | n_ + 1, p0, p1, p2, p3, p4_0 => @Zd6 (Zd7 n_) (Zd8 n_) p0 p1 p2 p3 p4_0
def Zd9 (p0 : List Int) (p1 : Int) (p2 : Int) (p3 : Int) (p4_0 : List Int) : Option (List Int) := Zd7 big p0 p1 p2 p3 p4_0
instance Zda (p0 : List Int) (p1 : Int) (p2 : Int) (p3 : Int) (p4_0 : List Int) : SpO Tryz.prog 290 (Zd9 p0 p1 p2 p3 p4_0) (.x fun (w00 : Value) => .x fun (b01 : Nat) => .d [cV w00, cI p1, cI p2, cI p3, C.clo 225 [pt b01]] [oA w00 3 kI64 1 p0, oB b01 42 [cM kI64 1 p4_0]] fun r => .d (C.tup []) [oA w00 3 kI64 1 r, oB b01 42 [cM kI64 1 p4_0]]) := Zd8 big p0 p1 p2 p3 p4_0

def Zdb (x31 : Int) (l47 : List Int) : Option ((List Int × Int) ⊕ ((List Int))) := some (.inl (l47, (IntKind.i64.wrap (x31 * 2))))
def Zdc (p1 : Int) (p2_0 : List Int) (x31 : Int) (l42 : List Int) (x43 : Int) : Option ((List Int × Int) ⊕ ((List Int))) := cond (decide ((IntKind.i64.wrap (x43 + x31)) < p1)) ((Zd9 l42 x43 (IntKind.i64.wrap (x43 + x31)) p1 p2_0).bind fun r45 => Zdb x31 r45) (Zdb x31 l42)
def Zdd (p1 : Int) (p2_0 : List Int) (x31 : Int) (l36 : List Int) (x37 : Int) (x38 : Int) : Option ((List Int × Int × Int) ⊕ ((List Int × Int))) := cond (decide (x38 ≤ p1)) ((Zd9 l36 x37 (IntKind.i64.wrap (x37 + x31)) x38 p2_0).bind fun r40 => some (.inl (r40, x38, (IntKind.i64.wrap (x38 + (IntKind.i64.wrap (2 * x31))))))) (some (.inr (l36, x37)))
def Zde (p1 : Int) (p2_0 : List Int) (l30 : List Int) (x31 : Int) : Option ((List Int × Int) ⊕ ((List Int))) := cond (decide (x31 < p1)) ((iter (fun z48 => Zdd p1 p2_0 x31 z48.1 z48.2.1 z48.2.2) big (l30, 0, (IntKind.i64.wrap (2 * x31)))).bind fun (y49, y50) => Zdc p1 p2_0 x31 y49 y50) (some (.inr l30))
def Zdf (p1 : Int) (p2_0 : List Int) (l10 : List Int) (x11 : Int) : Option (List Int) := (Zcg l10 x11 p1 p2_0).bind fun r12 => (iter (fun z51 => Zde p1 p2_0 z51.1 z51.2) big (r12, 20)).bind fun y52 => some y52
def Zdg (p1 : Int) (p2_0 : List Int) (l4 : List Int) (x5 : Int) (x6 : Int) : Option ((List Int × Int × Int) ⊕ ((List Int × Int))) := cond (decide (x6 ≤ p1)) ((Zcg l4 x5 x6 p2_0).bind fun r8 => some (.inl (r8, x6, (IntKind.i64.wrap (x6 + 20))))) (some (.inr (l4, x5)))
def Zdh (p0 : List Int) (p1 : Int) (p2_0 : List Int) : Option (List Int) := (iter (fun z53 => Zdg p1 p2_0 z53.1 z53.2.1 z53.2.2) big (p0, 0, 20)).bind fun (y54, y55) => Zdf p1 p2_0 y54 y55
instance Zdi (p0 : List Int) (p1 : Int) (p2_0 : List Int) : SpO Tryz.prog 265 (Zdh p0 p1 p2_0) (.x fun (w00 : Value) => .x fun (b01 : Nat) => .d [cV w00, cI p1, C.clo 225 [pt b01]] [oA w00 3 kI64 1 p0, oB b01 42 [cM kI64 1 p2_0]] fun r => .d (C.tup []) [oA w00 3 kI64 1 r, oB b01 42 [cM kI64 1 p2_0]]) := ⟨fun w00 b01 => so Tryz.func265 rfl rfl fun r X h => gh (.q 2 (.c2 (fun l10 x11 => .d [(7, cI x11)] [oA w00 3 kI64 1 l10]) [0,1,2,6] [1] (.l3 (fun l4 x5 x6 => .d [(7, cI x5), (8, cI x6)] [oA w00 3 kI64 1 l4]) [0,1,2,6] [1] .z) (.l2 (fun l30 x31 => .d [(6, cI x31)] [oA w00 3 kI64 1 l30]) [0,1,2] [1] (.b (.q 1 (.c2 (fun l42 x43 => .d [(7, cI x43)] [oA w00 3 kI64 1 l42]) [0,1,2,6] [1] (.l3 (fun l36 x37 x38 => .d [(7, cI x37), (8, cI x38)] [oA w00 3 kI64 1 l36]) [0,1,2,6] [1] .z) (.c1 (fun l47 => .d [] [oA w00 3 kI64 1 l47]) [0,1,2,6] [1] .z .z))) .z))))⟩

def Zdj (p0 : List Int) (p1_0 : List Int) : Option (List Int) := (Zdh p0 (p0.length : Int) p1_0).bind fun r1 => some r1
instance Zdk (p0 : List Int) (p1_0 : List Int) : SpO Tryz.prog 224 (Zdj p0 p1_0) (.x fun (w00 : Value) => .x fun (b01 : Nat) => .d [cV w00, C.clo 225 [pt b01]] [oA w00 3 kI64 1 p0, oB b01 42 [cM kI64 1 p1_0]] fun r => .d (C.tup []) [oA w00 3 kI64 1 r, oB b01 42 [cM kI64 1 p1_0]]) := ⟨fun w00 b01 => so Tryz.func224 rfl rfl fun r X h => gh .z⟩

def Zdl (l46 : List Int) : Option (List Int) := some l46
def Zdm (p0 : Yaf) (r21 : List Int) (l34 : List Int) (x35 : Int) : Option ((List Int × Int) ⊕ ((List Int))) := cond (decide (x35 < (r21.length : Int))) ((getI r21 x35).bind fun e37 => (getI p0.events e37).bind fun e39 => (chk (decide ((l34.length + [e39.id].length) * 8 ≤ 140737488355328))).bind fun u43 => some (.inl ((l34 ++ [e39.id]), (IntKind.i64.wrap (x35 + 1))))) (some (.inr l34))
def Zdn (p0 : Yaf) (r2 : List Int × Bool) (l20 : List Int) : Option (List Int) := (Zdj l20 r2.1).bind fun r21 => (iter (fun z48 => Zdm p0 r21 z48.1 z48.2) big (([] : List Int), 0)).bind fun y49 => Zdl y49
def Zdo (p0 : Yaf) (l12 : List Int) (x13 : Int) : Option ((List Int × Int) ⊕ ((List Int))) := cond (decide (x13 < (p0.events.length : Int))) ((chk (decide ((l12.length + [x13].length) * 8 ≤ 140737488355328))).bind fun u17 => some (.inl ((l12 ++ [x13]), (IntKind.i64.wrap (x13 + 1))))) (some (.inr l12))
def Zdp (p0 : Yaf) : Option (List Int) := (Zbo p0).bind fun r2 => (iter (fun z50 => Zdo p0 z50.1 z50.2) big (([] : List Int), 0)).bind fun y51 => Zdn p0 r2 y51
instance Zdq (p0 : Yaf) : SpO Tryz.prog 156 (Zdp p0) (.d [C.agg [cI p0.room, cM Yap 9 p0.events, cM Yap 9 p0.parked]] [] fun r => .x fun (v47 : Value) => .d (cV v47) [oA v47 2 kI64 1 r]) := ⟨so Tryz.func156 rfl rfl fun r X h => gh (.q 3 (.c1 (fun l20 => .x fun v19 => .d [(5, cV v19)] [oA v19 3 kI64 1 l20]) [1,3] [2,1] (.l2 (fun l12 x13 => .x fun v11 => .d [(5, cV v11), (19, cI x13)] [oA v11 3 kI64 1 l12]) [1,3,18] [2,1] .z) (.q 2 (.c1 (fun l46 => .x fun v45 => .d [(7, cV v45)] [oA v45 2 kI64 1 l46]) [] [] (.l2 (fun l34 x35 => .x fun v33 => .d [(7, cV v33), (33, cI x35)] [oA v33 2 kI64 1 l34]) [1,31,32] [3,1] .z) .z))))⟩
instance Zdq' (p0 : Yaf) : Sp Tryz.prog 156 [C.agg [cI p0.room, cM Yap 9 p0.events, cM Yap 9 p0.parked]] (Zdp p0) (fun r => cM kI64 1 r) := ⟨fun r h => Ok.freeze ((Zdq p0).h r h) (by rintro c qs ⟨v47, rfl, rfl⟩; exact Frz.arr)⟩

def Zdr (p0 : Yaf) (p1 : Int) : Option (Yaa × Bool) := (Zb3 p0.events p1).bind fun r3 => cond r3.2 ((getI p0.events r3.1).bind fun e6 => some (e6, true)) (some ((Yaa.mk 0 0 0 0 0 0 ByteArray.empty [] 0), false))
instance Zds (p0 : Yaf) (p1 : Int) : Sp Tryz.prog 120 [C.agg [cI p0.room, cM Yap 9 p0.events, cM Yap 9 p0.parked], cI p1] (Zdr p0 p1) (fun r => C.tup [C.agg [cI r.1.id, cI r.1.room, cI r.1.author, cI r.1.kind, cI r.1.key, cI r.1.n, C.str r.1.text, cM kI64 1 r.1.prev, cI r.1.time], C.bool r.2]) := Sp.of (so Tryz.func120 rfl rfl fun r X h => gh .z)

def Zdt (l20 : List (List Yai)) : Option (List (List Yai)) := some l20
def Zdu (p0 : Yan) (p1 : List Int) (l10 : List (List Yai)) (x11 : Int) : Option ((List (List Yai) × Int) ⊕ ((List (List Yai)))) := cond (decide (x11 < (p1.length : Int))) ((getI p1 x11).bind fun e13 => (chk (decide ((l10.length + [(Option.getD (mget p0.after e13) ([] : List Yai))].length) * 24 ≤ 140737488355328))).bind fun u17 => some (.inl ((l10 ++ [(Option.getD (mget p0.after e13) ([] : List Yai))]), (IntKind.i64.wrap (x11 + 1))))) (some (.inr l10))
def Zdv (p0 : Yan) (p1 : List Int) : Option (List (List Yai)) := (iter (fun z22 => Zdu p0 p1 z22.1 z22.2) big (([] : List (List Yai)), 0)).bind fun y23 => Zdt y23
instance Zdw (p0 : Yan) (p1 : List Int) : SpO Tryz.prog 188 (Zdv p0 p1) (.x fun (b00 : Nat) => .x fun (b01 : Nat) => .x fun (b02 : Nat) => .x fun (b03 : Nat) => .x fun (b04 : Nat) => .d [pt b00, cM kI64 1 p1] [oB b00 128 [cI p0.graph.room, cM Yap 9 p0.graph.events, cM Yap 9 p0.graph.parked, mt b01, mt b02, mt b03, mt b04], Abs.Obj.map b01 .i64 Yb8 p0.depth, Abs.Obj.map b02 .i64 Yb9 p0.before, Abs.Obj.map b03 .i64 Yb9 p0.after, Abs.Obj.map b04 .i64 Yb8 p0.refused] fun r => .x fun (v21 : Value) => .d (cV v21) [oA v21 165 Yb2 1 r, oB b00 128 [cI p0.graph.room, cM Yap 9 p0.graph.events, cM Yap 9 p0.graph.parked, mt b01, mt b02, mt b03, mt b04], Abs.Obj.map b01 .i64 Yb8 p0.depth, Abs.Obj.map b02 .i64 Yb9 p0.before, Abs.Obj.map b03 .i64 Yb9 p0.after, Abs.Obj.map b04 .i64 Yb8 p0.refused]) := ⟨fun b00 b01 b02 b03 b04 => so Tryz.func188 rfl rfl fun r X h => gh (.q 2 (.c1 (fun l20 => .x fun v19 => .d [(5, cV v19)] [oA v19 165 Yb2 1 l20]) [] [1,2,3,4,5] (.l2 (fun l10 x11 => .x fun v9 => .d [(5, cV v9), (11, cI x11)] [oA v9 165 Yb2 1 l10]) [0,9,10] [1,2,3,4,5] .z) .z))⟩

def Zdx : Option Int := some (-1)
def Zdy (p0 : List Yai) (p1 : Yai) (x6 : Int) : Option (Int ⊕ (Int ⊕ Unit)) := cond (decide (x6 < (p0.length : Int))) ((getI p0 x6).bind fun e8 => cond ((p1.kind == e8.kind) && ((p1.key == e8.key) && ((p1.id == e8.id) && true))) (some (.inr (.inl x6))) (some (.inl (IntKind.i64.wrap (x6 + 1))))) (some (.inr (.inr ())))
def Zdz (p0 : List Yai) (p1 : Yai) : Option Int := (iter (Zdy p0 p1) big 0).bind (fun z12 => match z12 with | .inl y11 => some y11 | .inr () => Zdx)
instance Ze0 (p0 : List Yai) (p1 : Yai) : Sp Tryz.prog 270 [cM Yb1 3 p0, C.agg [cI p1.kind, cI p1.key, cI p1.id]] (Zdz p0 p1) (fun r => cI r) := Sp.of (so Tryz.func270 rfl rfl fun r X h => gh (.q 1 (.c0 (.d [] []) [] [] (.l1 (fun x6 => .d [(8, cI x6)] []) [0,3,7] [0] (.b (.r [0] [0,4] [] [1,4,8,12,17,20] .z) .z)) .z)))

def Ze1 (p0 : List Yai) (p1 : Yai) : Option Bool := (Zdz p0 p1).bind fun r2 => some (decide (r2 ≥ 0))
instance Ze2 (p0 : List Yai) (p1 : Yai) : Sp Tryz.prog 249 [cM Yb1 3 p0, C.agg [cI p1.kind, cI p1.key, cI p1.id]] (Ze1 p0 p1) (fun r => C.bool r) := Sp.of (so Tryz.func249 rfl rfl fun r X h => gh .z)

def Ze3 (x6 : Bool) : Option Bool := some x6
def Ze4 (p0 : Yaa) : Option Bool := cond (p0.kind == 1) (Ze3 true) (cond (p0.kind == 3) (Ze3 true) (cond (p0.kind == 5) (Ze3 true) (cond (p0.kind == 2) (Ze3 (p0.key != p0.author)) (Ze3 false))))
instance Ze5 (p0 : Yaa) : Sp Tryz.prog 252 [C.agg [cI p0.id, cI p0.room, cI p0.author, cI p0.kind, cI p0.key, cI p0.n, C.str p0.text, cM kI64 1 p0.prev, cI p0.time]] (Ze4 p0) (fun r => C.bool r) := Sp.of (so Tryz.func252 rfl rfl fun r X h => gh (.q 1 (.c1 (fun x6 => .d [(2, C.bool x6)] []) [] [] .z .z)))

def Ze6 : Option Int := some 0
def Ze7 (p0 : List Int) (x5 : Int) : Option (Int ⊕ (Int ⊕ Unit)) := cond (decide (x5 < (p0.length : Int))) ((getI p0 x5).bind fun e7 => cond (e7 != 0) (some (.inr (.inl e7))) (some (.inl (IntKind.i64.wrap (x5 + 1))))) (some (.inr (.inr ())))
def Ze8 (p0 : List Int) : Option Int := (iter (Ze7 p0) big 0).bind (fun z11 => match z11 with | .inl y10 => some y10 | .inr () => Ze6)
instance Ze9 (p0 : List Int) : Sp Tryz.prog 253 [cM kI64 1 p0] (Ze8 p0) (fun r => cI r) := Sp.of (so Tryz.func253 rfl rfl fun r X h => gh (.q 2 (.c0 (.d [] []) [3] [] (.l1 (fun x5 => .d [(8, cI x5)] []) [3,6,7] [] .z) .z)))

def Zea (p0 : Yai) (p1 : Yai) : Option Int := (Zau p0.kind p1.kind).bind fun r3 => (Zau p0.key p1.key).bind fun r5 => (Ze8 [r3, r5]).bind fun r8 => some r8
instance Zeb (p0 : Yai) (p1 : Yai) : Sp Tryz.prog 300 [C.agg [cI p0.kind, cI p0.key, cI p0.id], C.agg [cI p1.kind, cI p1.key, cI p1.id]] (Zea p0 p1) (fun r => cI r) := Sp.of (so Tryz.func300 rfl rfl fun r X h => gh (.r [0,0] [1,3,6,8] [] [0,5,8,13,20,25,28,33,18,38,42,46,48] .z))

def Zec (x16 : Int) (x22 : Bool) : Option (Int × Bool) := some (x16, x22)
def Zed (p0 : List Yai) (p1 : Yai) (x16 : Int) : Option (Int × Bool) := cond (decide (x16 < (p0.length : Int))) ((getI p0 x16).bind fun e18 => (Zea e18 p1).bind fun r20 => Zec x16 (r20 == 0)) (Zec x16 false)
def Zee (p0 : List Yai) (p1 : Yai) (x8 : Int) (x9 : Int) : Option ((Int × Int) ⊕ (Int)) := cond (decide (x8 < x9)) ((getI p0 (IntKind.i64.wrap (shrI .u64 (IntKind.u64.wrap (IntKind.i64.wrap (x8 + x9))) 1))).bind fun e11 => (Zea e11 p1).bind fun r13 => cond (decide (r13 < 0)) (some (.inl ((IntKind.i64.wrap ((IntKind.i64.wrap (shrI .u64 (IntKind.u64.wrap (IntKind.i64.wrap (x8 + x9))) 1)) + 1)), x9))) (some (.inl (x8, (IntKind.i64.wrap (shrI .u64 (IntKind.u64.wrap (IntKind.i64.wrap (x8 + x9))) 1)))))) (some (.inr x8))
def Zef (p0 : List Yai) (p1 : Yai) : Option (Int × Bool) := (iter (fun z23 => Zee p0 p1 z23.1 z23.2) big (0, (p0.length : Int))).bind fun y24 => Zed p0 p1 y24
instance Zeg (p0 : List Yai) (p1 : Yai) : Sp Tryz.prog 299 [cM Yb1 3 p0, C.agg [cI p1.kind, cI p1.key, cI p1.id], cV (.func (.func 300) #[] #[])] (Zef p0 p1) (fun r => C.tup [cI r.1, C.bool r.2]) := Sp.of (so Tryz.func299 rfl rfl fun r X h => gh (.q 3 (.c1 (fun x16 => .d [(9, cI x16)] []) [0,2,4,8] [0] (.l2 (fun x8 x9 => .d [(9, cI x8), (10, cI x9)] []) [0,2,4,8] [0] (.b (.r [0] [4,5] [] [0,4,8,12,17,21,26,28] .z) .z)) (.e 9 cI fun x16 => .c1 (fun x22 => .d [(6, cI x16), (7, C.bool x22)] []) [] [] (.r [0] [9,10] [] [0,4,8,12,16,20,24,28,32,37,41,46,48,52,56,60] .z) .z))))

def Zeh (p0 : List Yai) (p1 : Yai) : Option (Int × Bool) := (Zef p0 p1).bind fun r2 => some (r2.1, r2.2)
instance Zei (p0 : List Yai) (p1 : Yai) : Sp Tryz.prog 273 [cM Yb1 3 p0, C.agg [cI p1.kind, cI p1.key, cI p1.id]] (Zeh p0 p1) (fun r => C.tup [cI r.1, C.bool r.2]) := Sp.of (so Tryz.func273 rfl rfl fun r X h => gh .z)

def Zej (p0 : List Yai) (p1 : Int) (p2 : Int) : Option Int := (Zeh p0 (Yai.mk p1 p2 0)).bind fun r1 => cond r1.2 ((getI p0 r1.1).bind fun e4 => some e4.id) (some 0)
instance Zek (p0 : List Yai) (p1 : Int) (p2 : Int) : Sp Tryz.prog 268 [cM Yb1 3 p0, cI p1, cI p2] (Zej p0 p1 p2) (fun r => cI r) := Sp.of (so Tryz.func268 rfl rfl fun r X h => gh .z)

def Zel (p0 : Yaf) (p1 : List Yai) (p2 : Int) (p3 : Int) : Option (Yaa × Bool) := (Zej p1 p2 p3).bind fun r3 => (Zdr p0 r3).bind fun r5 => some (r5.1, r5.2)
instance Zem (p0 : Yaf) (p1 : List Yai) (p2 : Int) (p3 : Int) : Sp Tryz.prog 241 [C.agg [cI p0.room, cM Yap 9 p0.events, cM Yap 9 p0.parked], cM Yb1 3 p1, cI p2, cI p3] (Zel p0 p1 p2 p3) (fun r => C.tup [C.agg [cI r.1.id, cI r.1.room, cI r.1.author, cI r.1.kind, cI r.1.key, cI r.1.n, C.str r.1.text, cM kI64 1 r.1.prev, cI r.1.time], C.bool r.2]) := Sp.of (so Tryz.func241 rfl rfl fun r X h => gh (.r [0,0] [0] [8] [1,4,8,12,18,22,24,28,35,36] .z))

def Zen (p0 : Yaf) (p1 : List Yai) (p2 : Int) : Option Int := (Zel p0 p1 2 p2).bind fun r2 => some r2.1.n
instance Zeo (p0 : Yaf) (p1 : List Yai) (p2 : Int) : Sp Tryz.prog 242 [C.agg [cI p0.room, cM Yap 9 p0.events, cM Yap 9 p0.parked], cM Yb1 3 p1, cI p2] (Zen p0 p1 p2) (fun r => cI r) := Sp.of (so Tryz.func242 rfl rfl fun r X h => gh .z)

def Zep (x10 : Bool) : Option Int := cond x10 (some 100) (some 0)
def Zeq (p0 : Yaf) (p1 : List Yai) (p2 : Int) : Option Int := (Zel p0 p1 3 p2).bind fun r2 => cond r2.2 (some r2.1.n) ((Zel p0 p1 1 0).bind fun r6 => cond r6.2 (Zep (r6.1.author == p2)) (Zep false))
instance Zer (p0 : Yaf) (p1 : List Yai) (p2 : Int) : Sp Tryz.prog 243 [C.agg [cI p0.room, cM Yap 9 p0.events, cM Yap 9 p0.parked], cM Yb1 3 p1, cI p2] (Zeq p0 p1 p2) (fun r => cI r) := Sp.of (so Tryz.func243 rfl rfl fun r X h => gh (.b .z (.q 2 (.c1 (fun x10 => .d [(33, C.bool x10)] []) [] [] .z .z))))

def Zes (p0 : Bool) : Option Int := cond p0 (some 11) (some 0)
instance Zet (p0 : Bool) : Sp Tryz.prog 246 [C.bool p0] (Zes p0) (fun r => cI r) := Sp.of (so Tryz.func246 rfl rfl fun r X h => gh .z)

def Zeu (x23 : Int) : Option Int := some x23
def Zev (p0 : Yaf) (p1 : List Yai) (p2 : Yaa) (p3 : Int) (x4 : Bool) : Option Int := cond (p2.n == 1) ((Zel p0 p1 5 0).bind fun r6 => (Zel p0 p1 1 0).bind fun r9 => cond (p3 == 3) ((Zes true).bind fun r13 => Zeu r13) (cond x4 ((Zes false).bind fun r16 => Zeu r16) (cond (r6.1.n != 1) ((Zes (r9.1.author != p2.author)).bind fun r19 => Zeu r19) ((Zes false).bind fun r21 => Zeu r21)))) (cond (p2.n == 2) ((Zes (!x4)).bind fun r25 => some r25) (some 11))
def Zew (p0 : Yaf) (p1 : List Yai) (p2 : Yaa) (p3 : Int) : Option Int := cond (p3 == 1) (Zev p0 p1 p2 p3 true) (Zev p0 p1 p2 p3 (p3 == 4))
instance Zex (p0 : Yaf) (p1 : List Yai) (p2 : Yaa) (p3 : Int) : Sp Tryz.prog 244 [C.agg [cI p0.room, cM Yap 9 p0.events, cM Yap 9 p0.parked], cM Yb1 3 p1, C.agg [cI p2.id, cI p2.room, cI p2.author, cI p2.kind, cI p2.key, cI p2.n, C.str p2.text, cM kI64 1 p2.prev, cI p2.time], cI p3] (Zew p0 p1 p2 p3) (fun r => cI r) := Sp.of (so Tryz.func244 rfl rfl fun r X h => gh (.q 1 (.c1 (fun x4 => .d [(9, C.bool x4)] []) [1,3,4,6] [1,0] .z (.b (.q 2 (.c1 (fun x23 => .d [(8, cI x23)] []) [] [] .z .z)) .z))))

def Zey (x15 : Int) : Option Int := some x15
def Zez (x25 : Int) : Option Int := some x25
def Zf0 (x32 : Int) : Option Int := some x32
def Zf1 (p2 : Yaa) (r3 : Int) (x8 : Bool) : Option Int := cond (p2.n == 4) (cond (r3 == 1) ((Zes true).bind fun r11 => Zey r11) ((Zes (r3 == 3)).bind fun r13 => Zey r13)) (cond (p2.n == 2) (cond x8 ((Zes true).bind fun r18 => Zez r18) (cond (r3 == 0) ((Zes true).bind fun r21 => Zez r21) ((Zes (r3 == 2)).bind fun r23 => Zez r23))) (cond (p2.n == 3) (cond x8 ((Zes true).bind fun r28 => Zf0 r28) ((Zes (r3 == 3)).bind fun r30 => Zf0 r30)) (some 11)))
def Zf2 (p0 : Yaf) (p1 : List Yai) (p2 : Yaa) (p3 : Int) : Option Int := (Zen p0 p1 p2.key).bind fun r3 => (Zeq p0 p1 p2.key).bind fun r5 => cond (decide (p3 < 50)) (Zf1 p2 r3 true) (Zf1 p2 r3 (decide (p3 ≤ r5)))
instance Zf3 (p0 : Yaf) (p1 : List Yai) (p2 : Yaa) (p3 : Int) : Sp Tryz.prog 245 [C.agg [cI p0.room, cM Yap 9 p0.events, cM Yap 9 p0.parked], cM Yb1 3 p1, C.agg [cI p2.id, cI p2.room, cI p2.author, cI p2.kind, cI p2.key, cI p2.n, C.str p2.text, cM kI64 1 p2.prev, cI p2.time], cI p3] (Zf2 p0 p1 p2 p3) (fun r => cI r) := Sp.of (so Tryz.func245 rfl rfl fun r X h => gh (.r [0,0] [0,3,5,8] [] [1,4,8,13,21,24,28,33,18,38,40,44] (.c1 (fun x8 => .d [(11, C.bool x8)] []) [6,9] [0] .z (.b (.c1 (fun x15 => .d [(8, cI x15)] []) [] [] .z .z) (.b (.c1 (fun x25 => .d [(8, cI x25)] []) [] [] .z .z) (.b (.c1 (fun x32 => .d [(8, cI x32)] []) [] [] .z .z) .z))))))

def Zf4 (x38 : Int) : Option Int := some x38
def Zf5 (x55 : Int) : Option Int := some x55
def Zf6 (p0 : Yaf) (p2 : Yaa) (r8 : Int) (x41 : Bool) : Option Int := cond x41 ((Zes (decide (r8 < 50))).bind fun r43 => some r43) (cond (p2.kind == 8) ((Zdr p0 p2.key).bind fun r46 => cond r46.2 (cond (decide (r8 < 50)) ((Zes (r46.1.author != p2.author)).bind fun r51 => Zf5 r51) ((Zes false).bind fun r53 => Zf5 r53)) (some 6)) (some 0))
def Zf7 (p0 : Yaf) (p1 : List Yai) (p2 : Yaa) (r6 : Int) (r8 : Int) (x16 : Bool) : Option Int := cond x16 ((Zew p0 p1 p2 r6).bind fun r18 => some r18) (cond (r6 != 1) (some 11) (cond (p2.kind == 2) ((Zf2 p0 p1 p2 r8).bind fun r22 => some r22) (cond (p2.kind == 3) (cond (decide (r8 < 50)) ((Zes true).bind fun r26 => Zf4 r26) (cond (decide (p2.n > r8)) ((Zes true).bind fun r29 => Zf4 r29) (cond (p2.key != p2.author) ((Zeq p0 p1 p2.key).bind fun r32 => (Zes (decide (r32 ≥ r8))).bind fun r34 => Zf4 r34) ((Zes false).bind fun r36 => Zf4 r36)))) (cond (p2.kind == 4) (Zf6 p0 p2 r8 (p2.kind == 4)) (cond (p2.kind == 5) (Zf6 p0 p2 r8 (p2.kind == 5)) (Zf6 p0 p2 r8 (p2.kind == 6)))))))
def Zf8 (p0 : Yaf) (p1 : List Yai) (p2 : Yaa) (r3 : Yaa × Bool) (r6 : Int) (r8 : Int) (x11 : Bool) : Option Int := cond x11 (some 7) (cond (p2.kind == 1) (some 0) (cond r3.2 (cond (p2.kind == 2) (Zf7 p0 p1 p2 r6 r8 (p2.key == p2.author)) (Zf7 p0 p1 p2 r6 r8 false)) (some 10)))
def Zf9 (p0 : Yaf) (p1 : List Yai) (p2 : Yaa) : Option Int := (Zel p0 p1 1 0).bind fun r3 => (Zen p0 p1 p2.author).bind fun r6 => (Zeq p0 p1 p2.author).bind fun r8 => cond (p2.kind == 1) (Zf8 p0 p1 p2 r3 r6 r8 r3.2) (Zf8 p0 p1 p2 r3 r6 r8 false)
instance Zfa (p0 : Yaf) (p1 : List Yai) (p2 : Yaa) : Sp Tryz.prog 186 [C.agg [cI p0.room, cM Yap 9 p0.events, cM Yap 9 p0.parked], cM Yb1 3 p1, C.agg [cI p2.id, cI p2.room, cI p2.author, cI p2.kind, cI p2.key, cI p2.n, C.str p2.text, cM kI64 1 p2.prev, cI p2.time]] (Zf9 p0 p1 p2) (fun r => cI r) := Sp.of (so Tryz.func186 rfl rfl fun r X h => gh (.r [0,0,0] [0,3,5,8] [] [1,4,8,13,21,24,28,33,18,38,40,44] (.q 1 (.c1 (fun x11 => .d [(29, C.bool x11)] []) [1,3,5,8,9,10] [2,1] .z (.b .z (.b .z (.b (.c1 (fun x16 => .d [(43, C.bool x16)] []) [1,3,5,9,10] [0,1] .z (.b .z (.b .z (.b .z (.b (.c1 (fun x38 => .d [(6, cI x38)] []) [] [] .z .z) (.c1 (fun x41 => .d [(98, C.bool x41)] []) [3,5,10,63] [0,1] .z (.b .z (.b (.b (.c1 (fun x55 => .d [(6, cI x55)] []) [] [] .z .z) .z) .z)))))))) .z)))))))

def Zfb (p0 : List Yai) : Option (List Yai) := (chk (decide (p0.length * 24 ≤ 140737488355328))).bind fun _ => some p0
theorem Zfc (p0 : List Yai) (r : List Yai) (h : Zfb p0 = some r) : Ok Tryz.prog 272 [cM Yb1 3 p0] [] (fun c qs => ∃ (v : Value), c = cV v ∧ qs = [oA v 235 Yb1 3 r]) := by
 refine ob' h fun u hc h => ?_
 obtain rfl := Wj h
 have hc := Wo (Y45 hc)
 refine Ok.of_body (rs := [.tmp 2]) Tryz.func272 rfl rfl rfl rfl rfl fun X => ?_
 refine zw ?_
 refine Ops.h (ns := []) rfl rfl (Y63 Yee.h rfl rfl) ?_
 rintro _ _ ⟨b, hb, rfl, rfl⟩
 refine zw ?_
 refine tf' b (fun hq => ?_) (fun hq => ?_)
 ·
  refine AW.cond rfl (fun _ => ?_) (fun hn => absurd (hq.symm.trans hn) (by decide))
  refine zw ?_
  refine AW.ret ?_
  obtain rfl := hb hq
  exact finI ⟨[cV s0], _, Y25.nil 235 Yb1 3, .cons (.tmp rfl) .nil, [0], _, _, rfl, ⟨_, rfl, rfl⟩⟩
 refine AW.cond rfl (fun hn => absurd (hq.symm.trans hn) (by decide)) (fun _ => ?_)
 refine zw ?_
 refine Ops.h (ns := []) rfl rfl (Y3l (k := Yb1) (ys := ([] : List Yai)) Yek .nil rfl rfl rfl) ?_
 rintro _ _ ⟨b1, rfl, rfl⟩
 refine zw ?_
 refine Ops.h (ns := [0]) rfl rfl (Y33 Yek rfl rfl (by simpa using hc) (by simp; omega) rfl) ?_
 rintro _ _ ⟨v, rfl, rfl⟩
 refine zw ?_
 refine AW.ret ?_
 exact finI ⟨[cV v], _, Y25.refl _, .cons (.tmp rfl) .nil, [0], _, _, rfl, ⟨v, rfl, rfl⟩⟩
instance Zfc' (p0 : List Yai) : Sp Tryz.prog 272 [cM Yb1 3 p0] (Zfb p0) (fun r => cM Yb1 3 r) := ⟨fun r h => Ok.freeze (Zfc p0 r h) (by rintro c qs ⟨v, rfl, rfl⟩; exact Frz.arr)⟩
instance Zfd (p0 : List Yai) : SpO Tryz.prog 272 (Zfb p0) (.d [cM Yb1 3 p0] [] fun r => .x fun (v : Value) => .d (cV v) [oA v 235 Yb1 3 r]) := ⟨fun r h => Zfc p0 r h⟩

def Zfe (p0 : List Yai) (p1 : Int) (p2 : Int) : Option (List Yai) := delI p0 p1 p2
theorem Zff {w1 : Value} (p0 : List Yai) (p1 : Int) (p2 : Int) (r : List Yai) (h : Zfe p0 p1 p2 = some r) : Ok Tryz.prog 274 [cV w1, cI p1, cI p2] [oA w1 235 Yb1 3 p0] (fun c qs => ∃ (v : Value), c = cV v ∧ qs = [oA v 235 Yb1 3 r]) := by
 obtain ⟨a, b, rfl, rfl, hij, hj, rfl⟩ := Y7z h
 refine Ok.of_body (rs := [.tmp 6]) Tryz.func274 rfl rfl rfl rfl rfl fun X => ?_
 refine AW.learn (Sim.arr_cap (p := 0) rfl) fun hw => ?_
 obtain ⟨A, cap, rfl, hc, _, _⟩ := hw
 refine zw ?_
 refine Ops.v rfl (Y80 (p := 0) Yee.h rfl rfl rfl rfl rfl hij hj rfl) ?_
 refine zw ?_
 refine tf' (((a : Nat) : Int) == ((b : Nat) : Int)) (fun hq => ?_) (fun hq => ?_)
 ·
  refine AW.cond rfl (fun _ => ?_) (fun hn => absurd (hq.symm.trans hn) (by decide))
  refine zw ?_
  refine AW.ret ?_
  obtain rfl : a = b := by have := eq_of_beq hq; omega
  rw [List.take_append_drop]
  exact finI ⟨[cV (.slice A p0.length cap)], _, Y25.refl _, .cons (.tmp rfl) .nil, [0], _, _, rfl, ⟨_, rfl, rfl⟩⟩
 refine AW.cond rfl (fun hn => absurd (hq.symm.trans hn) (by decide)) (fun _ => ?_)
 refine zw ?_
 refine rD [] [] [] [0,4,8,12,16,20,26,28] ?_
 refine zw ?_
 refine OpsD.v rfl rfl (Y84 Yee.h rfl rfl (by omega) hc rfl) ?_
 refine zw ?_
 refine OpsD.v rfl rfl (Y83 Yee.h rfl rfl hj hc rfl) ?_
 refine OpsD.one ?_
 refine Y3z.h (ns := [0]) rfl rfl rfl (Y81 (v := .slice A p0.length cap) Yek rfl rfl hij hj rfl) ?_
 rintro _ _ ⟨rfl, rfl⟩
 refine zw ?_
 refine Ops.v rfl (Y2j Yee.h rfl rfl) ?_
 refine zw ?_
 refine Ops.v rfl (Y82 (p := 0) (h := p0.length) (v := .slice A p0.length cap) (l := a + (p0.length - b)) Yee.h rfl rfl rfl rfl (by omega) (by simp; omega) rfl) ?_
 refine Ops.h (ns := [0]) rfl rfl (Y7w (v := .slice A p0.length cap) (l := a + (p0.length - b)) (z := (Yai.mk 0 0 0)) Yek Yer (Y4g rfl rfl) rfl (by simp <;> omega)) ?_
 rintro _ _ ⟨rfl, rfl⟩
 refine zw ?_
 refine AW.ret ?_
 exact finI ⟨[cV (Y7m (.slice A p0.length cap) (a + (p0.length - b)))], _, Y25.prefix (p := 0) (h := a + (p0.length - b)) rfl (by simp; omega), .cons (.tmp rfl) .nil, [0], _, _, rfl, ⟨_, rfl, by rw [Y85 hij hj]⟩⟩
instance Zfg (p0 : List Yai) (p1 : Int) (p2 : Int) : SpO Tryz.prog 274 (Zfe p0 p1 p2) (.x fun (w1 : Value) => .d [cV w1, cI p1, cI p2] [oA w1 235 Yb1 3 p0] fun r => .x fun (v : Value) => .d (cV v) [oA v 235 Yb1 3 r]) := ⟨fun w1 r h => Zff p0 p1 p2 r h⟩

end Go.Proofs.YtnoknphekhclcaaGreat
