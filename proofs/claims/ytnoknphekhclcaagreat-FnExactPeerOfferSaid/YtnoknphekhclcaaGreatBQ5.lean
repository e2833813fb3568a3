/- Printed by gen.py: plain functions for Go functions, and that the walks keep to them. -/
import Derived.Test.YtnoknphekhclcaaGreatBQ4
set_option autoImplicit false
set_option linter.unusedVariables false
set_option linter.unusedSimpArgs false
set_option maxHeartbeats 8000000
set_option maxRecDepth 100000
namespace Go.Proofs.YtnoknphekhclcaaGreat
open Go Go.Abs
attribute [local irreducible] AW Ops OpsD Y3z VoK HoK GhF UsC Go.Abs.Fin PkK LenT LenL Y9q BldK FzK FzLK
def Zit (l29 : List Int) : Option (List Yam) := (Zil l29).bind fun r30 => (Zir r30).bind fun r32 => some r32
def Ziu (p0 : Yaf) (r3 : List Yaa) (l18 : List Int) (x19 : Int) : Option ((List Int × Int) ⊕ ((List Int))) := cond (decide (x19 < ((r3 ++ p0.parked).length : Int))) ((getI (r3 ++ p0.parked) x19).bind fun e21 => (chk (decide ((l18.length + [e21.id].length) * 8 ≤ 140737488355328))).bind fun u26 => some (.inl ((l18 ++ [e21.id]), (IntKind.i64.wrap (x19 + 1))))) (some (.inr l18))
def Ziv (p0 : Yaf) : Option (List Yam) := (Zia p0.events).bind fun r3 => (chk (decide ((r3.length + p0.parked.length) * 96 ≤ 140737488355328))).bind fun u7 => (iter (fun z36 => Ziu p0 r3 z36.1 z36.2) big (([] : List Int), 0)).bind fun y37 => Zit y37
theorem Ziw (p0 : Yaf) (r : List Yam) (h : Ziv p0 = some r) : Ok Tryz.prog 73 [C.agg [cI p0.room, cM Yap 9 p0.events, cM Yap 9 p0.parked]] [] (fun c qs => ∃ (v35 : Value), c = cV v35 ∧ qs = [oA v35 182 Yb7 2 r]) := by
 refine Ok.of_body (rs := [.tmp 2]) Tryz.func73 rfl rfl rfl rfl rfl fun X => ?_
 unfold Ziv at h
 refine zw ?_
 refine ox fun b1 => ?_
 refine zw ?_
 refine Ops.h (ns := []) rfl rfl (Y3l (k := kI64) (ys := ([] : List Int)) Yc9 .nil rfl rfl rfl) ?_
 rintro _ _ ⟨b2, rfl, rfl⟩
 refine Ops.v rfl (Ys rfl rfl) ?_
 refine Ops.nil ?_
 refine AW.seq ?_
 refine AW.cut (τ := List Int × Value) (fun (l29, v28) => ⟨[(3, cV v28)], [oA v28 2 kI64 1 l29]⟩) (fun (l29, v28) => Zit l29 = some r) ?_ ?_
 ·
  refine zw ?_
  refine rD [0,0] [1,4] [] [0,5,12,17,28,10,22,24] ?_
  refine zw ?_
  refine ob' h fun r3 g4 h => ?_
  refine Y3z.h (ns := []) rfl rfl rfl (Y27 (Zib _ _ g4) rfl rfl) ?_
  rintro _ _ ⟨_, ⟨v5, rfl, rfl⟩, rfl⟩
  refine zw ?_
  refine ob' h fun u7 c6 h => ?_
  refine Y3z.h (ns := [0]) rfl rfl rfl (HOp.flat Ycu (Y33 Ycs rfl rfl (Wo (Y45 c6)) (Y48 (by decide) c6) rfl)) ?_
  rintro _ _ ⟨v8, rfl, rfl⟩
  refine OpsD.rest (ns := [0]) rfl ?_
  refine zw ?_
  refine ob' h fun o38 g39 q40 => ?_
  refine AW.loop (τ := List Int × Int × Value) (x := (([] : List Int), 0, (sv b2 0 0))) (fun (l18, x19, v17) => ⟨[(3, cV v17), (12, cV v8), (13, cI ((r3 ++ p0.parked).length : Int)), (14, cI x19)], [oA v17 2 kI64 1 l18, oA v8 47 Yap 9 (r3 ++ p0.parked)]⟩) (fun k (l18, x19, v17) => iter (fun z36 => Ziu p0 r3 z36.1 z36.2) k (l18, x19) = some o38) g39 (Y25.both (ns := [1, 0]) rfl rfl) ?_
  rintro k ⟨l18, x19, v17⟩ i42
  refine Y4f (show iter (fun z36 => Ziu p0 r3 z36.1 z36.2) k (l18, x19) = some o38 from i42) fun k41 y43 hlt_k41 h h44 => ?_
  replace h : Ziu p0 r3 l18 x19 = some y43 := h
  unfold Ziu at h
  refine zw ?_
  refine cnd h (fun hb20 h => ?_) fun hb20 h => ?_
  ·
   refine AW.ct hb20 rfl ?_
   refine zw ?_
   refine ob' h fun e21 g22 h => ?_
   refine zw ?_
   refine al fun b23 => ?_
   refine zw ?_
   refine Ops.h (ns := []) rfl rfl (Y3l (k := kI64) (ys := [e21.id]) Yc9 (.one rfl (One.val rfl) rfl rfl .nil) rfl rfl rfl) ?_
   rintro _ _ ⟨b24, rfl, rfl⟩
   refine ob' h fun u26 c25 h => ?_
   refine Ops.h (ns := [2, 0]) rfl rfl (Y34 Yc9 rfl rfl (Wo (Y45 c25)) (Y48 (by decide) c25) rfl) ?_
   rintro _ _ ⟨v27, rfl, rfl⟩
   refine zw ?_
   obtain rfl := Wj h
   exact ⟨k41, ((l18 ++ [e21.id]), (IntKind.i64.wrap (x19 + 1)), v27), hlt_k41, h44, Y25.both (ns := [0, 1]) rfl rfl⟩
  refine AW.cf hb20 rfl ?_
  refine AW.exit ?_
  obtain rfl := Wj h
  obtain rfl := Wj h44
  replace h := q40
  exact ⟨(l18, v17), h, Y25.both (ns := [0]) rfl rfl⟩
 rintro ⟨l29, v28⟩ h
 replace h : Zit l29 = some r := h
 unfold Zit at h
 refine zw ?_
 refine ob' h fun r30 g31 h => ?_
 refine Ops.hd (ns := [0]) rfl rfl (Y28 ((Zim l29).h _ _ g31) rfl rfl) ?_
 refine ob' h fun r32 g33 h => ?_
 refine Ops.h (ns := []) rfl rfl (Y27 ((Zis _).h _ g33) rfl rfl) ?_
 rintro _ _ ⟨_, ⟨v34, rfl, rfl⟩, rfl⟩
 refine zw ?_
 refine AW.ret ?_
 rw [← Wj h]
 exact finI ⟨[cV v34], _, Y25.refl _, (.cons (.tmp rfl) .nil), [0], _, _, rfl, ⟨v34, rfl, rfl⟩⟩
instance Ziw' (p0 : Yaf) : Sp Tryz.prog 73 [C.agg [cI p0.room, cM Yap 9 p0.events, cM Yap 9 p0.parked]] (Ziv p0) (fun r => cM Yb7 2 r) := ⟨fun r h => Ok.freeze (Ziw p0 r h) (by rintro c qs ⟨v35, rfl, rfl⟩; exact Frz.arr)⟩
instance Zix (p0 : Yaf) : SpO Tryz.prog 73 (Ziv p0) (.d [C.agg [cI p0.room, cM Yap 9 p0.events, cM Yap 9 p0.parked]] [] fun r => .x fun (v35 : Value) => .d (cV v35) [oA v35 182 Yb7 2 r]) := ⟨fun r h => Ziw p0 r h⟩

def Ziy (p0 : List Yam) : Option Bool := some (decide ((p0.length : Int) ≤ 400))
def Ziz (x16 : Int) (x30 : Bool) : Option (Int ⊕ (Bool ⊕ Unit)) := cond x30 (some (.inr (.inl false))) (some (.inl (IntKind.i64.wrap (x16 + 1))))
def Zj0 (p0 : List Yam) (x16 : Int) : Option (Int ⊕ (Bool ⊕ Unit)) := cond (decide (x16 < (p0.length : Int))) ((getI p0 x16).bind fun e18 => (Z9q e18.from_).bind fun r21 => cond r21 ((Z9m e18.to_ e18.from_ 1000000).bind fun r24 => cond r24 (cond (decide (x16 > 0)) ((getI p0 (IntKind.i64.wrap (x16 - 1))).bind fun e28 => Ziz x16 (decide (e18.from_ < (IntKind.i64.wrap (e28.to_ + 2))))) (Ziz x16 false)) (Ziz x16 true)) (Ziz x16 true)) (some (.inr (.inr ())))
def Zj1 (p0 : List Yam) : Option Bool := (iter (Zj0 p0) big 0).bind (fun z33 => match z33 with | .inl y32 => some y32 | .inr () => Ziy p0)
instance Zj2 (p0 : List Yam) : Sp Tryz.prog 124 [cM Yb7 2 p0] (Zj1 p0) (fun r => C.bool r) := Sp.of (so Tryz.func124 rfl rfl fun r X h => gh (.q 1 (.c0 (.d [] []) [0] [] (.l1 (fun x16 => .d [(7, cI x16)] []) [0,5,6] [] (.b (.q 2 (.c1 (fun x30 => .d [(39, C.bool x30)] []) [0,5,6,7] [] (.r [0] [1,6,8,17,23] [] [0,5,10,12,16,20,25,28,33,38,40,44,48,52,56,60,64,69,72,76,80,84,88,93,96,100,104,108] .z) .z)) .z)) .z)))

def Zj3 (x15 : Int) (l17 : List Int) : Option (List Int) := (chk (decide ((l17.length + [(IntKind.u8.wrap x15)].length) * 1 ≤ 140737488355328))).bind fun u20 => some (l17 ++ [(IntKind.u8.wrap x15)])
def Zj4 (x7 : Int) (l9 : List Int) : Option ((Int × List Int) ⊕ ((Int × List Int))) := cond (decide (x7 > 127)) ((chk (decide ((l9.length + [(Y4b .u8 (IntKind.u8.wrap x7) 128)].length) * 1 ≤ 140737488355328))).bind fun u13 => some (.inl ((shrI .u64 x7 7), (l9 ++ [(Y4b .u8 (IntKind.u8.wrap x7) 128)])))) (some (.inr (x7, l9)))
def Zj5 (p0 : Int) : Option (List Int) := (iter (fun z23 => Zj4 z23.1 z23.2) big ((Y4c .u64 (shlI .u64 (IntKind.u64.wrap p0) 1) (IntKind.u64.wrap (shrI .i64 p0 63))), ([] : List Int))).bind fun (y24, y25) => Zj3 y24 y25
instance Zj6 (p0 : Int) : SpO Tryz.prog 125 (Zj5 p0) (.d [cI p0] [] fun r => .x fun (v22 : Value) => .d (cV v22) [oA v22 5 kU8 1 r]) := ⟨so Tryz.func125 rfl rfl fun r X h => gh (.q 2 (.c2 (fun x15 l17 => .x fun v16 => .d [(3, cV (.int .u64 x15)), (4, cV v16)] [oA v16 5 kU8 1 l17]) [] [] (.l2 (fun x7 l9 => .x fun v8 => .d [(3, cV (.int .u64 x7)), (4, cV v8)] [oA v8 5 kU8 1 l9]) [] [] .z) .z))⟩
instance Zj6' (p0 : Int) : Sp Tryz.prog 125 [cI p0] (Zj5 p0) (fun r => cM kU8 1 r) := ⟨fun r h => Ok.freeze ((Zj6 p0).h r h) (by rintro c qs ⟨v22, rfl, rfl⟩; exact Frz.arr)⟩

def Zj7 (l56 : List Int) : Option ByteArray := cond (decide ((l56.length : Int) > 8000)) (some ByteArray.empty) (some (Y7f l56))
def Zj8 (p0 : List Yam) (l30 : List Int) (x31 : Int) (x32 : Int) : Option ((List Int × Int × Int) ⊕ ((List Int))) := cond (decide (x32 < (p0.length : Int))) ((getI p0 x32).bind fun e34 => (Zj5 (IntKind.i64.wrap (e34.from_ - x31))).bind fun r45 => (chk (decide ((l30.length + r45.length) * 1 ≤ 140737488355328))).bind fun u48 => (Zj5 (IntKind.i64.wrap (e34.to_ - e34.from_))).bind fun r50 => (chk (decide (((l30 ++ r45).length + r50.length) * 1 ≤ 140737488355328))).bind fun u53 => some (.inl (((l30 ++ r45) ++ r50), e34.to_, (IntKind.i64.wrap (x32 + 1))))) (some (.inr l30))
def Zj9 (p0 : List Yam) : Option ByteArray := (Zj1 p0).bind fun r1 => cond r1 ((Zj5 (p0.length : Int)).bind fun r4 => (iter (fun z58 => Zj8 p0 z58.1 z58.2.1 z58.2.2) big (r4, 0, 0)).bind fun y59 => Zj7 y59) (some ByteArray.empty)
instance Zja (p0 : List Yam) : Sp Tryz.prog 71 [cM Yb7 2 p0] (Zj9 p0) (fun r => C.str r) := Sp.of (so Tryz.func71 rfl rfl fun r X h => gh (.b (.k (.c1 (fun l56 => .x fun v55 => .d [(3, cV v55)] [oA v55 5 kU8 1 l56]) [] [] (.l3 (fun l30 x31 x32 => .x fun v29 => .d [(3, cV v29), (4, cI x31), (15, cI x32)] [oA v29 5 kU8 1 l30]) [13,14] [] (.b (.r [0] [2,8,10] [] [0,4,9,12,16,28,33,36,41,44,22,26,50,54,56] .z) .z)) .z)) .z))

def Zjb (p0 : Yao) (p1 : Int) : Option Yan := (getI p0.rooms (IntKind.i64.wrap (p1 - 1))).bind fun e1 => some e1
instance Zjc (p0 : Yao) (p1 : Int) : Sp Tryz.prog 72 [C.ip [cM Yav 3 p0.hub.rooms, cM Yar 2 p0.hub.stream, cM Ybc 1 p0.rooms], cI p1] (Zjb p0 p1) (fun r => C.ip [cI r.graph.room, cM Yap 9 r.graph.events, cM Yap 9 r.graph.parked, C.imap .i64 Yb8 r.depth, C.imap .i64 Yb9 r.before, C.imap .i64 Yb9 r.after, C.imap .i64 Yb8 r.refused]) := Sp.of (so Tryz.func72 rfl rfl fun r X h => gh .z)

def Zjd (p0 : List Yac) : Option (List Yac) := (chk (decide (p0.length * 16 ≤ 140737488355328))).bind fun _ => some p0
theorem Zje (p0 : List Yac) (r : List Yac) (h : Zjd p0 = some r) : Ok Tryz.prog 129 [cM Yar 2 p0] [] (fun c qs => ∃ (v : Value), c = cV v ∧ qs = [oA v 191 Yar 2 r]) := by
 refine ob' h fun u hc h => ?_
 obtain rfl := Wj h
 have hc := Wo (Y45 hc)
 refine Ok.of_body (rs := [.tmp 2]) Tryz.func129 rfl rfl rfl rfl rfl fun X => ?_
 refine zw ?_
 refine Ops.h (ns := []) rfl rfl (Y63 Ydi.h rfl rfl) ?_
 rintro _ _ ⟨b, hb, rfl, rfl⟩
 refine zw ?_
 refine tf' b (fun hq => ?_) (fun hq => ?_)
 ·
  refine AW.cond rfl (fun _ => ?_) (fun hn => absurd (hq.symm.trans hn) (by decide))
  refine zw ?_
  refine AW.ret ?_
  obtain rfl := hb hq
  exact finI ⟨[cV s0], _, Y25.nil 191 Yar 2, .cons (.tmp rfl) .nil, [0], _, _, rfl, ⟨_, rfl, rfl⟩⟩
 refine AW.cond rfl (fun hn => absurd (hq.symm.trans hn) (by decide)) (fun _ => ?_)
 refine zw ?_
 refine Ops.h (ns := []) rfl rfl (Y3l (k := Yar) (ys := ([] : List Yac)) Ydg .nil rfl rfl rfl) ?_
 rintro _ _ ⟨b1, rfl, rfl⟩
 refine zw ?_
 refine Ops.h (ns := [0]) rfl rfl (Y33 Ydg rfl rfl (by simpa using hc) (by simp; omega) rfl) ?_
 rintro _ _ ⟨v, rfl, rfl⟩
 refine zw ?_
 refine AW.ret ?_
 exact finI ⟨[cV v], _, Y25.refl _, .cons (.tmp rfl) .nil, [0], _, _, rfl, ⟨v, rfl, rfl⟩⟩
instance Zje' (p0 : List Yac) : Sp Tryz.prog 129 [cM Yar 2 p0] (Zjd p0) (fun r => cM Yar 2 r) := ⟨fun r h => Ok.freeze (Zje p0 r h) (by rintro c qs ⟨v, rfl, rfl⟩; exact Frz.arr)⟩
instance Zjf (p0 : List Yac) : SpO Tryz.prog 129 (Zjd p0) (.d [cM Yar 2 p0] [] fun r => .x fun (v : Value) => .d (cV v) [oA v 191 Yar 2 r]) := ⟨fun r h => Zje p0 r h⟩

def Zjg (p0 : Yaf) : Option Yaf := (Zia p0.events).bind fun r3 => (Zia p0.parked).bind fun r6 => some (Yaf.mk p0.room r3 r6)
instance Zjh (p0 : Yaf) : SpO Tryz.prog 130 (Zjg p0) (.d [C.agg [cI p0.room, cM Yap 9 p0.events, cM Yap 9 p0.parked]] [] fun r => .x fun (v11 : Value) => .x fun (v12 : Value) => .d (C.agg [cI r.room, cV v11, cV v12]) [Obj.deep v11 47 Yat Yau 9 r.events, Obj.deep v12 47 Yat Yau 9 r.parked]) := ⟨so Tryz.func130 rfl rfl fun r X h => gh (.r [0,0] [1,3,6] [9] [0,5,8,13,20,25,18,30,32,39] (.k (.k .z)))⟩
instance Zjh' (p0 : Yaf) : Sp Tryz.prog 130 [C.agg [cI p0.room, cM Yap 9 p0.events, cM Yap 9 p0.parked]] (Zjg p0) (fun r => C.agg [cI r.room, cM Yap 9 r.events, cM Yap 9 r.parked]) := ⟨fun r h => Ok.freeze ((Zjh p0).h r h) (by rintro c qs ⟨v11, v12, rfl, rfl⟩; exact Frz.agg (fS (FrzL.cons (os := [_]) ((Frz.deep Ycu)) (FrzL.cons (os := [_]) ((Frz.deep Ycu)) (FrzL.nil)))))⟩

def Zji (r3 : List Yac) (l76 : List Yaf) (l78 : List Yaf) : Option Yag := some (Yag.mk l78 r3)
def Zjj (p0 : Yag) (l48 : List Yaf) (l50 : List Yaf) (x51 : Int) : Option ((List Yaf × List Yaf × Int) ⊕ ((List Yaf × List Yaf))) := cond (decide (x51 < (p0.rooms.length : Int))) ((getI p0.rooms x51).bind fun e53 => (Zjg e53).bind fun r67 => (chk (decide ((l50.length + [r67].length) * 56 ≤ 140737488355328))).bind fun u73 => some (.inl (l48, (l50 ++ [r67]), (IntKind.i64.wrap (x51 + 1))))) (some (.inr (l48, l50)))
def Zjk (p0 : Yag) : Option Yag := (Zjd p0.stream).bind fun r3 => (iter (fun z81 => Zjj p0 z81.1 z81.2.1 z81.2.2) big ([], [], 0)).bind fun (y82, y83) => Zji r3 y82 y83
theorem Zjl (p0 : Yag) (r : Yag) (h : Zjk p0 = some r) : Ok Tryz.prog 74 [C.agg [cM Yav 3 p0.rooms, cM Yar 2 p0.stream]] [] (fun c qs => ∃ (v79 : Value) (v80 : Value), c = C.agg [cV v79, cV v80] ∧ qs = [Obj.deep v79 114 Yaw Yax 3 r.rooms, oA v80 191 Yar 2 r.stream]) := by
 refine Ok.of_body (rs := [.cell 2 86]) Tryz.func74 rfl rfl rfl rfl rfl fun X => ?_
 unfold Zjk at h
 refine zw ?_
 refine ox fun b1 => ?_
 refine al fun b2 => ?_
 refine zw ?_
 refine ob' h fun r3 g4 h => ?_
 refine Ops.h (ns := []) rfl rfl (Y27 (Zje _ _ g4) rfl rfl) ?_
 rintro _ _ ⟨_, ⟨v5, rfl, rfl⟩, rfl⟩
 refine Ops.learn (Sim.arr_one (p := 0) rfl) fun n6 => ?_
 refine Ops.v rfl (Y3k (ds := [cV s0, cV v5]) Yfm Ydj (Y4g rfl rfl) (.one rfl (One.val n6) rfl rfl .nil) rfl) ?_
 refine al fun b7 => ?_
 refine Ops.sA Ydo.h rfl rfl rfl inferInstance rfl ?_
 refine Ops.nil ?_
 refine AW.seq ?_
 refine AW.cut (τ := List Yaf × List Yaf × Value) (fun (l76, l78, v77) => ⟨[(2, pt b2), (3, pt b7)], [Obj.deep s0 114 Yaw Yax 3 l76, oB b7 86 [cV v77, cV v5], Obj.deep v77 114 Yaw Yax 3 l78, oB b2 86 [cV s0, cV s0], oA v5 191 Yar 2 r3]⟩) (fun (l76, l78, v77) => Zji r3 l76 l78 = some r) ?_ ?_
 ·
  refine zw ?_
  refine ob' h fun o84 g85 q86 => ?_
  refine AW.loop (τ := List Yaf × List Yaf × Int × Value) (x := ([], [], 0, s0)) (fun (l48, l50, x51, v49) => ⟨[(2, pt b2), (3, pt b7), (11, cM Yav 3 p0.rooms), (12, cI (p0.rooms.length : Int)), (13, cI x51)], [Obj.deep s0 114 Yaw Yax 3 l48, oB b7 86 [cV v49, cV v5], Obj.deep v49 114 Yaw Yax 3 l50, oB b2 86 [cV s0, cV s0], oA v5 191 Yar 2 r3]⟩) (fun k (l48, l50, x51, v49) => iter (fun z81 => Zjj p0 z81.1 z81.2.1 z81.2.2) k (l48, l50, x51) = some o84) g85 ((Y25.nilD 114 Yaw Yax 3).trans ((Y25.nilD 114 Yaw Yax 3).trans (Y25.both (ns := [0, 1, 0, 1, 0]) rfl rfl))) ?_
  rintro k ⟨l48, l50, x51, v49⟩ i88
  refine Y4f (show iter (fun z81 => Zjj p0 z81.1 z81.2.1 z81.2.2) k (l48, l50, x51) = some o84 from i88) fun k87 y89 hlt_k87 h h90 => ?_
  replace h : Zjj p0 l48 l50 x51 = some y89 := h
  unfold Zjj at h
  refine zw ?_
  refine cnd h (fun hb52 h => ?_) fun hb52 h => ?_
  ·
   refine AW.ct hb52 rfl ?_
   refine zw ?_
   refine oi h fun e53 g54 h => ?_
   refine zw ?_
   refine al fun b55 => ?_
   refine zw ?_
   refine rD [0,0,0,1,1] [1,2] [7] [0,5,9,14,18,22,24,31] ?_
   refine zw ?_
   refine ob' h fun r67 g68 h => ?_
   refine Y3z.h (ns := []) rfl rfl rfl (Y27 ((Zjh _).h _ g68) rfl rfl) ?_
   rintro _ _ ⟨_, ⟨v69, v70, rfl, rfl⟩, rfl⟩
   refine OpsD.one ?_
   refine Y3z.h (ns := [0, 0]) rfl rfl rfl (Y98 (k := Yaw) (ob := Yax) (e := r67) (u := (v69, v70)) Yd5 (.agg rfl rfl .nil) rfl rfl rfl) ?_
   rintro _ _ ⟨b71, rfl, rfl⟩
   refine zw ?_
   refine ob' h fun u73 c72 h => ?_
   refine Y3z.h (ns := [1, 0]) rfl rfl rfl (Y9a Yd5 rfl rfl (Wo (Y45 c72)) (Y48 (by decide) c72) rfl) ?_
   rintro _ _ ⟨v74, rfl, rfl⟩
   refine OpsD.v rfl rfl (Y1f Ydk.h rfl rfl) ?_
   refine OpsD.learn (Sim.deep_one (p := 5) rfl) fun n75 => ?_
   refine zw ?_
   obtain rfl := Wj h
   exact ⟨k87, (l48, (l50 ++ [r67]), (IntKind.i64.wrap (x51 + 1)), v74), hlt_k87, h90, Y25.both (ns := [2, 0, 3, 1, 1]) rfl rfl⟩
  refine AW.cf hb52 rfl ?_
  refine AW.exit ?_
  obtain rfl := Wj h
  obtain rfl := Wj h90
  replace h := q86
  exact ⟨(l48, l50, v49), h, Y25.both (ns := [0, 0, 0, 0, 0]) rfl rfl⟩
 rintro ⟨l76, l78, v77⟩ h
 replace h : Zji r3 l76 l78 = some r := h
 unfold Zji at h
 refine zw ?_
 refine AW.ret ?_
 rw [← Wj h]
 exact finI ⟨[C.agg [cV v77, cV v5]], _, Y25.refl _, (.cons (.cell (p := 0) rfl rfl Ydo.h rfl) .nil), [3, 3], _, _, rfl, ⟨v77, v5, rfl, rfl⟩⟩
instance Zjl' (p0 : Yag) : Sp Tryz.prog 74 [C.agg [cM Yav 3 p0.rooms, cM Yar 2 p0.stream]] (Zjk p0) (fun r => C.agg [cM Yav 3 r.rooms, cM Yar 2 r.stream]) := ⟨fun r h => Ok.freeze (Zjl p0 r h) (by rintro c qs ⟨v79, v80, rfl, rfl⟩; exact Frz.agg (FrzL.cons (os := [_]) ((Frz.deep Yd6)) (FrzL.cons (os := [_]) (Frz.arr) (FrzL.nil))))⟩
instance Zjm (p0 : Yag) : SpO Tryz.prog 74 (Zjk p0) (.d [C.agg [cM Yav 3 p0.rooms, cM Yar 2 p0.stream]] [] fun r => .x fun (v79 : Value) => .x fun (v80 : Value) => .d (C.agg [cV v79, cV v80]) [Obj.deep v79 114 Yaw Yax 3 r.rooms, oA v80 191 Yar 2 r.stream]) := ⟨fun r h => Zjl p0 r h⟩

def Zjn (p0 : TNet) : Option Bool := some (decide ((p0.letters.length : Int) ≥ 60))
instance Zjo (p0 : TNet) : SpO Tryz.prog 36 (Zjn p0) (.x fun (b00 : Nat) => .x fun (w01 : Value) => .x fun (w02 : Value) => .d [pt b00] [oB b00 94 [cV w01, cV w02], oA w01 91 Ybe 1 p0.servers, oA w02 60 Yas 5 p0.letters] fun r => .d (C.bool r) [oB b00 94 [cV w01, cV w02], oA w01 91 Ybe 1 p0.servers, oA w02 60 Yas 5 p0.letters]) := ⟨fun b00 w01 w02 => so Tryz.func36 rfl rfl fun r X h => gh .z⟩

def Zjp (p0 : TNet) (p1 : Int) (p2 : Int) (p3 : Int) : Option TNet := (getI p0.servers p1).bind fun e17 => (Zjb e17 p3).bind fun r19 => (Ziv r19.graph).bind fun r21 => (Zj9 r21).bind fun r24 => (chk (decide ((p0.letters.length + [(Yad.mk 1 p1 p2 p3 r24)].length) * 48 ≤ 140737488355328))).bind fun u28 => some (TNet.mk p0.servers (p0.letters ++ [(Yad.mk 1 p1 p2 p3 r24)]))
instance Zjq (p0 : TNet) (p1 : Int) (p2 : Int) (p3 : Int) : SpO Tryz.prog 37 (Zjp p0 p1 p2 p3) (.x fun (b00 : Nat) => .x fun (w01 : Value) => .x fun (w02 : Value) => .d [pt b00, cI p1, cI p2, cI p3] [oB b00 94 [cV w01, cV w02], oA w01 91 Ybe 1 p0.servers, oA w02 60 Yas 5 p0.letters] fun r => .x fun (v31 : Value) => .d (C.tup []) [oB b00 94 [cV w01, cV v31], oA v31 60 Yas 5 r.letters, oA w01 91 Ybe 1 p0.servers]) := ⟨fun b00 w01 w02 => so Tryz.func37 rfl rfl fun r X h => gh (.r [0,0] [4,11,14,19] [27] [0,4,8,12,17,20,24,28,32,36,40,45,48,52,57,60,66,68,72,77,82,86,88,94,98,100,104,111] (.k .z))⟩

def Zjr (p0 : TNet) (l70 : List Yag) (l72 : List Yag) : Option Yal := some (Yal.mk (Yah.mk l72 p0.letters) 0 0)
def Zjs (p0 : TNet) (l43 : List Yag) (l45 : List Yag) (x46 : Int) : Option ((List Yag × List Yag × Int) ⊕ ((List Yag × List Yag))) := cond (decide (x46 < (p0.servers.length : Int))) ((getI p0.servers x46).bind fun e48 => (Zjk e48.hub).bind fun r61 => (chk (decide ((l45.length + [r61].length) * 48 ≤ 140737488355328))).bind fun u67 => some (.inl (l43, (l45 ++ [r61]), (IntKind.i64.wrap (x46 + 1))))) (some (.inr (l43, l45)))
def Zjt (p0 : TNet) : Option Yal := (iter (fun z75 => Zjs p0 z75.1 z75.2.1 z75.2.2) big ([], [], 0)).bind fun (y76, y77) => Zjr p0 y76 y77
theorem Zju {b00 : Nat} {w01 : Value} {w02 : Value} (p0 : TNet) (r : Yal) (h : Zjt p0 = some r) : Ok Tryz.prog 38 [pt b00] [oB b00 94 [cV w01, cV w02], oA w01 91 Ybe 1 p0.servers, oA w02 60 Yas 5 p0.letters] (fun c qs => ∃ (v73 : Value) (v74 : Value), c = C.agg [cV v73, cV v74, cI r.id, cI r.code] ∧ qs = [Obj.deep v73 86 Yaz Yb0 2 r.peers.hubs, oA v74 60 Yas 5 r.peers.letters, oB b00 94 [cV w01, cV w02], oA w01 91 Ybe 1 p0.servers]) := by
 refine Ok.of_body (rs := [.cell 2 32]) Tryz.func38 rfl rfl rfl rfl rfl fun X => ?_
 unfold Zjt at h
 refine zw ?_
 refine al fun b1 => ?_
 refine Ops.nil ?_
 refine AW.seq ?_
 refine AW.region ?_
 refine Ops.v rfl (Yr rfl rfl) ?_
 refine Ops.v rfl (Y18 rfl rfl) ?_
 refine Ops.v rfl (Y1f Yh1.h rfl rfl) ?_
 refine Ops.v rfl (Y1o (p := 1) Yec.h rfl rfl rfl rfl) ?_
 refine Ops.learn (Sim.arr_one (p := 3) rfl) fun n2 => ?_
 refine Ops.v rfl (Y3k (ds := [cV s0, cV w02]) Yfn Ye8 (Y4g rfl rfl) (.one rfl (One.val n2) rfl rfl .nil) rfl) ?_
 refine al fun b3 => ?_
 refine Ops.sA Yed.h rfl rfl rfl inferInstance rfl ?_
 refine Ops.nil ?_
 refine AW.seq ?_
 refine AW.cut (τ := List Yag × List Yag × Value) (fun (l70, l72, v71) => ⟨[(2, pt b1), (3, pt b3)], [Obj.deep s0 86 Yaz Yb0 2 l70, oB b3 30 [cV v71, cV w02], Obj.deep v71 86 Yaz Yb0 2 l72, oB b1 32 [cV s0, cV s0, cI 0, cI 0], oA w02 60 Yas 5 p0.letters, oB b00 94 [cV w01, cV w02], oA w01 91 Ybe 1 p0.servers]⟩) (fun (l70, l72, v71) => Zjr p0 l70 l72 = some r) ?_ ?_
 ·
  refine zw ?_
  refine ob' h fun o78 g79 q80 => ?_
  refine AW.loop (τ := List Yag × List Yag × Int × Value) (x := ([], [], 0, s0)) (fun (l43, l45, x46, v44) => ⟨[(2, pt b1), (3, pt b3), (14, cV w01), (15, cI (p0.servers.length : Int)), (16, cI x46)], [Obj.deep s0 86 Yaz Yb0 2 l43, oB b3 30 [cV v44, cV w02], Obj.deep v44 86 Yaz Yb0 2 l45, oB b1 32 [cV s0, cV s0, cI 0, cI 0], oA w02 60 Yas 5 p0.letters, oA w01 91 Ybe 1 p0.servers, oB b00 94 [cV w01, cV w02]]⟩) (fun k (l43, l45, x46, v44) => iter (fun z75 => Zjs p0 z75.1 z75.2.1 z75.2.2) k (l43, l45, x46) = some o78) g79 ((Y25.nilD 86 Yaz Yb0 2).trans ((Y25.nilD 86 Yaz Yb0 2).trans (Y25.both (ns := [0, 1, 0, 0, 2, 1, 0]) rfl rfl))) ?_
  rintro k ⟨l43, l45, x46, v44⟩ i82
  refine Y4f (show iter (fun z75 => Zjs p0 z75.1 z75.2.1 z75.2.2) k (l43, l45, x46) = some o78 from i82) fun k81 y83 hlt_k81 h h84 => ?_
  replace h : Zjs p0 l43 l45 x46 = some y83 := h
  unfold Zjs at h
  refine zw ?_
  refine cnd h (fun hb47 h => ?_) fun hb47 h => ?_
  ·
   refine AW.ct hb47 rfl ?_
   refine zw ?_
   refine ob' h fun e48 g49 h => ?_
   refine zw ?_
   refine rD [0,0,1,1,1,1] [1,5] [10] [0,5,8,12,16,21,26,30,34,36,43] ?_
   refine zw ?_
   refine ob' h fun r61 g62 h => ?_
   refine Y3z.h (ns := []) rfl rfl rfl (Y27 (Zjl _ _ g62) rfl rfl) ?_
   rintro _ _ ⟨_, ⟨v63, v64, rfl, rfl⟩, rfl⟩
   refine OpsD.one ?_
   refine Y3z.h (ns := [0, 0]) rfl rfl rfl (Y98 (k := Yaz) (ob := Yb0) (e := r61) (u := (v63, v64)) Ydp (.agg rfl rfl .nil) rfl rfl rfl) ?_
   rintro _ _ ⟨b65, rfl, rfl⟩
   refine zw ?_
   refine ob' h fun u67 c66 h => ?_
   refine Y3z.h (ns := [1, 0]) rfl rfl rfl (Y9a Ydp rfl rfl (Wo (Y45 c66)) (Y48 (by decide) c66) rfl) ?_
   rintro _ _ ⟨v68, rfl, rfl⟩
   refine OpsD.v rfl rfl (Y1f Ye9.h rfl rfl) ?_
   refine OpsD.learn (Sim.deep_one (p := 6) rfl) fun n69 => ?_
   refine zw ?_
   obtain rfl := Wj h
   exact ⟨k81, (l43, (l45 ++ [r61]), (IntKind.i64.wrap (x46 + 1)), v68), hlt_k81, h84, Y25.both (ns := [1, 0, 4, 0, 0, 0, 0]) rfl rfl⟩
  refine AW.cf hb47 rfl ?_
  refine AW.exit ?_
  obtain rfl := Wj h
  obtain rfl := Wj h84
  replace h := q80
  exact ⟨(l43, l45, v44), h, Y25.both (ns := [0, 0, 0, 0, 0, 1, 0]) rfl rfl⟩
 rintro ⟨l70, l72, v71⟩ h
 replace h : Zjr p0 l70 l72 = some r := h
 unfold Zjr at h
 refine AW.seq ?_
 refine AW.region ?_
 refine Ops.v rfl (Y1p (p := 1) (ds := [cV v71, cV w02]) Yed.h rfl rfl rfl rfl rfl) ?_
 refine Ops.v rfl (Y3k (ds := [cV v71, cV w02, cI 0, cI 0]) Yfj Yfi (Y4g rfl rfl) (.agg rfl rfl rfl .nil) rfl) ?_
 refine zw ?_
 refine AW.ret ?_
 rw [← Wj h]
 exact finI ⟨[C.agg [cV v71, cV w02, cI 0, cI 0]], _, Y25.refl _, (.cons (.cell (p := 0) rfl rfl Yfk.h rfl) .nil), [3, 3, 3, 3], _, _, rfl, ⟨v71, w02, rfl, rfl⟩⟩
instance Zjv (p0 : TNet) : SpO Tryz.prog 38 (Zjt p0) (.x fun (b00 : Nat) => .x fun (w01 : Value) => .x fun (w02 : Value) => .d [pt b00] [oB b00 94 [cV w01, cV w02], oA w01 91 Ybe 1 p0.servers, oA w02 60 Yas 5 p0.letters] fun r => .x fun (v73 : Value) => .x fun (v74 : Value) => .d (C.agg [cV v73, cV v74, cI r.id, cI r.code]) [Obj.deep v73 86 Yaz Yb0 2 r.peers.hubs, oA v74 60 Yas 5 r.peers.letters, oB b00 94 [cV w01, cV w02], oA w01 91 Ybe 1 p0.servers]) := ⟨fun b00 w01 w02 r h => Zju p0 r h⟩

def Zjw (p0 : Yah) (p1 : Int) (p2 : Int) (p3 : Int) : Option Yal := (Zi4 p0).bind fun r3 => cond r3.2 ((Zhq r3.1 p1 p2).bind fun r9 => cond r9 ((Z9o p3).bind fun r12 => cond r12 ((Zjn r3.1).bind fun r15 => cond r15 (some (Yal.mk (Yah.mk [] []) 0 9)) ((Zjp r3.1 p1 p2 p3).bind fun r18 => (Zjt (TNet.mk r3.1.servers r18.letters)).bind fun r21 => some r21)) (some (Yal.mk (Yah.mk [] []) 0 1))) (some (Yal.mk (Yah.mk [] []) 0 6))) (some (Yal.mk (Yah.mk [] []) 0 1))
instance Zjx (p0 : Yah) (p1 : Int) (p2 : Int) (p3 : Int) : SpO Tryz.prog 9 (Zjw p0 p1 p2 p3) (.d [C.agg [cM Yay 2 p0.hubs, cM Yas 5 p0.letters], cI p1, cI p2, cI p3] [] fun r => .x fun (v25 : Value) => .x fun (v26 : Value) => .d (C.agg [cV v25, cV v26, cI r.id, cI r.code]) [Obj.deep v25 86 Yaz Yb0 2 r.peers.hubs, oA v26 60 Yas 5 r.peers.letters]) := ⟨so Tryz.func9 rfl rfl fun r X h => gh .z⟩
instance Zjx' (p0 : Yah) (p1 : Int) (p2 : Int) (p3 : Int) : Sp Tryz.prog 9 [C.agg [cM Yay 2 p0.hubs, cM Yas 5 p0.letters], cI p1, cI p2, cI p3] (Zjw p0 p1 p2 p3) (fun r => C.agg [cM Yay 2 r.peers.hubs, cM Yas 5 r.peers.letters, cI r.id, cI r.code]) := ⟨fun r h => Ok.freeze ((Zjx p0 p1 p2 p3).h r h) (by rintro c qs ⟨v25, v26, rfl, rfl⟩; exact Frz.agg (FrzL.cons (os := [_]) ((Frz.deep Ydr)) (FrzL.cons (os := [_]) (Frz.arr) (fS (fS (FrzL.nil))))))⟩

def Zjy : Option Bool := some true
def Zjz (p0 : List Int) (p1 : List Int) (x8 : Int) : Option (Int ⊕ (Bool ⊕ Unit)) := cond (decide (x8 < (p0.length : Int))) ((getI p0 x8).bind fun e10 => (getI p1 x8).bind fun e12 => cond (e10 != e12) (some (.inr (.inl false))) (some (.inl (IntKind.i64.wrap (x8 + 1))))) (some (.inr (.inr ())))
def Zk0 (p0 : List Int) (p1 : List Int) : Option Bool := cond ((p0.length : Int) != (p1.length : Int)) (some false) ((iter (Zjz p0 p1) big 0).bind (fun z16 => match z16 with | .inl y15 => some y15 | .inr () => Zjy))
instance Zk1 (p0 : List Int) (p1 : List Int) : Sp Tryz.prog 55 [cM kI64 1 p0, cM kI64 1 p1] (Zk0 p0 p1) (fun r => C.bool r) := Sp.of (so Tryz.func55 rfl rfl fun r X h => gh (.b .z (.c0 (.d [] []) [] [] (.l1 (fun x8 => .d [(5, cI x8)] []) [0,1] [] (.b (.r [] [3,7] [] [0,4,8,13,16,20,24,29,32] .z) .z)) .z)))

def Zk2 (p0 : Yaa) (p1 : Yaa) : Option Bool := cond (p0.id != p1.id) (some false) (cond (p0.room != p1.room) (some false) (cond (p0.author != p1.author) (some false) (cond (p0.kind != p1.kind) (some false) (cond (p0.key != p1.key) (some false) (cond (p0.n != p1.n) (some false) (cond (p0.text.toList == p1.text.toList) ((Zk0 p0.prev p1.prev).bind fun r10 => cond r10 (cond (p0.time != p1.time) (some false) (some true)) (some false)) (some false)))))))
instance Zk3 (p0 : Yaa) (p1 : Yaa) : Sp Tryz.prog 21 [C.agg [cI p0.id, cI p0.room, cI p0.author, cI p0.kind, cI p0.key, cI p0.n, C.str p0.text, cM kI64 1 p0.prev, cI p0.time], C.agg [cI p1.id, cI p1.room, cI p1.author, cI p1.kind, cI p1.key, cI p1.n, C.str p1.text, cM kI64 1 p1.prev, cI p1.time]] (Zk2 p0 p1) (fun r => C.bool r) := Sp.of (so Tryz.func21 rfl rfl fun r X h => gh .z)

def Zk4 : Option Bool := some true
def Zk5 (p0 : List Yaa) (p1 : List Yaa) (x10 : Int) : Option (Int ⊕ (Bool ⊕ Unit)) := cond (decide (x10 < (p0.length : Int))) ((getI p0 x10).bind fun e12 => (getI p1 x10).bind fun e14 => (Zk2 e12 e14).bind fun r16 => cond r16 (some (.inl (IntKind.i64.wrap (x10 + 1)))) (some (.inr (.inl false)))) (some (.inr (.inr ())))
def Zk6 (p0 : List Yaa) (p1 : List Yaa) : Option Bool := cond ((p0.length : Int) != (p1.length : Int)) (some false) ((iter (Zk5 p0 p1) big 0).bind (fun z20 => match z20 with | .inl y19 => some y19 | .inr () => Zk4))
instance Zk7 (p0 : List Yaa) (p1 : List Yaa) : Sp Tryz.prog 262 [cM Yap 9 p0, cM Yap 9 p1] (Zk6 p0 p1) (fun r => C.bool r) := Sp.of (so Tryz.func262 rfl rfl fun r X h => gh (.b .z (.c0 (.d [] []) [] [] (.l1 (fun x10 => .d [(5, cI x10)] []) [0,1] [] (.b (.r [] [3,7] [] [0,4,8,13,16,20,24,29,34,36] .z) .z)) .z)))

def Zk8 (p0 : Yaf) (p1 : Yaf) : Option Bool := cond (p0.room != p1.room) (some false) ((Zk6 p0.events p1.events).bind fun r4 => cond r4 ((Zk6 p0.parked p1.parked).bind fun r7 => cond r7 (some true) (some false)) (some false))
instance Zk9 (p0 : Yaf) (p1 : Yaf) : Sp Tryz.prog 207 [C.agg [cI p0.room, cM Yap 9 p0.events, cM Yap 9 p0.parked], C.agg [cI p1.room, cM Yap 9 p1.events, cM Yap 9 p1.parked]] (Zk8 p0 p1) (fun r => C.bool r) := Sp.of (so Tryz.func207 rfl rfl fun r X h => gh .z)

def Zka : Option Bool := some true
def Zkb (p0 : List Yaf) (p1 : List Yaf) (x10 : Int) : Option (Int ⊕ (Bool ⊕ Unit)) := cond (decide (x10 < (p0.length : Int))) ((getI p0 x10).bind fun e12 => (getI p1 x10).bind fun e14 => (Zk8 e12 e14).bind fun r16 => cond r16 (some (.inl (IntKind.i64.wrap (x10 + 1)))) (some (.inr (.inl false)))) (some (.inr (.inr ())))
def Zkc (p0 : List Yaf) (p1 : List Yaf) : Option Bool := cond ((p0.length : Int) != (p1.length : Int)) (some false) ((iter (Zkb p0 p1) big 0).bind (fun z20 => match z20 with | .inl y19 => some y19 | .inr () => Zka))
instance Zkd (p0 : List Yaf) (p1 : List Yaf) : Sp Tryz.prog 131 [cM Yav 3 p0, cM Yav 3 p1] (Zkc p0 p1) (fun r => C.bool r) := Sp.of (so Tryz.func131 rfl rfl fun r X h => gh (.b .z (.c0 (.d [] []) [] [] (.l1 (fun x10 => .d [(5, cI x10)] []) [0,1] [] (.b (.r [] [3,7] [] [0,4,8,13,16,20,24,29,34,36] .z) .z)) .z)))

def Zke (p0 : Yac) (p1 : Yac) : Option Bool := cond (p0.room != p1.room) (some false) (cond (p0.id != p1.id) (some false) (some true))
instance Zkf (p0 : Yac) (p1 : Yac) : Sp Tryz.prog 208 [C.agg [cI p0.room, cI p0.id], C.agg [cI p1.room, cI p1.id]] (Zke p0 p1) (fun r => C.bool r) := Sp.of (so Tryz.func208 rfl rfl fun r X h => gh .z)

def Zkg : Option Bool := some true
def Zkh (p0 : List Yac) (p1 : List Yac) (x10 : Int) : Option (Int ⊕ (Bool ⊕ Unit)) := cond (decide (x10 < (p0.length : Int))) ((getI p0 x10).bind fun e12 => (getI p1 x10).bind fun e14 => (Zke e12 e14).bind fun r16 => cond r16 (some (.inl (IntKind.i64.wrap (x10 + 1)))) (some (.inr (.inl false)))) (some (.inr (.inr ())))
def Zki (p0 : List Yac) (p1 : List Yac) : Option Bool := cond ((p0.length : Int) != (p1.length : Int)) (some false) ((iter (Zkh p0 p1) big 0).bind (fun z20 => match z20 with | .inl y19 => some y19 | .inr () => Zkg))
instance Zkj (p0 : List Yac) (p1 : List Yac) : Sp Tryz.prog 132 [cM Yar 2 p0, cM Yar 2 p1] (Zki p0 p1) (fun r => C.bool r) := Sp.of (so Tryz.func132 rfl rfl fun r X h => gh (.b .z (.c0 (.d [] []) [] [] (.l1 (fun x10 => .d [(5, cI x10)] []) [0,1] [] (.b (.r [] [3,7] [] [0,4,8,13,16,20,24,29,34,36] .z) .z)) .z)))

def Zkk (p0 : Yag) (p1 : Yag) : Option Bool := (Zkc p0.rooms p1.rooms).bind fun r3 => cond r3 ((Zki p0.stream p1.stream).bind fun r6 => cond r6 (some true) (some false)) (some false)
instance Zkl (p0 : Yag) (p1 : Yag) : Sp Tryz.prog 75 [C.agg [cM Yav 3 p0.rooms, cM Yar 2 p0.stream], C.agg [cM Yav 3 p1.rooms, cM Yar 2 p1.stream]] (Zkk p0 p1) (fun r => C.bool r) := Sp.of (so Tryz.func75 rfl rfl fun r X h => gh .z)

def Zkm : Option Bool := some true
def Zkn (p0 : List Yag) (p1 : List Yag) (x10 : Int) : Option (Int ⊕ (Bool ⊕ Unit)) := cond (decide (x10 < (p0.length : Int))) ((getI p0 x10).bind fun e12 => (getI p1 x10).bind fun e14 => (Zkk e12 e14).bind fun r16 => cond r16 (some (.inl (IntKind.i64.wrap (x10 + 1)))) (some (.inr (.inl false)))) (some (.inr (.inr ())))
def Zko (p0 : List Yag) (p1 : List Yag) : Option Bool := cond ((p0.length : Int) != (p1.length : Int)) (some false) ((iter (Zkn p0 p1) big 0).bind (fun z20 => match z20 with | .inl y19 => some y19 | .inr () => Zkm))
instance Zkp (p0 : List Yag) (p1 : List Yag) : Sp Tryz.prog 39 [cM Yay 2 p0, cM Yay 2 p1] (Zko p0 p1) (fun r => C.bool r) := Sp.of (so Tryz.func39 rfl rfl fun r X h => gh (.b .z (.c0 (.d [] []) [] [] (.l1 (fun x10 => .d [(5, cI x10)] []) [0,1] [] (.b (.r [] [3,7] [] [0,4,8,13,16,20,24,29,34,36] .z) .z)) .z)))

def Zkq (p0 : Yad) (p1 : Yad) : Option Bool := cond (p0.kind != p1.kind) (some false) (cond (p0.from_ != p1.from_) (some false) (cond (p0.to_ != p1.to_) (some false) (cond (p0.room != p1.room) (some false) (cond (p0.text.toList == p1.text.toList) (some true) (some false)))))
instance Zkr (p0 : Yad) (p1 : Yad) : Sp Tryz.prog 76 [C.agg [cI p0.kind, cI p0.from_, cI p0.to_, cI p0.room, C.str p0.text], C.agg [cI p1.kind, cI p1.from_, cI p1.to_, cI p1.room, C.str p1.text]] (Zkq p0 p1) (fun r => C.bool r) := Sp.of (so Tryz.func76 rfl rfl fun r X h => gh .z)

def Zks : Option Bool := some true
def Zkt (p0 : List Yad) (p1 : List Yad) (x10 : Int) : Option (Int ⊕ (Bool ⊕ Unit)) := cond (decide (x10 < (p0.length : Int))) ((getI p0 x10).bind fun e12 => (getI p1 x10).bind fun e14 => (Zkq e12 e14).bind fun r16 => cond r16 (some (.inl (IntKind.i64.wrap (x10 + 1)))) (some (.inr (.inl false)))) (some (.inr (.inr ())))
def Zku (p0 : List Yad) (p1 : List Yad) : Option Bool := cond ((p0.length : Int) != (p1.length : Int)) (some false) ((iter (Zkt p0 p1) big 0).bind (fun z20 => match z20 with | .inl y19 => some y19 | .inr () => Zks))
instance Zkv (p0 : List Yad) (p1 : List Yad) : Sp Tryz.prog 40 [cM Yas 5 p0, cM Yas 5 p1] (Zku p0 p1) (fun r => C.bool r) := Sp.of (so Tryz.func40 rfl rfl fun r X h => gh (.b .z (.c0 (.d [] []) [] [] (.l1 (fun x10 => .d [(5, cI x10)] []) [0,1] [] (.b (.r [] [3,7] [] [0,4,8,13,16,20,24,29,34,36] .z) .z)) .z)))

def Zkw (p0 : Yah) (p1 : Yah) : Option Bool := (Zko p0.hubs p1.hubs).bind fun r3 => cond r3 ((Zku p0.letters p1.letters).bind fun r6 => cond r6 (some true) (some false)) (some false)
instance Zkx (p0 : Yah) (p1 : Yah) : Sp Tryz.prog 11 [C.agg [cM Yay 2 p0.hubs, cM Yas 5 p0.letters], C.agg [cM Yay 2 p1.hubs, cM Yas 5 p1.letters]] (Zkw p0 p1) (fun r => C.bool r) := Sp.of (so Tryz.func11 rfl rfl fun r X h => gh .z)

def Zky (p0 : Yal) (p1 : Yal) : Option Bool := (Zkw p0.peers p1.peers).bind fun r3 => cond r3 (cond (p0.id != p1.id) (some false) (cond (p0.code != p1.code) (some false) (some true))) (some false)
instance Zkz (p0 : Yal) (p1 : Yal) : Sp Tryz.prog 10 [C.agg [cM Yay 2 p0.peers.hubs, cM Yas 5 p0.peers.letters, cI p0.id, cI p0.code], C.agg [cM Yay 2 p1.peers.hubs, cM Yas 5 p1.peers.letters, cI p1.id, cI p1.code]] (Zky p0 p1) (fun r => C.bool r) := Sp.of (so Tryz.func10 rfl rfl fun r X h => gh .z)

def Zl0 (x12 : ByteArray) : Option ByteArray := (chk (decide ((ByteArray.mk #[109]).size + x12.size ≤ 9223372036854775807))).bind fun u14 => some ((ByteArray.mk #[109]) ++ x12)
def Zl1 (x6 : Int) (x7 : ByteArray) : Option ((Int × ByteArray) ⊕ (ByteArray)) := cond (decide (x6 > 0)) ((chk (decide ((Y7f [(IntKind.u8.wrap (IntKind.i64.wrap (48 + (Int.tmod x6 10))))]).size + x7.size ≤ 9223372036854775807))).bind fun u11 => some (.inl ((IntKind.i64.wrap (Int.tdiv x6 10)), ((Y7f [(IntKind.u8.wrap (IntKind.i64.wrap (48 + (Int.tmod x6 10))))]) ++ x7)))) (some (.inr x7))
def Zl2 (p0 : Int) : Option ByteArray := cond (decide (p0 ≤ 0)) (some (ByteArray.mk #[109, 48])) ((iter (fun z15 => Zl1 z15.1 z15.2) big (p0, ByteArray.empty)).bind fun y16 => Zl0 y16)
instance Zl3 (p0 : Int) : Sp Tryz.prog 79 [cI p0] (Zl2 p0) (fun r => C.str r) := Sp.of (so Tryz.func79 rfl rfl fun r X h => gh (.b .z (.q 1 (.c1 (fun x12 => .d [(3, C.str x12)] []) [] [] (.l2 (fun x6 x7 => .d [(0, cI x6), (3, C.str x7)] []) [] [] .z) .z))))

def Zl4 (x10 : Int) (l11 : List Int) : Option (Int × List Int) := some (x10, l11)
def Zl5 (l4 : List Int) (x5 : Int) (x6 : Int) : Option ((List Int × Int × Int) ⊕ ((Int × List Int))) := cond (decide (x6 < (l4.length : Int))) ((getI l4 x6).bind fun e8 => some (.inl ((List.set l4 (Int.toNat x6) x5), (IntKind.i64.wrap (x5 + 1)), (IntKind.i64.wrap (x6 + 1))))) (some (.inr (x5, l4)))
def Zl6 (p0 : List Int) (p1 : Int) : Option (Int × List Int) := (iter (fun z12 => Zl5 z12.1 z12.2.1 z12.2.2) big (p0, p1, 0)).bind fun (y13, y14) => Zl4 y13 y14
instance Zl7 (p0 : List Int) (p1 : Int) : SpO Tryz.prog 56 (Zl6 p0 p1) (.x fun (w00 : Value) => .d [cV w00, cI p1] [oA w00 2 kI64 1 p0] fun r => .d (cI r.1) [oA w00 2 kI64 1 r.2]) := ⟨fun w00 => so Tryz.func56 rfl rfl fun r X h => gh (.q 1 (.c2 (fun x10 l11 => .d [(1, cI x10)] [oA w00 2 kI64 1 l11]) [] [] (.l3 (fun l4 x5 x6 => .d [(1, cI x5), (5, cI x6)] [oA w00 2 kI64 1 l4]) [0] [] .z) .z))⟩

def Zl8 (x52 : Int) (l53 : List Yaa) : Option (Int × List Yaa) := some (x52, l53)
def Zl9 (l25 : List Yaa) (x26 : Int) (x27 : Int) : Option ((List Yaa × Int × Int) ⊕ ((Int × List Yaa))) := cond (decide (x27 < (l25.length : Int))) ((getI l25 x27).bind fun e29 => (getI (List.set l25 (Int.toNat x27) (Yaa.mk x26 e29.room e29.author e29.kind e29.key e29.n e29.text e29.prev e29.time)) x27).bind fun e31 => (getI (List.set (List.set l25 (Int.toNat x27) (Yaa.mk x26 e29.room e29.author e29.kind e29.key e29.n e29.text e29.prev e29.time)) (Int.toNat x27) (Yaa.mk e31.id (IntKind.i64.wrap (x26 + 1)) e31.author e31.kind e31.key e31.n e31.text e31.prev e31.time)) x27).bind fun e33 => (getI (List.set (List.set (List.set l25 (Int.toNat x27) (Yaa.mk x26 e29.room e29.author e29.kind e29.key e29.n e29.text e29.prev e29.time)) (Int.toNat x27) (Yaa.mk e31.id (IntKind.i64.wrap (x26 + 1)) e31.author e31.kind e31.key e31.n e31.text e31.prev e31.time)) (Int.toNat x27) (Yaa.mk e33.id e33.room (IntKind.i64.wrap ((IntKind.i64.wrap (x26 + 1)) + 1)) e33.kind e33.key e33.n e33.text e33.prev e33.time)) x27).bind fun e35 => (getI (List.set (List.set (List.set (List.set l25 (Int.toNat x27) (Yaa.mk x26 e29.room e29.author e29.kind e29.key e29.n e29.text e29.prev e29.time)) (Int.toNat x27) (Yaa.mk e31.id (IntKind.i64.wrap (x26 + 1)) e31.author e31.kind e31.key e31.n e31.text e31.prev e31.time)) (Int.toNat x27) (Yaa.mk e33.id e33.room (IntKind.i64.wrap ((IntKind.i64.wrap (x26 + 1)) + 1)) e33.kind e33.key e33.n e33.text e33.prev e33.time)) (Int.toNat x27) (Yaa.mk e35.id e35.room e35.author (IntKind.i64.wrap ((IntKind.i64.wrap ((IntKind.i64.wrap (x26 + 1)) + 1)) + 1)) e35.key e35.n e35.text e35.prev e35.time)) x27).bind fun e37 => (getI (List.set (List.set (List.set (List.set (List.set l25 (Int.toNat x27) (Yaa.mk x26 e29.room e29.author e29.kind e29.key e29.n e29.text e29.prev e29.time)) (Int.toNat x27) (Yaa.mk e31.id (IntKind.i64.wrap (x26 + 1)) e31.author e31.kind e31.key e31.n e31.text e31.prev e31.time)) (Int.toNat x27) (Yaa.mk e33.id e33.room (IntKind.i64.wrap ((IntKind.i64.wrap (x26 + 1)) + 1)) e33.kind e33.key e33.n e33.text e33.prev e33.time)) (Int.toNat x27) (Yaa.mk e35.id e35.room e35.author (IntKind.i64.wrap ((IntKind.i64.wrap ((IntKind.i64.wrap (x26 + 1)) + 1)) + 1)) e35.key e35.n e35.text e35.prev e35.time)) (Int.toNat x27) (Yaa.mk e37.id e37.room e37.author e37.kind (IntKind.i64.wrap ((IntKind.i64.wrap ((IntKind.i64.wrap ((IntKind.i64.wrap (x26 + 1)) + 1)) + 1)) + 1)) e37.n e37.text e37.prev e37.time)) x27).bind fun e39 => (Zl2 (IntKind.i64.wrap ((IntKind.i64.wrap ((IntKind.i64.wrap ((IntKind.i64.wrap ((IntKind.i64.wrap ((IntKind.i64.wrap (x26 + 1)) + 1)) + 1)) + 1)) + 1)) + 1))).bind fun r41 => (getI (List.set (List.set (List.set (List.set (List.set (List.set l25 (Int.toNat x27) (Yaa.mk x26 e29.room e29.author e29.kind e29.key e29.n e29.text e29.prev e29.time)) (Int.toNat x27) (Yaa.mk e31.id (IntKind.i64.wrap (x26 + 1)) e31.author e31.kind e31.key e31.n e31.text e31.prev e31.time)) (Int.toNat x27) (Yaa.mk e33.id e33.room (IntKind.i64.wrap ((IntKind.i64.wrap (x26 + 1)) + 1)) e33.kind e33.key e33.n e33.text e33.prev e33.time)) (Int.toNat x27) (Yaa.mk e35.id e35.room e35.author (IntKind.i64.wrap ((IntKind.i64.wrap ((IntKind.i64.wrap (x26 + 1)) + 1)) + 1)) e35.key e35.n e35.text e35.prev e35.time)) (Int.toNat x27) (Yaa.mk e37.id e37.room e37.author e37.kind (IntKind.i64.wrap ((IntKind.i64.wrap ((IntKind.i64.wrap ((IntKind.i64.wrap (x26 + 1)) + 1)) + 1)) + 1)) e37.n e37.text e37.prev e37.time)) (Int.toNat x27) (Yaa.mk e39.id e39.room e39.author e39.kind e39.key (IntKind.i64.wrap ((IntKind.i64.wrap ((IntKind.i64.wrap ((IntKind.i64.wrap ((IntKind.i64.wrap (x26 + 1)) + 1)) + 1)) + 1)) + 1)) e39.text e39.prev e39.time)) x27).bind fun e43 => (getI (List.set (List.set (List.set (List.set (List.set (List.set (List.set l25 (Int.toNat x27) (Yaa.mk x26 e29.room e29.author e29.kind e29.key e29.n e29.text e29.prev e29.time)) (Int.toNat x27) (Yaa.mk e31.id (IntKind.i64.wrap (x26 + 1)) e31.author e31.kind e31.key e31.n e31.text e31.prev e31.time)) (Int.toNat x27) (Yaa.mk e33.id e33.room (IntKind.i64.wrap ((IntKind.i64.wrap (x26 + 1)) + 1)) e33.kind e33.key e33.n e33.text e33.prev e33.time)) (Int.toNat x27) (Yaa.mk e35.id e35.room e35.author (IntKind.i64.wrap ((IntKind.i64.wrap ((IntKind.i64.wrap (x26 + 1)) + 1)) + 1)) e35.key e35.n e35.text e35.prev e35.time)) (Int.toNat x27) (Yaa.mk e37.id e37.room e37.author e37.kind (IntKind.i64.wrap ((IntKind.i64.wrap ((IntKind.i64.wrap ((IntKind.i64.wrap (x26 + 1)) + 1)) + 1)) + 1)) e37.n e37.text e37.prev e37.time)) (Int.toNat x27) (Yaa.mk e39.id e39.room e39.author e39.kind e39.key (IntKind.i64.wrap ((IntKind.i64.wrap ((IntKind.i64.wrap ((IntKind.i64.wrap ((IntKind.i64.wrap (x26 + 1)) + 1)) + 1)) + 1)) + 1)) e39.text e39.prev e39.time)) (Int.toNat x27) (Yaa.mk e43.id e43.room e43.author e43.kind e43.key e43.n r41 e43.prev e43.time)) x27).bind fun e45 => (Zl6 e45.prev (IntKind.i64.wrap ((IntKind.i64.wrap ((IntKind.i64.wrap ((IntKind.i64.wrap ((IntKind.i64.wrap ((IntKind.i64.wrap ((IntKind.i64.wrap (x26 + 1)) + 1)) + 1)) + 1)) + 1)) + 1)) + 1))).bind fun r48 => (getI (List.set (List.set (List.set (List.set (List.set (List.set (List.set (List.set l25 (Int.toNat x27) (Yaa.mk x26 e29.room e29.author e29.kind e29.key e29.n e29.text e29.prev e29.time)) (Int.toNat x27) (Yaa.mk e31.id (IntKind.i64.wrap (x26 + 1)) e31.author e31.kind e31.key e31.n e31.text e31.prev e31.time)) (Int.toNat x27) (Yaa.mk e33.id e33.room (IntKind.i64.wrap ((IntKind.i64.wrap (x26 + 1)) + 1)) e33.kind e33.key e33.n e33.text e33.prev e33.time)) (Int.toNat x27) (Yaa.mk e35.id e35.room e35.author (IntKind.i64.wrap ((IntKind.i64.wrap ((IntKind.i64.wrap (x26 + 1)) + 1)) + 1)) e35.key e35.n e35.text e35.prev e35.time)) (Int.toNat x27) (Yaa.mk e37.id e37.room e37.author e37.kind (IntKind.i64.wrap ((IntKind.i64.wrap ((IntKind.i64.wrap ((IntKind.i64.wrap (x26 + 1)) + 1)) + 1)) + 1)) e37.n e37.text e37.prev e37.time)) (Int.toNat x27) (Yaa.mk e39.id e39.room e39.author e39.kind e39.key (IntKind.i64.wrap ((IntKind.i64.wrap ((IntKind.i64.wrap ((IntKind.i64.wrap ((IntKind.i64.wrap (x26 + 1)) + 1)) + 1)) + 1)) + 1)) e39.text e39.prev e39.time)) (Int.toNat x27) (Yaa.mk e43.id e43.room e43.author e43.kind e43.key e43.n r41 e43.prev e43.time)) (Int.toNat x27) (Yaa.mk e45.id e45.room e45.author e45.kind e45.key e45.n e45.text r48.2 e45.time)) x27).bind fun e50 => some (.inl ((List.set (List.set (List.set (List.set (List.set (List.set (List.set (List.set (List.set l25 (Int.toNat x27) (Yaa.mk x26 e29.room e29.author e29.kind e29.key e29.n e29.text e29.prev e29.time)) (Int.toNat x27) (Yaa.mk e31.id (IntKind.i64.wrap (x26 + 1)) e31.author e31.kind e31.key e31.n e31.text e31.prev e31.time)) (Int.toNat x27) (Yaa.mk e33.id e33.room (IntKind.i64.wrap ((IntKind.i64.wrap (x26 + 1)) + 1)) e33.kind e33.key e33.n e33.text e33.prev e33.time)) (Int.toNat x27) (Yaa.mk e35.id e35.room e35.author (IntKind.i64.wrap ((IntKind.i64.wrap ((IntKind.i64.wrap (x26 + 1)) + 1)) + 1)) e35.key e35.n e35.text e35.prev e35.time)) (Int.toNat x27) (Yaa.mk e37.id e37.room e37.author e37.kind (IntKind.i64.wrap ((IntKind.i64.wrap ((IntKind.i64.wrap ((IntKind.i64.wrap (x26 + 1)) + 1)) + 1)) + 1)) e37.n e37.text e37.prev e37.time)) (Int.toNat x27) (Yaa.mk e39.id e39.room e39.author e39.kind e39.key (IntKind.i64.wrap ((IntKind.i64.wrap ((IntKind.i64.wrap ((IntKind.i64.wrap ((IntKind.i64.wrap (x26 + 1)) + 1)) + 1)) + 1)) + 1)) e39.text e39.prev e39.time)) (Int.toNat x27) (Yaa.mk e43.id e43.room e43.author e43.kind e43.key e43.n r41 e43.prev e43.time)) (Int.toNat x27) (Yaa.mk e45.id e45.room e45.author e45.kind e45.key e45.n e45.text r48.2 e45.time)) (Int.toNat x27) (Yaa.mk e50.id e50.room e50.author e50.kind e50.key e50.n e50.text e50.prev r48.1)), (IntKind.i64.wrap (r48.1 + 1)), (IntKind.i64.wrap (x27 + 1))))) (some (.inr (x26, l25)))
def Zla (p0 : List Yaa) (p1 : Int) : Option (Int × List Yaa) := (iter (fun z54 => Zl9 z54.1 z54.2.1 z54.2.2) big (p0, p1, 0)).bind fun (y55, y56) => Zl8 y55 y56
theorem Zlb {w00 : Value} (p0 : List Yaa) (p1 : Int) (r : Int × List Yaa) (h : Zla p0 p1 = some r) : Ok Tryz.prog 133 [cV w00, cI p1] [Obj.deep w00 47 Yat Yau 9 p0] (fun c qs => c = cI r.1 ∧ qs = [Obj.deep w00 47 Yat Yau 9 r.2]) := by
 refine Ok.of_body (rs := [.tmp 4]) Tryz.func133 rfl rfl rfl rfl rfl fun X => ?_
 unfold Zla at h
 refine AW.seq ?_
 refine AW.region ?_
 refine Ops.v rfl (Ys rfl rfl) ?_
 refine Ops.nil ?_
 refine AW.seq ?_
 refine AW.cut (τ := Int × List Yaa) (fun (x52, l53) => ⟨[(1, cI x52)], [Obj.deep w00 47 Yat Yau 9 l53]⟩) (fun (x52, l53) => Zl8 x52 l53 = some r) ?_ ?_
 ·
  refine zw ?_
  refine ob' h fun o57 g58 q59 => ?_
  refine AW.loop (τ := List Yaa × Int × Int) (x := (p0, p1, 0)) (fun (l25, x26, x27) => ⟨[(0, cV w00), (1, cI x26), (5, cI x27)], [Obj.deep w00 47 Yat Yau 9 l25]⟩) (fun k (l25, x26, x27) => iter (fun z54 => Zl9 z54.1 z54.2.1 z54.2.2) k (l25, x26, x27) = some o57) g58 (Y25.both (ns := [0]) rfl rfl) ?_
  rintro k ⟨l25, x26, x27⟩ i61
  refine Y4f (show iter (fun z54 => Zl9 z54.1 z54.2.1 z54.2.2) k (l25, x26, x27) = some o57 from i61) fun k60 y62 hlt_k60 h h63 => ?_
  replace h : Zl9 l25 x26 x27 = some y62 := h
  unfold Zl9 at h
  refine zw ?_
  refine Ops.v rfl (Y6d (p := 0) Ycx.h rfl rfl rfl) ?_
  refine zw ?_
  refine cnd h (fun hb28 h => ?_) fun hb28 h => ?_
  ·
   refine AW.ct hb28 rfl ?_
   refine zw ?_
   refine ob' h fun e29 g30 h => ?_
   refine Ops.v rfl (Y6f (p := 0) Ycx.h rfl rfl rfl g30 rfl) ?_
   refine Ops.v rfl (Y6g (p := 0) Ycc.h rfl rfl (Y2f g30).2.2 rfl) ?_
   refine Ops.hd (ns := [0]) rfl rfl (Y6i (e' := (Yaa.mk x26 e29.room e29.author e29.kind e29.key e29.n e29.text e29.prev e29.time)) ld_2.h rfl rfl (One.val rfl) (Y2f g30).2.2 (fun _ => rfl) (fun _ => rfl) (fun _ => rfl)) ?_
   refine zw ?_
   refine ob' h fun e31 g32 h => ?_
   refine Ops.v rfl (Y6f (p := 0) Ycx.h rfl rfl rfl g32 rfl) ?_
   refine Ops.v rfl (Y6g (p := 0) Yce.h rfl rfl (Y2f g32).2.2 rfl) ?_
   refine Ops.hd (ns := [0]) rfl rfl (Y6i (e' := (Yaa.mk e31.id (IntKind.i64.wrap (x26 + 1)) e31.author e31.kind e31.key e31.n e31.text e31.prev e31.time)) ld_2.h rfl rfl (One.val rfl) (Y2f g32).2.2 (fun _ => rfl) (fun _ => rfl) (fun _ => rfl)) ?_
   refine zw ?_
   refine ob' h fun e33 g34 h => ?_
   refine Ops.v rfl (Y6f (p := 0) Ycx.h rfl rfl rfl g34 rfl) ?_
   refine Ops.v rfl (Y6g (p := 0) Ycg.h rfl rfl (Y2f g34).2.2 rfl) ?_
   refine Ops.hd (ns := [0]) rfl rfl (Y6i (e' := (Yaa.mk e33.id e33.room (IntKind.i64.wrap ((IntKind.i64.wrap (x26 + 1)) + 1)) e33.kind e33.key e33.n e33.text e33.prev e33.time)) ld_2.h rfl rfl (One.val rfl) (Y2f g34).2.2 (fun _ => rfl) (fun _ => rfl) (fun _ => rfl)) ?_
   refine zw ?_
   refine ob' h fun e35 g36 h => ?_
   refine Ops.v rfl (Y6f (p := 0) Ycx.h rfl rfl rfl g36 rfl) ?_
   refine Ops.v rfl (Y6g (p := 0) Yci.h rfl rfl (Y2f g36).2.2 rfl) ?_
   refine Ops.hd (ns := [0]) rfl rfl (Y6i (e' := (Yaa.mk e35.id e35.room e35.author (IntKind.i64.wrap ((IntKind.i64.wrap ((IntKind.i64.wrap (x26 + 1)) + 1)) + 1)) e35.key e35.n e35.text e35.prev e35.time)) ld_2.h rfl rfl (One.val rfl) (Y2f g36).2.2 (fun _ => rfl) (fun _ => rfl) (fun _ => rfl)) ?_
   refine zw ?_
   refine ob' h fun e37 g38 h => ?_
   refine Ops.v rfl (Y6f (p := 0) Ycx.h rfl rfl rfl g38 rfl) ?_
   refine Ops.v rfl (Y6g (p := 0) Yck.h rfl rfl (Y2f g38).2.2 rfl) ?_
   refine Ops.hd (ns := [0]) rfl rfl (Y6i (e' := (Yaa.mk e37.id e37.room e37.author e37.kind (IntKind.i64.wrap ((IntKind.i64.wrap ((IntKind.i64.wrap ((IntKind.i64.wrap (x26 + 1)) + 1)) + 1)) + 1)) e37.n e37.text e37.prev e37.time)) ld_2.h rfl rfl (One.val rfl) (Y2f g38).2.2 (fun _ => rfl) (fun _ => rfl) (fun _ => rfl)) ?_
   refine zw ?_
   refine ob' h fun e39 g40 h => ?_
   refine Ops.v rfl (Y6f (p := 0) Ycx.h rfl rfl rfl g40 rfl) ?_
   refine Ops.v rfl (Y6g (p := 0) Ycm.h rfl rfl (Y2f g40).2.2 rfl) ?_
   refine Ops.hd (ns := [0]) rfl rfl (Y6i (e' := (Yaa.mk e39.id e39.room e39.author e39.kind e39.key (IntKind.i64.wrap ((IntKind.i64.wrap ((IntKind.i64.wrap ((IntKind.i64.wrap ((IntKind.i64.wrap (x26 + 1)) + 1)) + 1)) + 1)) + 1)) e39.text e39.prev e39.time)) ld_2.h rfl rfl (One.val rfl) (Y2f g40).2.2 (fun _ => rfl) (fun _ => rfl) (fun _ => rfl)) ?_
   refine zw ?_
   refine oc h fun r41 g42 h => ?_
   refine ob' h fun e43 g44 h => ?_
   refine Ops.v rfl (Y6f (p := 0) Ycx.h rfl rfl rfl g44 rfl) ?_
   refine Ops.v rfl (Y6g (p := 0) Ycn.h rfl rfl (Y2f g44).2.2 rfl) ?_
   refine Ops.hd (ns := [0]) rfl rfl (Y6i (e' := (Yaa.mk e43.id e43.room e43.author e43.kind e43.key e43.n r41 e43.prev e43.time)) ld_9.h rfl rfl (One.val rfl) (Y2f g44).2.2 (fun _ => rfl) (fun _ => rfl) (fun _ => rfl)) ?_
   refine zw ?_
   refine ob' h fun e45 g46 h => ?_
   refine Ops.v rfl (Y6f (p := 0) Ycx.h rfl rfl rfl g46 rfl) ?_
   refine Ops.v rfl (Y6g (p := 0) Yco.h rfl rfl (Y2f g46).2.2 rfl) ?_
   refine Ops.take (p := 0) rfl (Y2f g46).2.2 fun q47 => ?_
   refine Ops.v rfl (Y6h (p := 1) Ybn.h rfl rfl (Y2f g46).2.2 rfl rfl) ?_
   refine zw ?_
   refine ob' h fun r48 g49 h => ?_
   refine Ops.hd (ns := [0]) rfl rfl (Y28 ((Zl7 e45.prev (IntKind.i64.wrap ((IntKind.i64.wrap ((IntKind.i64.wrap ((IntKind.i64.wrap ((IntKind.i64.wrap ((IntKind.i64.wrap ((IntKind.i64.wrap (x26 + 1)) + 1)) + 1)) + 1)) + 1)) + 1)) + 1))).h _ _ g49) rfl rfl) ?_
   refine Ops.ghost (Y25.back (x' := (Yaa.mk e45.id e45.room e45.author e45.kind e45.key e45.n e45.text r48.2 e45.time)) (ns := [1, 0]) rfl (Y2f g46).2.2 rfl rfl) ?_
   refine zw ?_
   refine ob' h fun e50 g51 h => ?_
   refine Ops.v rfl (Y6f (p := 0) Ycx.h rfl rfl rfl g51 rfl) ?_
   refine Ops.v rfl (Y6g (p := 0) Ycq.h rfl rfl (Y2f g51).2.2 rfl) ?_
   refine Ops.hd (ns := [0]) rfl rfl (Y6i (e' := (Yaa.mk e50.id e50.room e50.author e50.kind e50.key e50.n e50.text e50.prev r48.1)) ld_2.h rfl rfl (One.val rfl) (Y2f g51).2.2 (fun _ => rfl) (fun _ => rfl) (fun _ => rfl)) ?_
   refine zw ?_
   obtain rfl := Wj h
   exact ⟨k60, ((List.set (List.set (List.set (List.set (List.set (List.set (List.set (List.set (List.set l25 (Int.toNat x27) (Yaa.mk x26 e29.room e29.author e29.kind e29.key e29.n e29.text e29.prev e29.time)) (Int.toNat x27) (Yaa.mk e31.id (IntKind.i64.wrap (x26 + 1)) e31.author e31.kind e31.key e31.n e31.text e31.prev e31.time)) (Int.toNat x27) (Yaa.mk e33.id e33.room (IntKind.i64.wrap ((IntKind.i64.wrap (x26 + 1)) + 1)) e33.kind e33.key e33.n e33.text e33.prev e33.time)) (Int.toNat x27) (Yaa.mk e35.id e35.room e35.author (IntKind.i64.wrap ((IntKind.i64.wrap ((IntKind.i64.wrap (x26 + 1)) + 1)) + 1)) e35.key e35.n e35.text e35.prev e35.time)) (Int.toNat x27) (Yaa.mk e37.id e37.room e37.author e37.kind (IntKind.i64.wrap ((IntKind.i64.wrap ((IntKind.i64.wrap ((IntKind.i64.wrap (x26 + 1)) + 1)) + 1)) + 1)) e37.n e37.text e37.prev e37.time)) (Int.toNat x27) (Yaa.mk e39.id e39.room e39.author e39.kind e39.key (IntKind.i64.wrap ((IntKind.i64.wrap ((IntKind.i64.wrap ((IntKind.i64.wrap ((IntKind.i64.wrap (x26 + 1)) + 1)) + 1)) + 1)) + 1)) e39.text e39.prev e39.time)) (Int.toNat x27) (Yaa.mk e43.id e43.room e43.author e43.kind e43.key e43.n r41 e43.prev e43.time)) (Int.toNat x27) (Yaa.mk e45.id e45.room e45.author e45.kind e45.key e45.n e45.text r48.2 e45.time)) (Int.toNat x27) (Yaa.mk e50.id e50.room e50.author e50.kind e50.key e50.n e50.text e50.prev r48.1)), (IntKind.i64.wrap (r48.1 + 1)), (IntKind.i64.wrap (x27 + 1))), hlt_k60, h63, Y25.both (ns := [0]) rfl rfl⟩
  refine AW.cf hb28 rfl ?_
  refine AW.exit ?_
  obtain rfl := Wj h
  obtain rfl := Wj h63
  replace h := q59
  exact ⟨(x26, l25), h, Y25.both (ns := [0]) rfl rfl⟩
 rintro ⟨x52, l53⟩ h
 replace h : Zl8 x52 l53 = some r := h
 unfold Zl8 at h
 refine zw ?_
 refine AW.ret ?_
 rw [← Wj h]
 exact finI ⟨[cI x52], _, Y25.refl _, (.cons (.tmp rfl) .nil), [0], _, _, rfl, ⟨rfl, rfl⟩⟩
instance Zlc (p0 : List Yaa) (p1 : Int) : SpO Tryz.prog 133 (Zla p0 p1) (.x fun (w00 : Value) => .d [cV w00, cI p1] [Obj.deep w00 47 Yat Yau 9 p0] fun r => .d (cI r.1) [Obj.deep w00 47 Yat Yau 9 r.2]) := ⟨fun w00 r h => Zlb p0 p1 r h⟩

def Zld (x30 : Int) (l31 : List Yaf) : Option (Int × List Yaf) := some (x30, l31)
def Zle (l14 : List Yaf) (x15 : Int) (x16 : Int) : Option ((List Yaf × Int × Int) ⊕ ((Int × List Yaf))) := cond (decide (x16 < (l14.length : Int))) ((getI l14 x16).bind fun e18 => (getI (List.set l14 (Int.toNat x16) (Yaf.mk x15 e18.events e18.parked)) x16).bind fun e20 => (Zla e20.events (IntKind.i64.wrap (x15 + 1))).bind fun r23 => (getI (List.set (List.set l14 (Int.toNat x16) (Yaf.mk x15 e18.events e18.parked)) (Int.toNat x16) (Yaf.mk e20.room r23.2 e20.parked)) x16).bind fun e25 => (Zla e25.parked r23.1).bind fun r28 => some (.inl ((List.set (List.set (List.set l14 (Int.toNat x16) (Yaf.mk x15 e18.events e18.parked)) (Int.toNat x16) (Yaf.mk e20.room r23.2 e20.parked)) (Int.toNat x16) (Yaf.mk e25.room e25.events r28.2)), r28.1, (IntKind.i64.wrap (x16 + 1))))) (some (.inr (x15, l14)))
def Zlf (p0 : List Yaf) (p1 : Int) : Option (Int × List Yaf) := (iter (fun z32 => Zle z32.1 z32.2.1 z32.2.2) big (p0, p1, 0)).bind fun (y33, y34) => Zld y33 y34
theorem Zlg {w00 : Value} (p0 : List Yaf) (p1 : Int) (r : Int × List Yaf) (h : Zlf p0 p1 = some r) : Ok Tryz.prog 77 [cV w00, cI p1] [Obj.deep w00 114 Yaw Yax 3 p0] (fun c qs => c = cI r.1 ∧ qs = [Obj.deep w00 114 Yaw Yax 3 r.2]) := by
 refine Ok.of_body (rs := [.tmp 4]) Tryz.func77 rfl rfl rfl rfl rfl fun X => ?_
 unfold Zlf at h
 refine AW.seq ?_
 refine AW.region ?_
 refine Ops.v rfl (Ys rfl rfl) ?_
 refine Ops.nil ?_
 refine AW.seq ?_
 refine AW.cut (τ := Int × List Yaf) (fun (x30, l31) => ⟨[(1, cI x30)], [Obj.deep w00 114 Yaw Yax 3 l31]⟩) (fun (x30, l31) => Zld x30 l31 = some r) ?_ ?_
 ·
  refine zw ?_
  refine ob' h fun o35 g36 q37 => ?_
  refine AW.loop (τ := List Yaf × Int × Int) (x := (p0, p1, 0)) (fun (l14, x15, x16) => ⟨[(0, cV w00), (1, cI x15), (5, cI x16)], [Obj.deep w00 114 Yaw Yax 3 l14]⟩) (fun k (l14, x15, x16) => iter (fun z32 => Zle z32.1 z32.2.1 z32.2.2) k (l14, x15, x16) = some o35) g36 (Y25.both (ns := [0]) rfl rfl) ?_
  rintro k ⟨l14, x15, x16⟩ i39
  refine Y4f (show iter (fun z32 => Zle z32.1 z32.2.1 z32.2.2) k (l14, x15, x16) = some o35 from i39) fun k38 y40 hlt_k38 h h41 => ?_
  replace h : Zle l14 x15 x16 = some y40 := h
  unfold Zle at h
  refine zw ?_
  refine Ops.v rfl (Y6d (p := 0) Yd9.h rfl rfl rfl) ?_
  refine zw ?_
  refine cnd h (fun hb17 h => ?_) fun hb17 h => ?_
  ·
   refine AW.ct hb17 rfl ?_
   refine zw ?_
   refine ob' h fun e18 g19 h => ?_
   refine Ops.v rfl (Y6f (p := 0) Yd9.h rfl rfl rfl g19 rfl) ?_
   refine Ops.v rfl (Y6g (p := 0) Yd0.h rfl rfl (Y2f g19).2.2 rfl) ?_
   refine Ops.hd (ns := [0]) rfl rfl (Y6i (e' := (Yaf.mk x15 e18.events e18.parked)) ld_2.h rfl rfl (One.val rfl) (Y2f g19).2.2 (fun _ => rfl) (fun _ => rfl) (fun _ => rfl)) ?_
   refine zw ?_
   refine ob' h fun e20 g21 h => ?_
   refine Ops.v rfl (Y6f (p := 0) Yd9.h rfl rfl rfl g21 rfl) ?_
   refine Ops.v rfl (Y6g (p := 0) Yd1.h rfl rfl (Y2f g21).2.2 rfl) ?_
   refine Ops.take (p := 0) rfl (Y2f g21).2.2 fun q22 => ?_
   refine Ops.v rfl (Y6h (p := 2) Yd2.h rfl rfl (Y2f g21).2.2 rfl rfl) ?_
   refine zw ?_
   refine ob' h fun r23 g24 h => ?_
   refine Ops.hd (ns := [0]) rfl rfl (Y28 (Zlb e20.events (IntKind.i64.wrap (x15 + 1)) _ g24) rfl rfl) ?_
   refine Ops.ghost (Y25.back (x' := (Yaf.mk e20.room r23.2 e20.parked)) (ns := [2, 0, 0]) rfl (Y2f g21).2.2 rfl rfl) ?_
   refine zw ?_
   refine ob' h fun e25 g26 h => ?_
   refine Ops.v rfl (Y6f (p := 0) Yd9.h rfl rfl rfl g26 rfl) ?_
   refine Ops.v rfl (Y6g (p := 0) Yd3.h rfl rfl (Y2f g26).2.2 rfl) ?_
   refine Ops.take (p := 0) rfl (Y2f g26).2.2 fun q27 => ?_
   refine Ops.v rfl (Y6h (p := 2) Yd2.h rfl rfl (Y2f g26).2.2 rfl rfl) ?_
   refine zw ?_
   refine ob' h fun r28 g29 h => ?_
   refine Ops.hd (ns := [1]) rfl rfl (Y28 (Zlb e25.parked r23.1 _ g29) rfl rfl) ?_
   refine Ops.ghost (Y25.back (x' := (Yaf.mk e25.room e25.events r28.2)) (ns := [2, 1, 0]) rfl (Y2f g26).2.2 rfl rfl) ?_
   refine zw ?_
   obtain rfl := Wj h
   exact ⟨k38, ((List.set (List.set (List.set l14 (Int.toNat x16) (Yaf.mk x15 e18.events e18.parked)) (Int.toNat x16) (Yaf.mk e20.room r23.2 e20.parked)) (Int.toNat x16) (Yaf.mk e25.room e25.events r28.2)), r28.1, (IntKind.i64.wrap (x16 + 1))), hlt_k38, h41, Y25.both (ns := [0]) rfl rfl⟩
  refine AW.cf hb17 rfl ?_
  refine AW.exit ?_
  obtain rfl := Wj h
  obtain rfl := Wj h41
  replace h := q37
  exact ⟨(x15, l14), h, Y25.both (ns := [0]) rfl rfl⟩
 rintro ⟨x30, l31⟩ h
 replace h : Zld x30 l31 = some r := h
 unfold Zld at h
 refine zw ?_
 refine AW.ret ?_
 rw [← Wj h]
 exact finI ⟨[cI x30], _, Y25.refl _, (.cons (.tmp rfl) .nil), [0], _, _, rfl, ⟨rfl, rfl⟩⟩
instance Zlh (p0 : List Yaf) (p1 : Int) : SpO Tryz.prog 77 (Zlf p0 p1) (.x fun (w00 : Value) => .d [cV w00, cI p1] [Obj.deep w00 114 Yaw Yax 3 p0] fun r => .d (cI r.1) [Obj.deep w00 114 Yaw Yax 3 r.2]) := ⟨fun w00 r h => Zlg p0 p1 r h⟩

def Zli (x14 : Int) (l15 : List Yac) : Option (Int × List Yac) := some (x14, l15)
def Zlj (l6 : List Yac) (x7 : Int) (x8 : Int) : Option ((List Yac × Int × Int) ⊕ ((Int × List Yac))) := cond (decide (x8 < (l6.length : Int))) ((getI l6 x8).bind fun e10 => (getI (List.set l6 (Int.toNat x8) (Yac.mk x7 e10.id)) x8).bind fun e12 => some (.inl ((List.set (List.set l6 (Int.toNat x8) (Yac.mk x7 e10.id)) (Int.toNat x8) (Yac.mk e12.room (IntKind.i64.wrap (x7 + 1)))), (IntKind.i64.wrap ((IntKind.i64.wrap (x7 + 1)) + 1)), (IntKind.i64.wrap (x8 + 1))))) (some (.inr (x7, l6)))
def Zlk (p0 : List Yac) (p1 : Int) : Option (Int × List Yac) := (iter (fun z16 => Zlj z16.1 z16.2.1 z16.2.2) big (p0, p1, 0)).bind fun (y17, y18) => Zli y17 y18
instance Zll (p0 : List Yac) (p1 : Int) : SpO Tryz.prog 78 (Zlk p0 p1) (.x fun (w00 : Value) => .d [cV w00, cI p1] [oA w00 191 Yar 2 p0] fun r => .d (cI r.1) [oA w00 191 Yar 2 r.2]) := ⟨fun w00 => so Tryz.func78 rfl rfl fun r X h => gh (.q 1 (.c2 (fun x14 l15 => .d [(1, cI x14)] [oA w00 191 Yar 2 l15]) [] [] (.l3 (fun l6 x7 x8 => .d [(1, cI x7), (5, cI x8)] [oA w00 191 Yar 2 l6]) [0] [] .z) .z))⟩

def Zlm (x26 : Int) (l27 : List Yag) : Option (Int × List Yag) := some (x26, l27)
def Zln (l12 : List Yag) (x13 : Int) (x14 : Int) : Option ((List Yag × Int × Int) ⊕ ((Int × List Yag))) := cond (decide (x14 < (l12.length : Int))) ((getI l12 x14).bind fun e16 => (Zlf e16.rooms x13).bind fun r19 => (getI (List.set l12 (Int.toNat x14) (Yag.mk r19.2 e16.stream)) x14).bind fun e21 => (Zlk e21.stream r19.1).bind fun r24 => some (.inl ((List.set (List.set l12 (Int.toNat x14) (Yag.mk r19.2 e16.stream)) (Int.toNat x14) (Yag.mk e21.rooms r24.2)), r24.1, (IntKind.i64.wrap (x14 + 1))))) (some (.inr (x13, l12)))
def Zlo (p0 : List Yag) (p1 : Int) : Option (Int × List Yag) := (iter (fun z28 => Zln z28.1 z28.2.1 z28.2.2) big (p0, p1, 0)).bind fun (y29, y30) => Zlm y29 y30
theorem Zlp {w00 : Value} (p0 : List Yag) (p1 : Int) (r : Int × List Yag) (h : Zlo p0 p1 = some r) : Ok Tryz.prog 41 [cV w00, cI p1] [Obj.deep w00 86 Yaz Yb0 2 p0] (fun c qs => c = cI r.1 ∧ qs = [Obj.deep w00 86 Yaz Yb0 2 r.2]) := by
 refine Ok.of_body (rs := [.tmp 4]) Tryz.func41 rfl rfl rfl rfl rfl fun X => ?_
 unfold Zlo at h
 refine AW.seq ?_
 refine AW.region ?_
 refine Ops.v rfl (Ys rfl rfl) ?_
 refine Ops.nil ?_
 refine AW.seq ?_
 refine AW.cut (τ := Int × List Yag) (fun (x26, l27) => ⟨[(1, cI x26)], [Obj.deep w00 86 Yaz Yb0 2 l27]⟩) (fun (x26, l27) => Zlm x26 l27 = some r) ?_ ?_
 ·
  refine zw ?_
  refine ob' h fun o31 g32 q33 => ?_
  refine AW.loop (τ := List Yag × Int × Int) (x := (p0, p1, 0)) (fun (l12, x13, x14) => ⟨[(0, cV w00), (1, cI x13), (5, cI x14)], [Obj.deep w00 86 Yaz Yb0 2 l12]⟩) (fun k (l12, x13, x14) => iter (fun z28 => Zln z28.1 z28.2.1 z28.2.2) k (l12, x13, x14) = some o31) g32 (Y25.both (ns := [0]) rfl rfl) ?_
  rintro k ⟨l12, x13, x14⟩ i35
  refine Y4f (show iter (fun z28 => Zln z28.1 z28.2.1 z28.2.2) k (l12, x13, x14) = some o31 from i35) fun k34 y36 hlt_k34 h h37 => ?_
  replace h : Zln l12 x13 x14 = some y36 := h
  unfold Zln at h
  refine zw ?_
  refine Ops.v rfl (Y6d (p := 0) Ydu.h rfl rfl rfl) ?_
  refine zw ?_
  refine cnd h (fun hb15 h => ?_) fun hb15 h => ?_
  ·
   refine AW.ct hb15 rfl ?_
   refine zw ?_
   refine ob' h fun e16 g17 h => ?_
   refine Ops.v rfl (Y6f (p := 0) Ydu.h rfl rfl rfl g17 rfl) ?_
   refine Ops.v rfl (Y6g (p := 0) Ydk.h rfl rfl (Y2f g17).2.2 rfl) ?_
   refine Ops.take (p := 0) rfl (Y2f g17).2.2 fun q18 => ?_
   refine Ops.v rfl (Y6h (p := 2) Ydl.h rfl rfl (Y2f g17).2.2 rfl rfl) ?_
   refine zw ?_
   refine ob' h fun r19 g20 h => ?_
   refine Ops.hd (ns := [0]) rfl rfl (Y28 (Zlg e16.rooms x13 _ g20) rfl rfl) ?_
   refine Ops.ghost (Y25.back (x' := (Yag.mk r19.2 e16.stream)) (ns := [2, 0, 0]) rfl (Y2f g17).2.2 rfl rfl) ?_
   refine zw ?_
   refine ob' h fun e21 g22 h => ?_
   refine Ops.v rfl (Y6f (p := 0) Ydu.h rfl rfl rfl g22 rfl) ?_
   refine Ops.v rfl (Y6g (p := 0) Ydm.h rfl rfl (Y2f g22).2.2 rfl) ?_
   refine Ops.take (p := 0) rfl (Y2f g22).2.2 fun q23 => ?_
   refine Ops.v rfl (Y6h (p := 2) Ydn.h rfl rfl (Y2f g22).2.2 rfl rfl) ?_
   refine zw ?_
   refine ob' h fun r24 g25 h => ?_
   refine Ops.hd (ns := [1]) rfl rfl (Y28 ((Zll e21.stream r19.1).h _ _ g25) rfl rfl) ?_
   refine Ops.ghost (Y25.back (x' := (Yag.mk e21.rooms r24.2)) (ns := [2, 1, 0]) rfl (Y2f g22).2.2 rfl rfl) ?_
   refine zw ?_
   obtain rfl := Wj h
   exact ⟨k34, ((List.set (List.set l12 (Int.toNat x14) (Yag.mk r19.2 e16.stream)) (Int.toNat x14) (Yag.mk e21.rooms r24.2)), r24.1, (IntKind.i64.wrap (x14 + 1))), hlt_k34, h37, Y25.both (ns := [0]) rfl rfl⟩
  refine AW.cf hb15 rfl ?_
  refine AW.exit ?_
  obtain rfl := Wj h
  obtain rfl := Wj h37
  replace h := q33
  exact ⟨(x13, l12), h, Y25.both (ns := [0]) rfl rfl⟩
 rintro ⟨x26, l27⟩ h
 replace h : Zlm x26 l27 = some r := h
 unfold Zlm at h
 refine zw ?_
 refine AW.ret ?_
 rw [← Wj h]
 exact finI ⟨[cI x26], _, Y25.refl _, (.cons (.tmp rfl) .nil), [0], _, _, rfl, ⟨rfl, rfl⟩⟩
instance Zlq (p0 : List Yag) (p1 : Int) : SpO Tryz.prog 41 (Zlo p0 p1) (.x fun (w00 : Value) => .d [cV w00, cI p1] [Obj.deep w00 86 Yaz Yb0 2 p0] fun r => .d (cI r.1) [Obj.deep w00 86 Yaz Yb0 2 r.2]) := ⟨fun w00 r h => Zlp p0 p1 r h⟩

def Zlr (x30 : Int) (l31 : List Yad) : Option (Int × List Yad) := some (x30, l31)
def Zls (l14 : List Yad) (x15 : Int) (x16 : Int) : Option ((List Yad × Int × Int) ⊕ ((Int × List Yad))) := cond (decide (x16 < (l14.length : Int))) ((getI l14 x16).bind fun e18 => (getI (List.set l14 (Int.toNat x16) (Yad.mk x15 e18.from_ e18.to_ e18.room e18.text)) x16).bind fun e20 => (getI (List.set (List.set l14 (Int.toNat x16) (Yad.mk x15 e18.from_ e18.to_ e18.room e18.text)) (Int.toNat x16) (Yad.mk e20.kind (IntKind.i64.wrap (x15 + 1)) e20.to_ e20.room e20.text)) x16).bind fun e22 => (getI (List.set (List.set (List.set l14 (Int.toNat x16) (Yad.mk x15 e18.from_ e18.to_ e18.room e18.text)) (Int.toNat x16) (Yad.mk e20.kind (IntKind.i64.wrap (x15 + 1)) e20.to_ e20.room e20.text)) (Int.toNat x16) (Yad.mk e22.kind e22.from_ (IntKind.i64.wrap ((IntKind.i64.wrap (x15 + 1)) + 1)) e22.room e22.text)) x16).bind fun e24 => (Zl2 (IntKind.i64.wrap ((IntKind.i64.wrap ((IntKind.i64.wrap ((IntKind.i64.wrap (x15 + 1)) + 1)) + 1)) + 1))).bind fun r26 => (getI (List.set (List.set (List.set (List.set l14 (Int.toNat x16) (Yad.mk x15 e18.from_ e18.to_ e18.room e18.text)) (Int.toNat x16) (Yad.mk e20.kind (IntKind.i64.wrap (x15 + 1)) e20.to_ e20.room e20.text)) (Int.toNat x16) (Yad.mk e22.kind e22.from_ (IntKind.i64.wrap ((IntKind.i64.wrap (x15 + 1)) + 1)) e22.room e22.text)) (Int.toNat x16) (Yad.mk e24.kind e24.from_ e24.to_ (IntKind.i64.wrap ((IntKind.i64.wrap ((IntKind.i64.wrap (x15 + 1)) + 1)) + 1)) e24.text)) x16).bind fun e28 => some (.inl ((List.set (List.set (List.set (List.set (List.set l14 (Int.toNat x16) (Yad.mk x15 e18.from_ e18.to_ e18.room e18.text)) (Int.toNat x16) (Yad.mk e20.kind (IntKind.i64.wrap (x15 + 1)) e20.to_ e20.room e20.text)) (Int.toNat x16) (Yad.mk e22.kind e22.from_ (IntKind.i64.wrap ((IntKind.i64.wrap (x15 + 1)) + 1)) e22.room e22.text)) (Int.toNat x16) (Yad.mk e24.kind e24.from_ e24.to_ (IntKind.i64.wrap ((IntKind.i64.wrap ((IntKind.i64.wrap (x15 + 1)) + 1)) + 1)) e24.text)) (Int.toNat x16) (Yad.mk e28.kind e28.from_ e28.to_ e28.room r26)), (IntKind.i64.wrap ((IntKind.i64.wrap ((IntKind.i64.wrap ((IntKind.i64.wrap ((IntKind.i64.wrap (x15 + 1)) + 1)) + 1)) + 1)) + 1)), (IntKind.i64.wrap (x16 + 1))))) (some (.inr (x15, l14)))
def Zlt (p0 : List Yad) (p1 : Int) : Option (Int × List Yad) := (iter (fun z32 => Zls z32.1 z32.2.1 z32.2.2) big (p0, p1, 0)).bind fun (y33, y34) => Zlr y33 y34
instance Zlu (p0 : List Yad) (p1 : Int) : SpO Tryz.prog 42 (Zlt p0 p1) (.x fun (w00 : Value) => .d [cV w00, cI p1] [oA w00 60 Yas 5 p0] fun r => .d (cI r.1) [oA w00 60 Yas 5 r.2]) := ⟨fun w00 => so Tryz.func42 rfl rfl fun r X h => gh (.q 1 (.c2 (fun x30 l31 => .d [(1, cI x30)] [oA w00 60 Yas 5 l31]) [] [] (.l3 (fun l14 x15 x16 => .d [(1, cI x15), (5, cI x16)] [oA w00 60 Yas 5 l14]) [0] [] .z) .z))⟩

end Go.Proofs.YtnoknphekhclcaaGreat
