/- Printed by gen.py: plain functions for Go functions, and that the walks keep to them. -/
import Derived.Test.YtnoknphekhclcaaGreatDoorFQ4
set_option autoImplicit false
set_option linter.unusedVariables false
set_option linter.unusedSimpArgs false
set_option maxHeartbeats 8000000
set_option maxRecDepth 100000
namespace Go.Proofs.YtnoknphekhclcaaGreatDoor
open Go Go.Abs
attribute [local irreducible] AW Ops OpsD Y3z VoK HoK GhF UsC Go.Abs.Fin PkK LenT LenL Y9l BldK FzK FzLK
def Zim (x3 : Bool) : Option Bool := some x3
def Zin (p0 : Ya8) (q0 : Ya2) : Option Bool := cond (p0.event.kind != 7) (Zim true) (Zim (p0.event.author == q0.user))
instance Zio (p0 : Ya8) (q0 : Ya2) : SpO Tryz.prog 96 (Zin p0 q0) (.x fun (b00 : Nat) => .d [C.agg [cI p0.event.id, cI p0.event.room, cI p0.event.author, cI p0.event.kind, cI p0.event.key, cI p0.event.n, C.str p0.event.text, cM kI64 1 p0.event.prev, cI p0.event.time, C.bool p0.hidden], pt b00] [oB b00 49 [cI q0.user, cM kI64 1 q0.at_]] fun r => .d (C.bool r) [oB b00 49 [cI q0.user, cM kI64 1 q0.at_]]) := ⟨fun b00 => so Tryz.func96 rfl rfl fun r X h => gh (.q 1 (.c1 (fun x3 => .d [(3, C.bool x3)] []) [] [1] .z .z))⟩

def Zip : Option Int := some (-1)
def Ziq (p0 : List Ya8) (p1_0 : Ya2) (x7 : Int) : Option (Int ⊕ (Int ⊕ Unit)) := cond (decide (x7 < (p0.length : Int))) ((getI p0 x7).bind fun e9 => (Zin e9 p1_0).bind fun r11 => cond r11 (some (.inr (.inl x7))) (some (.inl (IntKind.i64.wrap (x7 + 1))))) (some (.inr (.inr ())))
def Zir (p0 : List Ya8) (p1_0 : Ya2) : Option Int := (iter (Ziq p0 p1_0) big 0).bind (fun z15 => match z15 with | .inl y14 => some y14 | .inr () => Zip)
instance Zis (p0 : List Ya8) (p1_0 : Ya2) : SpO Tryz.prog 130 (Zir p0 p1_0) (.x fun (w00 : Value) => .x fun (b01 : Nat) => .d [cV w00, C.clo 96 [pt b01]] [oA w00 92 Yau 10 p0, oB b01 49 [cI p1_0.user, cM kI64 1 p1_0.at_]] fun r => .d (cI r) [oA w00 92 Yau 10 p0, oB b01 49 [cI p1_0.user, cM kI64 1 p1_0.at_]]) := ⟨fun w00 b01 => so Tryz.func130 rfl rfl fun r X h => gh (.q 1 (.c0 (.d [] []) [] [0,1] (.l1 (fun x7 => .d [(8, cI x7)] []) [0,1,7] [0,1] .z) .z))⟩

def Zit (l29 : List Ya8) (x30 : Int) : Option (List Ya8) := (chk (decide ((0 : Int) ≤ x30 ∧ x30 ≤ (l29.length : Int)))).bind fun u32 => (chk (decide ((Int.toNat x30) ≤ l29.length))).bind fun u34 => (chk (decide ((0 : Int) ≤ x30 ∧ x30 ≤ ((List.take (Int.toNat x30) l29 ++ List.replicate (l29.length - (Int.toNat x30)) (Ya8.mk (Y9z.mk 0 0 0 0 0 0 ByteArray.empty [] 0) false)).length : Int)))).bind fun u36 => some (List.take (Int.toNat x30) (List.take (Int.toNat x30) l29 ++ List.replicate (l29.length - (Int.toNat x30)) (Ya8.mk (Y9z.mk 0 0 0 0 0 0 ByteArray.empty [] 0) false)))
def Ziu (x17 : Int) (l27 : List Ya8) (x28 : Int) : Option ((List Ya8 × Int × Int) ⊕ ((List Ya8 × Int))) := some (.inl (l27, x28, (IntKind.i64.wrap (x17 + 1))))
def Ziv (p1_0 : Ya2) (l15 : List Ya8) (x16 : Int) (x17 : Int) : Option ((List Ya8 × Int × Int) ⊕ ((List Ya8 × Int))) := cond (decide (x17 < (l15.length : Int))) ((getI l15 x17).bind fun e19 => (Zin e19 p1_0).bind fun r22 => cond r22 (Ziu x17 l15 x16) ((getI l15 x16).bind fun e25 => Ziu x17 (List.set l15 (Int.toNat x16) e19) (IntKind.i64.wrap (x16 + 1)))) (some (.inr (l15, x16)))
def Ziw (p0 : List Ya8) (p1_0 : Ya2) : Option (List Ya8) := (Zir p0 p1_0).bind fun r1 => cond (r1 == (-1)) (some p0) ((iter (fun z38 => Ziv p1_0 z38.1 z38.2.1 z38.2.2) big (p0, r1, (IntKind.i64.wrap (r1 + 1)))).bind fun (y39, y40) => Zit y39 y40)
theorem Zix {w00 : Value} {b01 : Nat} (p0 : List Ya8) (p1_0 : Ya2) (r : List Ya8) (h : Ziw p0 p1_0 = some r) : Ok Tryz.prog 95 [cV w00, C.clo 96 [pt b01]] [oA w00 92 Yau 10 p0, oB b01 49 [cI p1_0.user, cM kI64 1 p1_0.at_]] (fun c qs => ∃ (v37 : Value), c = cV v37 ∧ qs = [oA v37 92 Yau 10 r, oB b01 49 [cI p1_0.user, cM kI64 1 p1_0.at_]]) := by
 refine Ok.of_body (rs := [.tmp 4]) Tryz.func95 rfl rfl rfl rfl rfl fun X => ?_
 unfold Ziw at h
 refine zw ?_
 refine ob' h fun r1 g2 h => ?_
 refine Ops.hd (ns := [0, 0]) rfl rfl (Y28 ((Zis p0 p1_0).h _ _ _ g2) rfl rfl) ?_
 refine zw ?_
 refine cnd h (fun hb3 h => ?_) fun hb3 h => ?_
 ·
  refine AW.ct hb3 rfl ?_
  refine zw ?_
  refine AW.ret ?_
  rw [← Wj h]
  exact finI ⟨[cV w00], _, Y25.refl _, (.cons (.tmp rfl) .nil), [0, 0], _, _, rfl, ⟨w00, rfl, rfl⟩⟩
 refine AW.cf hb3 rfl ?_
 refine AW.skip ?_
 refine AW.seq ?_
 refine AW.cut (τ := List Ya8 × Int) (fun (l29, x30) => ⟨[(0, cV w00), (5, cI x30)], [oA w00 92 Yau 10 l29, oB b01 49 [cI p1_0.user, cM kI64 1 p1_0.at_]]⟩) (fun (l29, x30) => Zit l29 x30 = some r) ?_ ?_
 ·
  refine zw ?_
  refine ob' h fun o41 g42 q43 => ?_
  refine AW.loop (τ := List Ya8 × Int × Int) (x := (p0, r1, (IntKind.i64.wrap (r1 + 1)))) (fun (l15, x16, x17) => ⟨[(0, cV w00), (1, C.clo 96 [pt b01]), (5, cI x16), (6, cI x17)], [oA w00 92 Yau 10 l15, oB b01 49 [cI p1_0.user, cM kI64 1 p1_0.at_]]⟩) (fun k (l15, x16, x17) => iter (fun z38 => Ziv p1_0 z38.1 z38.2.1 z38.2.2) k (l15, x16, x17) = some o41) g42 (Y25.both (ns := [0, 0]) rfl rfl) ?_
  rintro k ⟨l15, x16, x17⟩ i45
  refine Y4d (show iter (fun z38 => Ziv p1_0 z38.1 z38.2.1 z38.2.2) k (l15, x16, x17) = some o41 from i45) fun k44 y46 hlt_k44 h h47 => ?_
  replace h : Ziv p1_0 l15 x16 x17 = some y46 := h
  unfold Ziv at h
  refine zw ?_
  refine cnd h (fun hb18 h => ?_) fun hb18 h => ?_
  ·
   refine AW.ct hb18 rfl ?_
   refine AW.skip ?_
   refine AW.seq ?_
   refine AW.cut (τ := List Ya8 × Int) (fun (l27, x28) => ⟨[(0, cV w00), (1, C.clo 96 [pt b01]), (5, cI x28), (6, cI x17)], [oA w00 92 Yau 10 l27, oB b01 49 [cI p1_0.user, cM kI64 1 p1_0.at_]]⟩) (fun (l27, x28) => Ziu x17 l27 x28 = some y46) ?_ ?_
   ·
    refine zw ?_
    refine oi h fun e19 g20 h => ?_
    refine zw ?_
    refine al fun b21 => ?_
    refine zw ?_
    refine ob' h fun r22 g23 h => ?_
    refine Ops.hd (ns := [2]) rfl rfl (Y78 (cs := [_]) (ds := [_]) rfl ((Zio e19 p1_0).h _ _ g23) rfl rfl) ?_
    refine zw ?_
    refine cnd h (fun hb24 h => ?_) fun hb24 h => ?_
    ·
     refine AW.cond rfl (fun hn => absurd ((Y46 hb24).symm.trans hn) (by decide)) (fun _ => ?_)
     refine zw ?_
     exact ⟨(l15, x16), h, Y25.both (ns := [2, 0]) rfl rfl⟩
    refine AW.cond rfl (fun _ => ?_) (fun hn => absurd ((Y47 hb24).symm.trans hn) (by decide))
    refine zw ?_
    refine ob' h fun e25 g26 h => ?_
    refine zw ?_
    refine Ops.hd (ns := [2]) rfl rfl (Y3g (e' := e19) Ye9.h rfl rfl rfl (Y2f g26).2.2 rfl rfl) ?_
    refine zw ?_
    exact ⟨((List.set l15 (Int.toNat x16) e19), (IntKind.i64.wrap (x16 + 1))), h, Y25.both (ns := [0, 0]) rfl rfl⟩
   rintro ⟨l27, x28⟩ h
   replace h : Ziu x17 l27 x28 = some y46 := h
   unfold Ziu at h
   refine zw ?_
   obtain rfl := Wj h
   exact ⟨k44, (l27, x28, (IntKind.i64.wrap (x17 + 1))), hlt_k44, h47, Y25.both (ns := [0, 0]) rfl rfl⟩
  refine AW.cf hb18 rfl ?_
  refine AW.exit ?_
  obtain rfl := Wj h
  obtain rfl := Wj h47
  replace h := q43
  exact ⟨(l15, x16), h, Y25.both (ns := [0, 0]) rfl rfl⟩
 rintro ⟨l29, x30⟩ h
 replace h : Zit l29 x30 = some r := h
 unfold Zit at h
 refine zw ?_
 refine ob' h fun u32 c31 h => ?_
 refine Ops.v rfl (Y7m (p := 0) (l := (Int.toNat x30)) Yf8.h rfl rfl rfl (Wo (Y45 c31)) rfl rfl) ?_
 refine ob' h fun u34 c33 h => ?_
 refine Ops.hd (ns := [0]) rfl rfl (Y7u (z := (Ya8.mk (Y9z.mk 0 0 0 0 0 0 ByteArray.empty [] 0) false)) Yf7 Ye7 (fun w F => Imps.cells (.cons (Imp.refl _) (.cons (Imp.refl _) (.cons (Imp.refl _) (.cons (Imp.refl _) (.cons (Imp.refl _) (.cons (Imp.refl _) (.cons (Imp.refl _) (.cons (Imp.nil kI64 1) (.cons (Imp.refl _) (.cons (Imp.refl _) .nil)))))))))) (Y4e (cs := [cV (.int .i64 0), cV (.int .i64 0), cV (.int .i64 0), cV (.int .i64 0), cV (.int .i64 0), cV (.int .i64 0), cV (.string ByteArray.empty), cV s0, cV (.int .i64 0), cV (.bool false)]) rfl rfl w F)) rfl (Wo (Y45 c33))) ?_
 refine zw ?_
 refine ob' h fun u36 c35 h => ?_
 refine Ops.v rfl (Y7n (p := 0) (l := (Int.toNat x30)) Yf8.h rfl rfl rfl (Wo (Y45 c35)) rfl rfl) ?_
 refine zw ?_
 refine AW.ret ?_
 rw [← Wj h]
 exact finI ⟨[cV (Y7k w00 (Int.toNat x30))], _, Y25.prefix (p := 0) (h := (Int.toNat x30)) rfl (Int.le_toNat_len c35), (.cons (.tmp rfl) .nil), [0, 0], _, _, rfl, ⟨(Y7k w00 (Int.toNat x30)), rfl, rfl⟩⟩
instance Ziy (p0 : List Ya8) (p1_0 : Ya2) : SpO Tryz.prog 95 (Ziw p0 p1_0) (.x fun (w00 : Value) => .x fun (b01 : Nat) => .d [cV w00, C.clo 96 [pt b01]] [oA w00 92 Yau 10 p0, oB b01 49 [cI p1_0.user, cM kI64 1 p1_0.at_]] fun r => .x fun (v37 : Value) => .d (cV v37) [oA v37 92 Yau 10 r, oB b01 49 [cI p1_0.user, cM kI64 1 p1_0.at_]]) := ⟨fun w00 b01 r h => Zix p0 p1_0 r h⟩

def Ziz (p0 : Int) (p1 : Int) : Option ByteArray := (chk (decide ((0 ≤ p0 ∧ p0 < 100) ∧ p1 = 10))).bind fun _ => some ⟨(Go.Lib.decDigits p0.toNat).toArray⟩
instance Zj0 (p0 : Int) (p1 : Int) : Sp Tryz.prog 98 [cI p0, cI p1] (Ziz p0 p1) (fun r => C.str r) := Y9w Y9x Y9y p0 p1

def Zj1 (p0 : Int) : Option ByteArray := (Ziz p0 10).bind fun r1 => some r1
instance Zj2 (p0 : Int) : Sp Tryz.prog 59 [cI p0] (Zj1 p0) (fun r => C.str r) := Sp.of (so Tryz.func59 rfl rfl fun r X h => gh .z)

def Zj3 (p0 : ByteArray) (p1 : ByteArray) : Option Bool := (chk (decide (p0.size < 4294967281))).bind fun _ => some (Go.Lib.contains p0.data.toList p1.data.toList)
instance Zj4 (p0 : ByteArray) (p1 : ByteArray) : Sp Tryz.prog 58 [C.str p0, C.str p1] (Zj3 p0 p1) (fun r => C.bool r) := Y9s rfl Y9t Y9u p0 p1

def Zj5 (p0 : Yaa) (p1 : Int) (p2 : Int) : Option Int := (Zh2 p0.hub.stream (Ya1.mk p1 p2)).bind fun r1 => some (IntKind.i64.wrap (r1 + 1))
instance Zj6 (p0 : Yaa) (p1 : Int) (p2 : Int) : Sp Tryz.prog 123 [C.ip [cM Yag 3 p0.hub.rooms, cM Yad 2 p0.hub.stream, cM Yat 1 p0.rooms], cI p1, cI p2] (Zj5 p0 p1 p2) (fun r => cI r) := Sp.of (so Tryz.func123 rfl rfl fun r X h => gh .z)

def Zj7 (p0 : Yaa) (p1 : Int) : Option Ya9 := (getI p0.rooms (IntKind.i64.wrap (p1 - 1))).bind fun e1 => some e1
instance Zj8 (p0 : Yaa) (p1 : Int) : Sp Tryz.prog 80 [C.ip [cM Yag 3 p0.hub.rooms, cM Yad 2 p0.hub.stream, cM Yat 1 p0.rooms], cI p1] (Zj7 p0 p1) (fun r => C.ip [cI r.graph.room, cM Yab 9 r.graph.events, cM Yab 9 r.graph.parked, C.imap .i64 Yap r.depth, C.imap .i64 Yaq r.before, C.imap .i64 Yaq r.after, C.imap .i64 Yap r.refused]) := Sp.of (so Tryz.func80 rfl rfl fun r X h => gh .z)

def Zj9 (p0 : Yaa) (p1 : Int) (p2 : Int) : Option Bool := (Zj7 p0 p2).bind fun r1 => (Zii r1).bind fun r3 => (Zdp r1.graph r3 p1).bind fun r5 => some (r5 == 1)
instance Zja (p0 : Yaa) (p1 : Int) (p2 : Int) : Sp Tryz.prog 126 [C.ip [cM Yag 3 p0.hub.rooms, cM Yad 2 p0.hub.stream, cM Yat 1 p0.rooms], cI p1, cI p2] (Zj9 p0 p1 p2) (fun r => C.bool r) := Sp.of (so Tryz.func126 rfl rfl fun r X h => gh (.r [] [3] [] [0,4,8,13,16,24,22,30,32,36] .z))

def Zjb (x23 : Bool) : Option Bool := some x23
def Zjc (p0 : Yaa) (p1 : Int) (p2 : Int) (p3 : Int) (r4 : Ya9) (x16 : Bool) : Option Bool := cond x16 (some true) ((Zh4 r4.graph (Option.getD (mget r4.after p3) ([] : List Ya5))).bind fun r18 => cond (r18 == 2) ((Zj9 p0 p1 p2).bind fun r21 => Zjb r21) (Zjb false))
def Zjd (p0 : Yaa) (p1 : Int) (p2 : Int) (p3 : Int) : Option Bool := (Zj5 p0 p2 p3).bind fun r1 => cond (r1 == 0) (some false) ((Zj7 p0 p2).bind fun r4 => (Zct r4.graph p3).bind fun r6 => (Zdp r4.graph (Option.getD (mget r4.after p3) ([] : List Ya5)) p1).bind fun r9 => cond (r9 == 1) (Zjc p0 p1 p2 p3 r4 true) ((Zh4 r4.graph (Option.getD (mget r4.after p3) ([] : List Ya5))).bind fun r12 => cond (r12 == 1) (Zjc p0 p1 p2 p3 r4 true) (cond (r6.1.kind == 2) (Zjc p0 p1 p2 p3 r4 (r6.1.key == p1)) (Zjc p0 p1 p2 p3 r4 false))))
instance Zje (p0 : Yaa) (p1 : Int) (p2 : Int) (p3 : Int) : Sp Tryz.prog 85 [C.ip [cM Yag 3 p0.hub.rooms, cM Yad 2 p0.hub.stream, cM Yat 1 p0.rooms], cI p1, cI p2, cI p3] (Zjd p0 p1 p2 p3) (fun r => C.bool r) := Sp.of (so Tryz.func85 rfl rfl fun r X h => gh (.b .z (.q 4 (.c1 (fun x16 => .d [(36, C.bool x16)] []) [0,1,2,9,12] [] .z (.b .z (.c1 (fun x23 => .d [(8, C.bool x23)] []) [] [] .z .z))))))

def Zjf (l42 : List Int) : Option (List Int) := some l42
def Zjg (x22 : Int) (l40 : List Int) : Option ((List Int × Int) ⊕ ((List Int))) := some (.inl (l40, (IntKind.i64.wrap (x22 + 1))))
def Zjh (l21 : List Int) (x22 : Int) (x33 : Bool) : Option ((List Int × Int) ⊕ ((List Int))) := cond x33 ((chk (decide ((l21.length + [(IntKind.i64.wrap (x22 + 1))].length) * 8 ≤ 140737488355328))).bind fun u37 => Zjg x22 (l21 ++ [(IntKind.i64.wrap (x22 + 1))])) (Zjg x22 l21)
def Zji (p0 : Yaa) (p1 : Int) (p2 : Int) (p3 : Int) (p4 : Int) (l21 : List Int) (x22 : Int) : Option ((List Int × Int) ⊕ ((List Int))) := cond (decide (x22 < (p0.hub.stream.length : Int))) ((getI p0.hub.stream x22).bind fun e24 => (Z8o (IntKind.i64.wrap (x22 + 1)) p3 p4).bind fun r27 => cond r27 (cond (e24.room == p2) ((Zjd p0 p1 p2 e24.id).bind fun r31 => Zjh l21 x22 r31) (Zjh l21 x22 false)) (Zjh l21 x22 false)) (some (.inr l21))
def Zjj (p0 : Yaa) (p1 : Int) (p2 : Int) (p3 : Int) (p4 : Int) : Option (List Int) := (iter (fun z44 => Zji p0 p1 p2 p3 p4 z44.1 z44.2) big (([] : List Int), 0)).bind fun y45 => Zjf y45
instance Zjk (p0 : Yaa) (p1 : Int) (p2 : Int) (p3 : Int) (p4 : Int) : SpO Tryz.prog 94 (Zjj p0 p1 p2 p3 p4) (.d [C.ip [cM Yag 3 p0.hub.rooms, cM Yad 2 p0.hub.stream, cM Yat 1 p0.rooms], cI p1, cI p2, cI p3, cI p4] [] fun r => .x fun (v43 : Value) => .d (cV v43) [oA v43 2 kI64 1 r]) := ⟨so Tryz.func94 rfl rfl fun r X h => gh (.q 2 (.c1 (fun l42 => .x fun v41 => .d [(11, cV v41)] [oA v41 2 kI64 1 l42]) [] [] (.l2 (fun l21 x22 => .x fun v20 => .d [(11, cV v20), (22, cI x22)] [oA v20 2 kI64 1 l21]) [0,1,2,3,4,20,21] [] (.b (.c1 (fun l40 => .x fun v39 => .d [(11, cV v39)] [oA v39 2 kI64 1 l40]) [0,1,2,3,4,20,21,22] [] (.q 2 (.c1 (fun x33 => .d [(46, C.bool x33)] []) [0,1,2,3,4,11,14,20,21,22] [1] .z .z)) .z) .z)) .z))⟩
instance Zjk' (p0 : Yaa) (p1 : Int) (p2 : Int) (p3 : Int) (p4 : Int) : Sp Tryz.prog 94 [C.ip [cM Yag 3 p0.hub.rooms, cM Yad 2 p0.hub.stream, cM Yat 1 p0.rooms], cI p1, cI p2, cI p3, cI p4] (Zjj p0 p1 p2 p3 p4) (fun r => cM kI64 1 r) := ⟨fun r h => Ok.freeze ((Zjk p0 p1 p2 p3 p4).h r h) (by rintro c qs ⟨v43, rfl, rfl⟩; exact Frz.arr)⟩

def Zjl : Option Int := some 0
def Zjm (x26 : Int) : Option (Int ⊕ (Int ⊕ Unit)) := some (.inl (IntKind.i64.wrap (x26 + 1)))
def Zjn (x26 : Int) (e28 : Ya1) (x50 : Bool) : Option (Int ⊕ (Int ⊕ Unit)) := cond x50 (some (.inr (.inl e28.id))) (Zjm x26)
def Zjo (p2 : Int) (x26 : Int) (e28 : Ya1) (x40 : Int) (x41 : Int) (x42 : Int) (x43 : Int) (x44 : Int) (x45 : Int) (x46 : ByteArray) (l47 : List Int) (x48 : Int) : Option (Int ⊕ (Int ⊕ Unit)) := cond (x43 == 8) (Zjn x26 e28 (x44 == p2)) (Zjn x26 e28 false)
def Zjp (p0 : Yaa) (p1 : Int) (p2 : Int) (x26 : Int) : Option (Int ⊕ (Int ⊕ Unit)) := cond (decide (x26 < (p0.hub.stream.length : Int))) ((getI p0.hub.stream x26).bind fun e28 => cond (e28.room != p1) (Zjm x26) ((Zj7 p0 p1).bind fun r32 => (Zct r32.graph e28.id).bind fun r35 => Zjo p2 x26 e28 r35.1.id r35.1.room r35.1.author r35.1.kind r35.1.key r35.1.n r35.1.text r35.1.prev r35.1.time)) (some (.inr (.inr ())))
def Zjq (p0 : Yaa) (p1 : Int) (p2 : Int) : Option Int := (iter (Zjp p0 p1 p2) big 0).bind (fun z53 => match z53 with | .inl y52 => some y52 | .inr () => Zjl)
instance Zjr (p0 : Yaa) (p1 : Int) (p2 : Int) : Sp Tryz.prog 128 [C.ip [cM Yag 3 p0.hub.rooms, cM Yad 2 p0.hub.stream, cM Yat 1 p0.rooms], cI p1, cI p2] (Zjq p0 p1 p2) cI := sp Tryz.func128 rfl rfl fun r X h => by
 unfold Zjq at h
 refine AW.seq ?_
 refine AW.region ?_
 refine Ops.v rfl (Ys rfl rfl) ?_
 refine Ops.nil ?_
 refine AW.seq ?_
 refine AW.cut (τ := Unit) (fun (_ : Unit) => ⟨[], []⟩) (fun (_ : Unit) => Zjl = some r) ?_ ?_
 ·
  refine zw ?_
  refine ob' h fun o54 g55 q56 => ?_
  refine AW.loop (τ := Int) (x := 0) (fun x26 => ⟨[(0, C.ip [cM Yag 3 p0.hub.rooms, cM Yad 2 p0.hub.stream, cM Yat 1 p0.rooms]), (1, cI p1), (2, cI p2), (15, cM Yad 2 p0.hub.stream), (16, cI (p0.hub.stream.length : Int)), (17, cI x26)], []⟩) (fun k x26 => iter (Zjp p0 p1 p2) k x26 = some o54) g55 (Y25.both (ns := []) rfl rfl) ?_
  intro k x26 i58
  refine Y4d (show iter (Zjp p0 p1 p2) k x26 = some o54 from i58) fun k57 y59 hlt_k57 h h60 => ?_
  replace h : Zjp p0 p1 p2 x26 = some y59 := h
  unfold Zjp at h
  refine zw ?_
  refine cnd h (fun hb27 h => ?_) fun hb27 h => ?_
  ·
   refine AW.ct hb27 rfl ?_
   refine AW.skip ?_
   refine AW.seq ?_
   refine AW.cut (τ := Unit) (fun (_ : Unit) => ⟨[(0, C.ip [cM Yag 3 p0.hub.rooms, cM Yad 2 p0.hub.stream, cM Yat 1 p0.rooms]), (1, cI p1), (2, cI p2), (15, cM Yad 2 p0.hub.stream), (16, cI (p0.hub.stream.length : Int)), (17, cI x26)], []⟩) (fun (_ : Unit) => Zjm x26 = some y59) ?_ ?_
   ·
    refine zw ?_
    refine oi h fun e28 g29 h => ?_
    refine zw ?_
    refine al fun b30 => ?_
    refine zw ?_
    refine cnd h (fun hb31 h => ?_) fun hb31 h => ?_
    ·
     refine AW.ct hb31 rfl ?_
     refine AW.exit ?_
     exact ⟨(), h, Y25.both (ns := []) rfl rfl⟩
    refine AW.cf hb31 rfl ?_
    refine AW.skip ?_
    refine AW.seq ?_
    refine AW.cut (τ := Int × Int × Int × Int × Int × Int × ByteArray × List Int × Int × Nat) (fun (x40, x41, x42, x43, x44, x45, x46, l47, x48, b39) => ⟨[(0, C.ip [cM Yag 3 p0.hub.rooms, cM Yad 2 p0.hub.stream, cM Yat 1 p0.rooms]), (1, cI p1), (2, cI p2), (8, pt b30), (9, pt b39), (15, cM Yad 2 p0.hub.stream), (16, cI (p0.hub.stream.length : Int)), (17, cI x26)], [oB b39 82 [cI x40, cI x41, cI x42, cI x43, cI x44, cI x45, C.str x46, cM kI64 1 l47, cI x48], oB b30 40 [cI e28.room, cI e28.id]]⟩) (fun (x40, x41, x42, x43, x44, x45, x46, l47, x48, b39) => Zjo p2 x26 e28 x40 x41 x42 x43 x44 x45 x46 l47 x48 = some y59) ?_ ?_
    ·
     refine AW.regionD (L := [5, 7]) (Lt := [13]) (k := .light 0 false (.light 1 false (.light 6 false (.light 7 true (.two 2 12 (.light 3 false (.light 4 false (.light 5 true (.two 8 12 (.light 9 false (.light 10 false (.light 11 false (.one 12 (.late 13 (.light 14 false .done)))))) (.one 8 (.light 9 false (.light 10 false (.light 11 false (.late 13 (.light 14 false .done)))))))))) (.one 2 (.light 3 false (.light 4 false (.light 5 true (.one 8 (.light 9 false (.light 10 false (.light 11 false (.late 13 (.light 14 false .done))))))))))))))) (ns := [0]) (by kernel_rfl) (by kernel_rfl) (by kernel_rfl) (by kernel_rfl) rfl ?_
     refine zw ?_
     refine ob' h fun r32 g33 h => ?_
     refine OpsD.two ?_ ?_
     ·
      refine Y3z.h (ns := []) rfl rfl rfl (Y28 ((Zj8 _ _).h _ g33) rfl rfl) ?_
      rintro _ _ ⟨rfl, rfl⟩
      refine zw ?_
      refine ob' h fun r35 g36 h => ?_
      refine OpsD.two ?_ ?_
      ·
       refine Y3z.h (ns := []) rfl rfl rfl (Y28 ((Zcu _ _).h _ g36) rfl rfl) ?_
       rintro _ _ ⟨rfl, rfl⟩
       refine zw ?_
       refine dal fun b34 => ?_
       refine zw ?_
       exact ⟨(r35.1.id, r35.1.room, r35.1.author, r35.1.kind, r35.1.key, r35.1.n, r35.1.text, r35.1.prev, r35.1.time, b34), h, Y25.both (ns := [0, 0]) rfl rfl⟩
      refine dal fun b34 => ?_
      refine OpsD.one ?_
      refine Y3z.h (ns := []) rfl rfl rfl (Y28 ((Zcu _ _).h _ g36) rfl rfl) ?_
      rintro _ _ ⟨rfl, rfl⟩
      refine zw ?_
      exact ⟨(r35.1.id, r35.1.room, r35.1.author, r35.1.kind, r35.1.key, r35.1.n, r35.1.text, r35.1.prev, r35.1.time, b34), h, Y25.both (ns := [0, 0]) rfl rfl⟩
     refine dal fun b34 => ?_
     refine OpsD.one ?_
     refine Y3z.h (ns := []) rfl rfl rfl (Y28 ((Zj8 _ _).h _ g33) rfl rfl) ?_
     rintro _ _ ⟨rfl, rfl⟩
     refine zw ?_
     refine dc h fun r37 g38 h => ?_
     refine zw ?_
     exact ⟨(r37.1.id, r37.1.room, r37.1.author, r37.1.kind, r37.1.key, r37.1.n, r37.1.text, r37.1.prev, r37.1.time, b34), h, Y25.both (ns := [0, 0]) rfl rfl⟩
    rintro ⟨x40, x41, x42, x43, x44, x45, x46, l47, x48, b39⟩ h
    replace h : Zjo p2 x26 e28 x40 x41 x42 x43 x44 x45 x46 l47 x48 = some y59 := h
    unfold Zjo at h
    refine AW.seq ?_
    refine AW.cut (τ := Bool) (fun x50 => ⟨[(0, C.ip [cM Yag 3 p0.hub.rooms, cM Yad 2 p0.hub.stream, cM Yat 1 p0.rooms]), (1, cI p1), (2, cI p2), (8, pt b30), (15, cM Yad 2 p0.hub.stream), (16, cI (p0.hub.stream.length : Int)), (17, cI x26), (45, C.bool x50)], [oB b30 40 [cI e28.room, cI e28.id]]⟩) (fun x50 => Zjn x26 e28 x50 = some y59) ?_ ?_
    ·
     refine zw ?_
     refine cnd h (fun hb49 h => ?_) fun hb49 h => ?_
     ·
      refine zw ?_
      exact ⟨(x44 == p2), h, Y25.both (ns := [1]) rfl rfl⟩
     refine zw ?_
     exact ⟨false, h, Y25.both (ns := [1]) rfl rfl⟩
    intro x50 h
    replace h : Zjn x26 e28 x50 = some y59 := h
    unfold Zjn at h
    refine cnd h (fun hb51 h => ?_) fun hb51 h => ?_
    ·
     refine AW.ct hb51 rfl ?_
     refine zw ?_
     refine AW.ret ?_
     obtain rfl := Wj h
     obtain rfl := Wj h60
     replace h := q56
     rw [← Wj h]
     exact finI ⟨[cI e28.id], _, Y25.refl _, (.cons (.tmp rfl) .nil), [], _, _, rfl, ⟨rfl, rfl⟩⟩
    refine AW.cf hb51 rfl ?_
    refine zw ?_
    exact ⟨(), h, Y25.both (ns := []) rfl rfl⟩
   rintro ⟨⟩ h
   replace h : Zjm x26 = some y59 := h
   unfold Zjm at h
   refine zw ?_
   obtain rfl := Wj h
   exact ⟨k57, (IntKind.i64.wrap (x26 + 1)), hlt_k57, h60, Y25.both (ns := []) rfl rfl⟩
  refine AW.cf hb27 rfl ?_
  refine AW.exit ?_
  obtain rfl := Wj h
  obtain rfl := Wj h60
  replace h := q56
  exact ⟨(), h, Y25.both (ns := []) rfl rfl⟩
 rintro ⟨⟩ h
 replace h : Zjl = some r := h
 unfold Zjl at h
 refine zw ?_
 refine AW.ret ?_
 rw [← Wj h]
 exact finI ⟨[cI 0], _, Y25.refl _, (.cons (.tmp rfl) .nil), [], _, _, rfl, ⟨rfl, rfl⟩⟩

def Zjs (r10 : Y9z) (x21 : ByteArray) (x22 : Bool) : Option Ya8 := some (Ya8.mk (Y9z.mk r10.id r10.room r10.author r10.kind r10.key r10.n x21 r10.prev r10.time) x22)
def Zjt (r10 : Y9z) (x19 : Bool) : Option Ya8 := cond x19 (Zjs r10 ByteArray.empty true) (Zjs r10 r10.text false)
def Zju (p0 : Yaa) (p1 : Int) (p2 : Int) : Option Ya8 := (Zj5 p0 p1 p2).bind fun r2 => cond (r2 == 0) (some (Ya8.mk (Y9z.mk 0 0 0 0 0 0 ByteArray.empty [] 0) false)) ((Zj7 p0 p1).bind fun r5 => (Zct r5.graph p2).bind fun r7 => (Zik r7.1).bind fun r10 => cond (r7.1.kind == 7) ((Zjq p0 p1 p2).bind fun r14 => Zjt r10 (r14 != 0)) (cond (r7.1.kind == 4) ((Zjq p0 p1 p2).bind fun r17 => Zjt r10 (r17 != 0)) (Zjt r10 false)))
instance Zjv (p0 : Yaa) (p1 : Int) (p2 : Int) : Sp Tryz.prog 86 [C.ip [cM Yag 3 p0.hub.rooms, cM Yad 2 p0.hub.stream, cM Yat 1 p0.rooms], cI p1, cI p2] (Zju p0 p1 p2) (fun r => C.agg [cI r.event.id, cI r.event.room, cI r.event.author, cI r.event.kind, cI r.event.key, cI r.event.n, C.str r.event.text, cM kI64 1 r.event.prev, cI r.event.time, C.bool r.hidden]) := sp Tryz.func86 rfl rfl fun r X h => by
 unfold Zju at h
 refine zw ?_
 refine al fun b1 => ?_
 refine zw ?_
 refine oc h fun r2 g3 h => ?_
 refine zw ?_
 refine cnd h (fun hb4 h => ?_) fun hb4 h => ?_
 ·
  refine AW.ct hb4 rfl ?_
  refine AW.seq ?_
  refine AW.region ?_
  refine Ops.v rfl (Y3k (ds := [cI 0, cI 0, cI 0, cI 0, cI 0, cI 0, C.str ByteArray.empty, cV s0, cI 0, C.bool false]) Ye8 Ye7 (Y4e rfl rfl) .nil rfl) ?_
  refine zw ?_
  refine AW.ret ?_
  rw [← Wj h]
  exact finI ⟨[C.agg [cI 0, cI 0, cI 0, cI 0, cI 0, cI 0, C.str ByteArray.empty, cM kI64 1 [], cI 0, C.bool false]], _, Y25.boxFrz (ns := [0]) rfl (fS (fS (fS (fS (fS (fS (fS (FrzL.cons (os := []) (Frz.imp (Imp.nil kI64 1)) (fS (fS FrzL.nil)))))))))), (.cons (.cell (p := 0) rfl rfl Ye9.h rfl) .nil), [], _, _, rfl, ⟨rfl, rfl⟩⟩
 refine AW.cf hb4 rfl ?_
 refine zw ?_
 refine oc h fun r5 g6 h => ?_
 refine zw ?_
 refine oc h fun r7 g8 h => ?_
 refine zw ?_
 refine al fun b9 => ?_
 refine zw ?_
 refine oc h fun r10 g11 h => ?_
 refine Ops.v rfl (Y3k (ds := [cI r10.id, cI r10.room, cI r10.author, cI r10.kind, cI r10.key, cI r10.n, C.str r10.text, cM kI64 1 r10.prev, cI r10.time, C.bool false]) Ye8 Ye7 (Y4e rfl rfl) (.agg rfl rfl rfl .nil) rfl) ?_
 refine al fun b12 => ?_
 refine Ops.sA Ye9.h rfl rfl rfl inferInstance rfl ?_
 refine Ops.nil ?_
 refine AW.seq ?_
 refine AW.cut (τ := ByteArray × Bool) (fun (x21, x22) => ⟨[(6, pt b1), (9, pt b12)], [oB b12 92 [cI r10.id, cI r10.room, cI r10.author, cI r10.kind, cI r10.key, cI r10.n, C.str x21, cM kI64 1 r10.prev, cI r10.time, C.bool x22], oB b1 92 [cI 0, cI 0, cI 0, cI 0, cI 0, cI 0, C.str ByteArray.empty, cV s0, cI 0, C.bool false]]⟩) (fun (x21, x22) => Zjs r10 x21 x22 = some r) ?_ ?_
 ·
  refine AW.seq ?_
  refine AW.cut (τ := Bool) (fun x19 => ⟨[(6, pt b1), (9, pt b12), (44, C.bool x19)], [oB b1 92 [cI 0, cI 0, cI 0, cI 0, cI 0, cI 0, C.str ByteArray.empty, cV s0, cI 0, C.bool false], oB b12 92 [cI r10.id, cI r10.room, cI r10.author, cI r10.kind, cI r10.key, cI r10.n, C.str r10.text, cM kI64 1 r10.prev, cI r10.time, C.bool false]]⟩) (fun x19 => Zjt r10 x19 = some r) ?_ ?_
  ·
   refine zw ?_
   refine cnd h (fun hb13 h => ?_) fun hb13 h => ?_
   ·
    refine zw ?_
    refine ob' h fun r14 g15 h => ?_
    refine Ops.ghd (ns := []) rfl rfl rfl rfl rfl rfl (Y28 ((Zjr _ _ _).h _ g15) rfl rfl) ?_
    refine zw ?_
    exact ⟨(r14 != 0), h, Y25.both (ns := [2, 0]) rfl rfl⟩
   refine zw ?_
   refine cnd h (fun hb16 h => ?_) fun hb16 h => ?_
   ·
    refine zw ?_
    refine gcl h rfl rfl rfl rfl hb16 inferInstance rfl rfl fun r17 g18 h => ?_
    refine zw ?_
    exact ⟨(r17 != 0), h, Y25.both (ns := [2, 0]) rfl rfl⟩
   refine zw ?_
   exact ⟨false, h, Y25.both (ns := [2, 0]) rfl rfl⟩
  intro x19 h
  replace h : Zjt r10 x19 = some r := h
  unfold Zjt at h
  refine cnd h (fun hb20 h => ?_) fun hb20 h => ?_
  ·
   refine AW.ct hb20 rfl ?_
   refine zw ?_
   exact ⟨(ByteArray.empty, true), h, Y25.both (ns := [0, 0]) rfl rfl⟩
  refine AW.cf hb20 rfl ?_
  refine zw ?_
  exact ⟨(r10.text, false), h, Y25.both (ns := [1, 0]) rfl rfl⟩
 rintro ⟨x21, x22⟩ h
 replace h : Zjs r10 x21 x22 = some r := h
 unfold Zjs at h
 refine zw ?_
 refine AW.ret ?_
 rw [← Wj h]
 exact finI ⟨[C.agg [cI r10.id, cI r10.room, cI r10.author, cI r10.kind, cI r10.key, cI r10.n, C.str x21, cM kI64 1 r10.prev, cI r10.time, C.bool x22]], _, Y25.refl _, (.cons (.cell (p := 0) rfl rfl Ye9.h rfl) .nil), [], _, _, rfl, ⟨rfl, rfl⟩⟩

def Zjw (l30 : List Ya8) : Option (List Ya8) := some l30
def Zjx (p0 : Yaa) (p1 : List Int) (l15 : List Ya8) (x16 : Int) : Option ((List Ya8 × Int) ⊕ ((List Ya8))) := cond (decide (x16 < (p1.length : Int))) ((getI p1 x16).bind fun e18 => (getI p0.hub.stream (IntKind.i64.wrap (e18 - 1))).bind fun e20 => (Zju p0 e20.room e20.id).bind fun r23 => (chk (decide ((l15.length + [r23].length) * 104 ≤ 140737488355328))).bind fun u27 => some (.inl ((l15 ++ [r23]), (IntKind.i64.wrap (x16 + 1))))) (some (.inr l15))
def Zjy (p0 : Yaa) (p1 : List Int) : Option (List Ya8) := (iter (fun z32 => Zjx p0 p1 z32.1 z32.2) big (([] : List Ya8), 0)).bind fun y33 => Zjw y33
instance Zjz (p0 : Yaa) (p1 : List Int) : SpO Tryz.prog 93 (Zjy p0 p1) (.d [C.ip [cM Yag 3 p0.hub.rooms, cM Yad 2 p0.hub.stream, cM Yat 1 p0.rooms], cM kI64 1 p1] [] fun r => .x fun (v31 : Value) => .d (cV v31) [oA v31 92 Yau 10 r]) := ⟨so Tryz.func93 rfl rfl fun r X h => gh (.q 2 (.c1 (fun l30 => .x fun v29 => .d [(5, cV v29)] [oA v29 92 Yau 10 l30]) [] [] (.l2 (fun l15 x16 => .x fun v14 => .d [(5, cV v14), (12, cI x16)] [oA v14 92 Yau 10 l15]) [0,10,11] [] .z) .z))⟩
instance Zjz' (p0 : Yaa) (p1 : List Int) : Sp Tryz.prog 93 [C.ip [cM Yag 3 p0.hub.rooms, cM Yad 2 p0.hub.stream, cM Yat 1 p0.rooms], cM kI64 1 p1] (Zjy p0 p1) (fun r => cM Yau 10 r) := ⟨fun r h => Ok.freeze ((Zjz p0 p1).h r h) (by rintro c qs ⟨v31, rfl, rfl⟩; exact Frz.arr)⟩

def Zk0 (p0 : Yaa) (p1 : Ya2) (p2 : Int) : Option (List Ya8) := (getI p1.at_ (IntKind.i64.wrap (p2 - 1))).bind fun e2 => (Zjj p0 p1.user p2 (IntKind.i64.wrap (e2 + 1)) 120).bind fun r4 => (Zjy p0 r4).bind fun r6 => (Ziw r6 p1).bind fun r9 => some r9
instance Zk1 (p0 : Yaa) (p1 : Ya2) (p2 : Int) : SpO Tryz.prog 57 (Zk0 p0 p1 p2) (.d [C.ip [cM Yag 3 p0.hub.rooms, cM Yad 2 p0.hub.stream, cM Yat 1 p0.rooms], C.agg [cI p1.user, cM kI64 1 p1.at_], cI p2] [] fun r => .x fun (v12 : Value) => .d (cV v12) [oA v12 92 Yau 10 r]) := ⟨so Tryz.func57 rfl rfl fun r X h => gh (.r [0] [3,6,10] [] [0,4,8,13,16,20,25,28,32,36,41,44,50,54,56] (.p (.k .z)))⟩
instance Zk1' (p0 : Yaa) (p1 : Ya2) (p2 : Int) : Sp Tryz.prog 57 [C.ip [cM Yag 3 p0.hub.rooms, cM Yad 2 p0.hub.stream, cM Yat 1 p0.rooms], C.agg [cI p1.user, cM kI64 1 p1.at_], cI p2] (Zk0 p0 p1 p2) (fun r => cM Yau 10 r) := ⟨fun r h => Ok.freeze ((Zk1 p0 p1 p2).h r h) (by rintro c qs ⟨v12, rfl, rfl⟩; exact Frz.arr)⟩

def Zk2 (l54 : List Int) : Option (List Int) := some l54
def Zk3 (x35 : Int) (l52 : List Int) : Option ((List Int × Int) ⊕ ((List Int))) := some (.inl (l52, (IntKind.i64.wrap (x35 + 1))))
def Zk4 (p1 : Ya2) (r14 : List Ya8) (l34 : List Int) (x35 : Int) : Option ((List Int × Int) ⊕ ((List Int))) := cond (decide (x35 < (r14.length : Int))) ((getI r14 x35).bind fun e37 => (Zj1 p1.user).bind fun r40 => (chk (decide ((ByteArray.mk #[64]).size + r40.size ≤ 9223372036854775807))).bind fun u43 => (Zj3 e37.event.text ((ByteArray.mk #[64]) ++ r40)).bind fun r44 => cond r44 ((chk (decide ((l34.length + [e37.event.id].length) * 8 ≤ 140737488355328))).bind fun u49 => Zk3 x35 (l34 ++ [e37.event.id])) (Zk3 x35 l34)) (some (.inr l34))
def Zk5 (p1 : Ya2) (p2 : Int) (r3 : Yaa × Bool) (x11 : Bool) : Option (List Int) := cond x11 (some []) ((Zk0 r3.1 p1 p2).bind fun r14 => (iter (fun z56 => Zk4 p1 r14 z56.1 z56.2) big (([] : List Int), 0)).bind fun y57 => Zk2 y57)
def Zk6 (p0 : Ya4) (p1 : Ya2) (p2 : Int) : Option (List Int) := (Zgn p0).bind fun r3 => cond r3.2 ((Zgy p1).bind fun r6 => cond r6 ((Z8q p2).bind fun r9 => Zk5 p1 p2 r3 (!r9)) (Zk5 p1 p2 r3 true)) (some [])
instance Zk7 (p0 : Ya4) (p1 : Ya2) (p2 : Int) : SpO Tryz.prog 18 (Zk6 p0 p1 p2) (.d [C.agg [cM Yag 3 p0.rooms, cM Yad 2 p0.stream], C.agg [cI p1.user, cM kI64 1 p1.at_], cI p2] [] fun r => .x fun (v55 : Value) => .d (cV v55) [oA v55 2 kI64 1 r]) := ⟨so Tryz.func18 rfl rfl fun r X h => gh (.b (.q 1 (.c1 (fun x11 => .d [(28, C.bool x11)] []) [2,4,7] [0] .z (.b .z (.q 1 (.c1 (fun l54 => .x fun v53 => .d [(9, cV v53)] [oA v53 2 kI64 1 l54]) [] [] (.l2 (fun l34 x35 => .x fun v33 => .d [(9, cV v33), (35, cI x35)] [oA v33 2 kI64 1 l34]) [4,33,34] [1] (.b (.c1 (fun l52 => .x fun v51 => .d [(9, cV v51)] [oA v51 2 kI64 1 l52]) [4,33,34,35] [1] (.r [0,0,0] [2,4] [] [0,4,9,12,17,22,24,30] .z) .z) .z)) .z))))) .z)⟩
instance Zk7' (p0 : Ya4) (p1 : Ya2) (p2 : Int) : Sp Tryz.prog 18 [C.agg [cM Yag 3 p0.rooms, cM Yad 2 p0.stream], C.agg [cI p1.user, cM kI64 1 p1.at_], cI p2] (Zk6 p0 p1 p2) (fun r => cM kI64 1 r) := ⟨fun r h => Ok.freeze ((Zk7 p0 p1 p2).h r h) (by rintro c qs ⟨v55, rfl, rfl⟩; exact Frz.arr)⟩

def Zk8 : Option Bool := some true
def Zk9 (p0 : List Int) (p1 : List Int) (x8 : Int) : Option (Int ⊕ (Bool ⊕ Unit)) := cond (decide (x8 < (p0.length : Int))) ((getI p0 x8).bind fun e10 => (getI p1 x8).bind fun e12 => cond (e10 != e12) (some (.inr (.inl false))) (some (.inl (IntKind.i64.wrap (x8 + 1))))) (some (.inr (.inr ())))
def Zka (p0 : List Int) (p1 : List Int) : Option Bool := cond ((p0.length : Int) != (p1.length : Int)) (some false) ((iter (Zk9 p0 p1) big 0).bind (fun z16 => match z16 with | .inl y15 => some y15 | .inr () => Zk8))
instance Zkb (p0 : List Int) (p1 : List Int) : Sp Tryz.prog 19 [cM kI64 1 p0, cM kI64 1 p1] (Zka p0 p1) (fun r => C.bool r) := Sp.of (so Tryz.func19 rfl rfl fun r X h => gh (.b .z (.c0 (.d [] []) [] [] (.l1 (fun x8 => .d [(5, cI x8)] []) [0,1] [] (.b (.r [] [3,7] [] [0,4,8,13,16,20,24,29,32] .z) .z)) .z)))

def Zkc (p0 : Y9z) (p1 : Y9z) : Option Bool := cond (p0.id != p1.id) (some false) (cond (p0.room != p1.room) (some false) (cond (p0.author != p1.author) (some false) (cond (p0.kind != p1.kind) (some false) (cond (p0.key != p1.key) (some false) (cond (p0.n != p1.n) (some false) (cond (p0.text.toList == p1.text.toList) ((Zka p0.prev p1.prev).bind fun r10 => cond r10 (cond (p0.time != p1.time) (some false) (some true)) (some false)) (some false)))))))
instance Zkd (p0 : Y9z) (p1 : Y9z) : Sp Tryz.prog 162 [C.agg [cI p0.id, cI p0.room, cI p0.author, cI p0.kind, cI p0.key, cI p0.n, C.str p0.text, cM kI64 1 p0.prev, cI p0.time], C.agg [cI p1.id, cI p1.room, cI p1.author, cI p1.kind, cI p1.key, cI p1.n, C.str p1.text, cM kI64 1 p1.prev, cI p1.time]] (Zkc p0 p1) (fun r => C.bool r) := Sp.of (so Tryz.func162 rfl rfl fun r X h => gh .z)

def Zke : Option Bool := some true
def Zkf (p0 : List Y9z) (p1 : List Y9z) (x10 : Int) : Option (Int ⊕ (Bool ⊕ Unit)) := cond (decide (x10 < (p0.length : Int))) ((getI p0 x10).bind fun e12 => (getI p1 x10).bind fun e14 => (Zkc e12 e14).bind fun r16 => cond r16 (some (.inl (IntKind.i64.wrap (x10 + 1)))) (some (.inr (.inl false)))) (some (.inr (.inr ())))
def Zkg (p0 : List Y9z) (p1 : List Y9z) : Option Bool := cond ((p0.length : Int) != (p1.length : Int)) (some false) ((iter (Zkf p0 p1) big 0).bind (fun z20 => match z20 with | .inl y19 => some y19 | .inr () => Zke))
instance Zkh (p0 : List Y9z) (p1 : List Y9z) : Sp Tryz.prog 129 [cM Yab 9 p0, cM Yab 9 p1] (Zkg p0 p1) (fun r => C.bool r) := Sp.of (so Tryz.func129 rfl rfl fun r X h => gh (.b .z (.c0 (.d [] []) [] [] (.l1 (fun x10 => .d [(5, cI x10)] []) [0,1] [] (.b (.r [] [3,7] [] [0,4,8,13,16,20,24,29,34,36] .z) .z)) .z)))

def Zki (p0 : Ya3) (p1 : Ya3) : Option Bool := cond (p0.room != p1.room) (some false) ((Zkg p0.events p1.events).bind fun r4 => cond r4 ((Zkg p0.parked p1.parked).bind fun r7 => cond r7 (some true) (some false)) (some false))
instance Zkj (p0 : Ya3) (p1 : Ya3) : Sp Tryz.prog 87 [C.agg [cI p0.room, cM Yab 9 p0.events, cM Yab 9 p0.parked], C.agg [cI p1.room, cM Yab 9 p1.events, cM Yab 9 p1.parked]] (Zki p0 p1) (fun r => C.bool r) := Sp.of (so Tryz.func87 rfl rfl fun r X h => gh .z)

def Zkk : Option Bool := some true
def Zkl (p0 : List Ya3) (p1 : List Ya3) (x10 : Int) : Option (Int ⊕ (Bool ⊕ Unit)) := cond (decide (x10 < (p0.length : Int))) ((getI p0 x10).bind fun e12 => (getI p1 x10).bind fun e14 => (Zki e12 e14).bind fun r16 => cond r16 (some (.inl (IntKind.i64.wrap (x10 + 1)))) (some (.inr (.inl false)))) (some (.inr (.inr ())))
def Zkm (p0 : List Ya3) (p1 : List Ya3) : Option Bool := cond ((p0.length : Int) != (p1.length : Int)) (some false) ((iter (Zkl p0 p1) big 0).bind (fun z20 => match z20 with | .inl y19 => some y19 | .inr () => Zkk))
instance Zkn (p0 : List Ya3) (p1 : List Ya3) : Sp Tryz.prog 45 [cM Yag 3 p0, cM Yag 3 p1] (Zkm p0 p1) (fun r => C.bool r) := Sp.of (so Tryz.func45 rfl rfl fun r X h => gh (.b .z (.c0 (.d [] []) [] [] (.l1 (fun x10 => .d [(5, cI x10)] []) [0,1] [] (.b (.r [] [3,7] [] [0,4,8,13,16,20,24,29,34,36] .z) .z)) .z)))

def Zko (p0 : Ya1) (p1 : Ya1) : Option Bool := cond (p0.room != p1.room) (some false) (cond (p0.id != p1.id) (some false) (some true))
instance Zkp (p0 : Ya1) (p1 : Ya1) : Sp Tryz.prog 88 [C.agg [cI p0.room, cI p0.id], C.agg [cI p1.room, cI p1.id]] (Zko p0 p1) (fun r => C.bool r) := Sp.of (so Tryz.func88 rfl rfl fun r X h => gh .z)

def Zkq : Option Bool := some true
def Zkr (p0 : List Ya1) (p1 : List Ya1) (x10 : Int) : Option (Int ⊕ (Bool ⊕ Unit)) := cond (decide (x10 < (p0.length : Int))) ((getI p0 x10).bind fun e12 => (getI p1 x10).bind fun e14 => (Zko e12 e14).bind fun r16 => cond r16 (some (.inl (IntKind.i64.wrap (x10 + 1)))) (some (.inr (.inl false)))) (some (.inr (.inr ())))
def Zks (p0 : List Ya1) (p1 : List Ya1) : Option Bool := cond ((p0.length : Int) != (p1.length : Int)) (some false) ((iter (Zkr p0 p1) big 0).bind (fun z20 => match z20 with | .inl y19 => some y19 | .inr () => Zkq))
instance Zkt (p0 : List Ya1) (p1 : List Ya1) : Sp Tryz.prog 46 [cM Yad 2 p0, cM Yad 2 p1] (Zks p0 p1) (fun r => C.bool r) := Sp.of (so Tryz.func46 rfl rfl fun r X h => gh (.b .z (.c0 (.d [] []) [] [] (.l1 (fun x10 => .d [(5, cI x10)] []) [0,1] [] (.b (.r [] [3,7] [] [0,4,8,13,16,20,24,29,34,36] .z) .z)) .z)))

def Zku (p0 : Ya4) (p1 : Ya4) : Option Bool := (Zkm p0.rooms p1.rooms).bind fun r3 => cond r3 ((Zks p0.stream p1.stream).bind fun r6 => cond r6 (some true) (some false)) (some false)
instance Zkv (p0 : Ya4) (p1 : Ya4) : Sp Tryz.prog 14 [C.agg [cM Yag 3 p0.rooms, cM Yad 2 p0.stream], C.agg [cM Yag 3 p1.rooms, cM Yad 2 p1.stream]] (Zku p0 p1) (fun r => C.bool r) := Sp.of (so Tryz.func14 rfl rfl fun r X h => gh .z)

def Zkw (p0 : Ya2) (p1 : Ya2) : Option Bool := cond (p0.user != p1.user) (some false) ((Zka p0.at_ p1.at_).bind fun r4 => cond r4 (some true) (some false))
instance Zkx (p0 : Ya2) (p1 : Ya2) : Sp Tryz.prog 20 [C.agg [cI p0.user, cM kI64 1 p0.at_], C.agg [cI p1.user, cM kI64 1 p1.at_]] (Zkw p0 p1) (fun r => C.bool r) := Sp.of (so Tryz.func20 rfl rfl fun r X h => gh .z)

def Zky (x12 : ByteArray) : Option ByteArray := (chk (decide ((ByteArray.mk #[109]).size + x12.size ≤ 9223372036854775807))).bind fun u14 => some ((ByteArray.mk #[109]) ++ x12)
def Zkz (x6 : Int) (x7 : ByteArray) : Option ((Int × ByteArray) ⊕ (ByteArray)) := cond (decide (x6 > 0)) ((chk (decide ((Y7d [(IntKind.u8.wrap (IntKind.i64.wrap (48 + (Int.tmod x6 10))))]).size + x7.size ≤ 9223372036854775807))).bind fun u11 => some (.inl ((IntKind.i64.wrap (Int.tdiv x6 10)), ((Y7d [(IntKind.u8.wrap (IntKind.i64.wrap (48 + (Int.tmod x6 10))))]) ++ x7)))) (some (.inr x7))
def Zl0 (p0 : Int) : Option ByteArray := cond (decide (p0 ≤ 0)) (some (ByteArray.mk #[109, 48])) ((iter (fun z15 => Zkz z15.1 z15.2) big (p0, ByteArray.empty)).bind fun y16 => Zky y16)
instance Zl1 (p0 : Int) : Sp Tryz.prog 133 [cI p0] (Zl0 p0) (fun r => C.str r) := Sp.of (so Tryz.func133 rfl rfl fun r X h => gh (.b .z (.q 1 (.c1 (fun x12 => .d [(3, C.str x12)] []) [] [] (.l2 (fun x6 x7 => .d [(0, cI x6), (3, C.str x7)] []) [] [] .z) .z))))

def Zl2 (x10 : Int) (l11 : List Int) : Option (Int × List Int) := some (x10, l11)
def Zl3 (l4 : List Int) (x5 : Int) (x6 : Int) : Option ((List Int × Int × Int) ⊕ ((Int × List Int))) := cond (decide (x6 < (l4.length : Int))) ((getI l4 x6).bind fun e8 => some (.inl ((List.set l4 (Int.toNat x6) x5), (IntKind.i64.wrap (x5 + 1)), (IntKind.i64.wrap (x6 + 1))))) (some (.inr (x5, l4)))
def Zl4 (p0 : List Int) (p1 : Int) : Option (Int × List Int) := (iter (fun z12 => Zl3 z12.1 z12.2.1 z12.2.2) big (p0, p1, 0)).bind fun (y13, y14) => Zl2 y13 y14
instance Zl5 (p0 : List Int) (p1 : Int) : SpO Tryz.prog 23 (Zl4 p0 p1) (.x fun (w00 : Value) => .d [cV w00, cI p1] [oA w00 2 kI64 1 p0] fun r => .d (cI r.1) [oA w00 2 kI64 1 r.2]) := ⟨fun w00 => so Tryz.func23 rfl rfl fun r X h => gh (.q 1 (.c2 (fun x10 l11 => .d [(1, cI x10)] [oA w00 2 kI64 1 l11]) [] [] (.l3 (fun l4 x5 x6 => .d [(1, cI x5), (5, cI x6)] [oA w00 2 kI64 1 l4]) [0] [] .z) .z))⟩

end Go.Proofs.YtnoknphekhclcaaGreatDoor
