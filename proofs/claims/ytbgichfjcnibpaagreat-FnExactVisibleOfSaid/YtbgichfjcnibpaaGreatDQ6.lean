/- Printed by gen.py: plain functions for Go functions, and that the walks keep to them. -/
import Derived.Test.YtbgichfjcnibpaaGreatDQ5
set_option autoImplicit false
set_option linter.unusedVariables false
set_option linter.unusedSimpArgs false
set_option maxRecDepth 100000
namespace Go.Proofs.YtbgichfjcnibpaaGreat
open Go Go.Abs
attribute [local irreducible] AW Ops OpsD Y3n
def Zet (l28 : List Int) : Option (List Int) := some l28
def Zeu (x15 : Int) (l26 : List Int) : Option ((List Int × Int) ⊕ ((List Int))) := some (.inl (l26, (IntKind.i64.wrap (x15 + 1))))
def Zev (p0 : Y94) (l14 : List Int) (x15 : Int) : Option ((List Int × Int) ⊕ ((List Int))) := cond (decide (x15 < (p0.graph.events.length : Int))) ((getI p0.graph.events x15).bind fun e17 => cond ((Option.getD (mget p0.refused e17.id) 0) == 0) ((chk (decide ((l14.length + [e17.id].length) * 8 ≤ 140737488355328))).bind fun u23 => Zeu x15 (l14 ++ [e17.id])) (Zeu x15 l14)) (some (.inr l14))
def Zew (p0 : Y94) : Option (List Int) := (iter (fun z30 => Zev p0 z30.1 z30.2) big (([] : List Int), 0)).bind fun y31 => Zet y31
set_option maxHeartbeats 1000000 in
theorem Zex (p0 : Y94) (r : List Int) (h : Zew p0 = some r) : Ok Tryz.prog 137 [C.ip [C.int p0.graph.room, C.im Y96 9 p0.graph.events, C.im Y96 9 p0.graph.parked, C.imap .i64 Y9j p0.depth, C.imap .i64 Y9k p0.before, C.imap .i64 Y9k p0.after, C.imap .i64 Y9j p0.refused]] [] (fun c qs => ∃ (v29 : Value), c = C.val v29 ∧ qs = [Obj.arr v29 2 kI64 1 r]) := by
 refine Ok.of_body (rs := [.tmp 2]) Tryz.func137 rfl rfl rfl rfl rfl fun X => ?_
 unfold Zew at h
 refine zw ?_
 refine Ops.h (ns := []) rfl rfl (Y39 (k := kI64) (ys := ([] : List Int)) Ya3 .nil rfl rfl rfl) ?_
 rintro _ _ ⟨b1, rfl, rfl⟩
 refine Ops.v rfl (Yr rfl rfl) ?_
 refine Ops.nil ?_
 refine AW.seq ?_
 refine AW.cut (τ := List Int × Value) (fun (l28, v27) => ⟨[(3, C.val v27)], [Obj.arr v27 2 kI64 1 l28]⟩) (fun (l28, v27) => Zet l28 = some r) ?_ ?_
 ·
  refine zw ?_
  refine AW.lp h (fun (l14, x15) (v13 : Value) => ⟨[(0, C.ip [C.int p0.graph.room, C.im Y96 9 p0.graph.events, C.im Y96 9 p0.graph.parked, C.imap .i64 Y9j p0.depth, C.imap .i64 Y9k p0.before, C.imap .i64 Y9k p0.after, C.imap .i64 Y9j p0.refused]), (3, C.val v13), (11, C.im Y96 9 p0.graph.events), (12, C.int (p0.graph.events.length : Int)), (13, C.int x15)], [Obj.arr v13 2 kI64 1 l14]⟩) (gb [0]) ?_
  rintro ⟨l14, x15⟩ v13 y37 h
  refine zw ?_
  refine cnd h (fun hb16 h => ?_) fun hb16 h => ?_
  ·
   refine AW.ct hb16 rfl ?_
   refine zw ?_
   refine oi h fun e17 g18 h => ?_
   refine zw ?_
   refine Ops.h (ns := []) rfl rfl (Y1p (cs := [C.int 0, C.int 0, C.int 0, C.int 0, C.int 0, C.int 0, C.str ByteArray.empty, C.val s0, C.int 0]) Ya4 (Y42 rfl rfl) rfl) ?_
   rintro _ _ ⟨b19, rfl, rfl⟩
   refine Ops.hd (ns := [0]) rfl rfl (Y1u (gs := [C.int e17.id, C.int e17.room, C.int e17.author, C.int e17.kind, C.int e17.key, C.int e17.n, C.str e17.text, C.im kI64 1 e17.prev, C.int e17.time]) Yal.h rfl rfl rfl rfl rfl) ?_
   refine zw ?_
   refine AW.regionD (L := [3, 5, 6]) (Lt := []) (k := dec [0,3,6,10,12,16,19,21]) (ns := [0, 0]) (by kernel_rfl) (by kernel_rfl) (by kernel_rfl) (by kernel_rfl) rfl ?_
   refine zw ?_
   refine OpsD.v rfl rfl (Y8a (kc := Y9j) (z0 := 0) Ycx zv_2 (fun _ _ => rfl) rfl rfl rfl) ?_
   refine zw ?_
   refine cnd h (fun hb20 h => ?_) fun hb20 h => ?_
   ·
    refine AW.ct hb20 rfl ?_
    refine zw ?_
    refine Ops.h (ns := []) rfl rfl (Y39 (k := kI64) (ys := [e17.id]) Ya3 (.one rfl (One.val rfl) rfl rfl .nil) rfl rfl rfl) ?_
    rintro _ _ ⟨b21, rfl, rfl⟩
    refine ob' h fun u23 c22 h => ?_
    refine Ops.h (ns := [2, 0]) rfl rfl (Y2s Ya3 rfl rfl (of_decide_eq_true (Y3t c22)) (Y3w (by decide) c22) rfl) ?_
    rintro _ _ ⟨v24, rfl, rfl⟩
    exact go
   exact go
  exact go
 rintro ⟨l28, v27⟩ h
 replace h : Zet l28 = some r := h
 unfold Zet at h
 refine zw ?_
 refine AW.ret ?_
 rw [← Option.some.inj h]
 exact ⟨[C.val v27], _, Y21.refl _, (.cons (.tmp rfl) .nil), [0], _, _, rfl, ⟨v27, rfl, rfl⟩⟩
instance Zex' (p0 : Y94) : Sp Tryz.prog 137 [C.ip [C.int p0.graph.room, C.im Y96 9 p0.graph.events, C.im Y96 9 p0.graph.parked, C.imap .i64 Y9j p0.depth, C.imap .i64 Y9k p0.before, C.imap .i64 Y9k p0.after, C.imap .i64 Y9j p0.refused]] (Zew p0) (fun r => C.im kI64 1 r) := ⟨fun r h => Ok.freeze (Zex p0 r h) (by rintro c qs ⟨v29, rfl, rfl⟩; exact Frz.arr)⟩

def Zey (p0 : Y95) (p1 : Int) : Option Y94 := (getI p0.rooms (IntKind.i64.wrap (p1 - 1))).bind fun e1 => some e1
theorem Zez {b00 : Nat} {w01 : Value} (p0 : Y95) (p1 : Int) (r : Y94) (h : Zey p0 p1 = some r) : Ok Tryz.prog 138 [pt b00, C.int p1] [Obj.box b00 145 [C.im Y9b 3 p0.hub.rooms, C.im Y98 2 p0.hub.stream, C.val w01], Obj.arr w01 186 Y9m 1 p0.rooms] (fun c qs => c = C.ip [C.int r.graph.room, C.im Y96 9 r.graph.events, C.im Y96 9 r.graph.parked, C.imap .i64 Y9j r.depth, C.imap .i64 Y9k r.before, C.imap .i64 Y9k r.after, C.imap .i64 Y9j r.refused] ∧ qs = [Obj.box b00 145 [C.im Y9b 3 p0.hub.rooms, C.im Y98 2 p0.hub.stream, C.val w01], Obj.arr w01 186 Y9m 1 p0.rooms]) := by
 refine Ok.of_body (rs := [.tmp 4]) Tryz.func138 rfl rfl rfl rfl rfl fun X => ?_
 unfold Zey at h
 refine zw ?_
 refine ob' h fun e1 g2 h => ?_
 refine Ops.v rfl (Y2x (p := 1) Yd4.h rfl rfl rfl g2 rfl) ?_
 refine Ops.v rfl (Y30 (p := 1) Yct.h rfl rfl (Y29 g2).2.2 rfl rfl) ?_
 refine zw ?_
 refine AW.ret ?_
 rw [← Option.some.inj h]
 exact ⟨[C.ip [C.int e1.graph.room, C.im Y96 9 e1.graph.events, C.im Y96 9 e1.graph.parked, C.imap .i64 Y9j e1.depth, C.imap .i64 Y9k e1.before, C.imap .i64 Y9k e1.after, C.imap .i64 Y9j e1.refused]], _, Y21.refl _, (.cons (.tmp rfl) .nil), [0, 0], _, _, rfl, ⟨rfl, rfl⟩⟩

def Zf0 (x2 : Bool) : Option Bool := some x2
def Zf1 (p0 : Int) (q0 : Y94) (q1 : List ((Int × Int) × Bool)) (q2 : Y8y) : Option Bool := cond ((Option.getD (mget q0.refused p0) 0) == 0) (Zf0 (!(Option.getD (pget q1 (q2.room, p0)) false))) (Zf0 false)
set_option maxHeartbeats 1000000 in
theorem Zf2 {b00 : Nat} {b01 : Nat} {b02 : Nat} {b03 : Nat} (p0 : Int) (q0 : Y94) (q1 : List ((Int × Int) × Bool)) (q2 : Y8y) (r : Bool) (h : Zf1 p0 q0 q1 q2 = some r) : Ok Tryz.prog 141 [C.int p0, pt b00, pt b01, pt b03] [Obj.box b00 186 [C.ip [C.int q0.graph.room, C.im Y96 9 q0.graph.events, C.im Y96 9 q0.graph.parked, C.imap .i64 Y9j q0.depth, C.imap .i64 Y9k q0.before, C.imap .i64 Y9k q0.after, C.imap .i64 Y9j q0.refused]], Obj.box b01 189 [mt b02], Abs.Obj.pmap b02 Y9l q1, Obj.box b03 142 [C.int q2.room, C.int q2.id]] (fun c qs => c = C.bool r ∧ qs = [Obj.box b00 186 [C.ip [C.int q0.graph.room, C.im Y96 9 q0.graph.events, C.im Y96 9 q0.graph.parked, C.imap .i64 Y9j q0.depth, C.imap .i64 Y9k q0.before, C.imap .i64 Y9k q0.after, C.imap .i64 Y9j q0.refused]], Obj.box b01 189 [mt b02], Abs.Obj.pmap b02 Y9l q1, Obj.box b03 142 [C.int q2.room, C.int q2.id]]) := by
 refine Ok.of_body (rs := [.tmp 5]) Tryz.func141 rfl rfl rfl rfl rfl fun X => ?_
 unfold Zf1 at h
 refine AW.seq ?_
 refine AW.region ?_
 refine Ops.v rfl (Yr rfl rfl) ?_
 refine Ops.nil ?_
 refine AW.seq ?_
 refine AW.cut (τ := Bool) (fun x2 => ⟨[(5, C.bool x2)], [Obj.box b00 186 [C.ip [C.int q0.graph.room, C.im Y96 9 q0.graph.events, C.im Y96 9 q0.graph.parked, C.imap .i64 Y9j q0.depth, C.imap .i64 Y9k q0.before, C.imap .i64 Y9k q0.after, C.imap .i64 Y9j q0.refused]], Obj.box b01 189 [mt b02], Abs.Obj.pmap b02 Y9l q1, Obj.box b03 142 [C.int q2.room, C.int q2.id]]⟩) (fun x2 => Zf0 x2 = some r) ?_ ?_
 ·
  refine zw ?_
  refine Ops.v rfl (Y8a (kc := Y9j) (z0 := 0) Ycx zv_2 (fun _ _ => rfl) rfl rfl rfl) ?_
  refine zw ?_
  refine cnd h (fun hb1 h => ?_) fun hb1 h => ?_
  ·
   refine zw ?_
   refine Ops.gv rfl rfl rfl rfl hb1 (Y38 (ds := [C.int q2.room, C.int p0]) Ydc Yb0 (Y42 rfl rfl) (.one rfl (One.val rfl) rfl rfl (.one rfl (One.val rfl) rfl rfl .nil)) rfl) ?_
   refine Ops.gv rfl rfl rfl rfl hb1 (Y8m (p := 2) (j := (q2.room, p0)) (kc := Y9l) (z0 := false) Yda zv_4 (fun _ _ => rfl) rfl rfl rfl rfl) ?_
   refine zw ?_
   exact ⟨(!(Option.getD (pget q1 (q2.room, p0)) false)), h, Y21.both (ns := [0, 0, 0, 0]) rfl rfl⟩
  refine zw ?_
  exact ⟨false, h, Y21.both (ns := [0, 0, 0, 0]) rfl rfl⟩
 intro x2 h
 replace h : Zf0 x2 = some r := h
 unfold Zf0 at h
 refine AW.ret ?_
 rw [← Option.some.inj h]
 exact ⟨[C.bool x2], _, Y21.refl _, (.cons (.tmp rfl) .nil), [0, 0, 0, 0], _, _, rfl, ⟨rfl, rfl⟩⟩

def Zf3 : Option Int := some (-1)
def Zf4 (p0 : List Int) (p1_0 : Y94) (p1_1 : List ((Int × Int) × Bool)) (p1_2 : Y8y) (x7 : Int) : Option (Int ⊕ (Int ⊕ Unit)) := cond (decide (x7 < (p0.length : Int))) ((getI p0 x7).bind fun e9 => (Zf1 e9 p1_0 p1_1 p1_2).bind fun r11 => cond r11 (some (.inr (.inl x7))) (some (.inl (IntKind.i64.wrap (x7 + 1))))) (some (.inr (.inr ())))
def Zf5 (p0 : List Int) (p1_0 : Y94) (p1_1 : List ((Int × Int) × Bool)) (p1_2 : Y8y) : Option Int := (iter (Zf4 p0 p1_0 p1_1 p1_2) big 0).bind (fun z15 => match z15 with | .inl y14 => some y14 | .inr () => Zf3)
set_option maxHeartbeats 1000000 in
theorem Zf6 {b00 : Nat} {b01 : Nat} {b02 : Nat} {b03 : Nat} (p0 : List Int) (p1_0 : Y94) (p1_1 : List ((Int × Int) × Bool)) (p1_2 : Y8y) (r : Int) (h : Zf5 p0 p1_0 p1_1 p1_2 = some r) : Ok Tryz.prog 194 [C.im kI64 1 p0, C.clo 141 [pt b00, pt b01, pt b03]] [Obj.box b00 186 [C.ip [C.int p1_0.graph.room, C.im Y96 9 p1_0.graph.events, C.im Y96 9 p1_0.graph.parked, C.imap .i64 Y9j p1_0.depth, C.imap .i64 Y9k p1_0.before, C.imap .i64 Y9k p1_0.after, C.imap .i64 Y9j p1_0.refused]], Obj.box b01 189 [mt b02], Abs.Obj.pmap b02 Y9l p1_1, Obj.box b03 142 [C.int p1_2.room, C.int p1_2.id]] (fun c qs => c = C.int r ∧ qs = [Obj.box b00 186 [C.ip [C.int p1_0.graph.room, C.im Y96 9 p1_0.graph.events, C.im Y96 9 p1_0.graph.parked, C.imap .i64 Y9j p1_0.depth, C.imap .i64 Y9k p1_0.before, C.imap .i64 Y9k p1_0.after, C.imap .i64 Y9j p1_0.refused]], Obj.box b01 189 [mt b02], Abs.Obj.pmap b02 Y9l p1_1, Obj.box b03 142 [C.int p1_2.room, C.int p1_2.id]]) := by
 refine Ok.of_body (rs := [.tmp 4]) Tryz.func194 rfl rfl rfl rfl rfl fun X => ?_
 unfold Zf5 at h
 refine AW.seq ?_
 refine AW.region ?_
 refine Ops.v rfl (Yr rfl rfl) ?_
 refine Ops.nil ?_
 refine AW.seq ?_
 refine AW.cut (τ := Unit) (fun (_ : Unit) => ⟨[], [Obj.box b00 186 [C.ip [C.int p1_0.graph.room, C.im Y96 9 p1_0.graph.events, C.im Y96 9 p1_0.graph.parked, C.imap .i64 Y9j p1_0.depth, C.imap .i64 Y9k p1_0.before, C.imap .i64 Y9k p1_0.after, C.imap .i64 Y9j p1_0.refused]], Obj.box b01 189 [mt b02], Abs.Obj.pmap b02 Y9l p1_1, Obj.box b03 142 [C.int p1_2.room, C.int p1_2.id]]⟩) (fun (_ : Unit) => Zf3 = some r) ?_ ?_
 ·
  refine zw ?_
  refine AW.lp (v := ()) h (fun x7 (_ : Unit) => ⟨[(0, C.im kI64 1 p0), (1, C.clo 141 [pt b00, pt b01, pt b03]), (7, C.int (p0.length : Int)), (8, C.int x7)], [Obj.box b00 186 [C.ip [C.int p1_0.graph.room, C.im Y96 9 p1_0.graph.events, C.im Y96 9 p1_0.graph.parked, C.imap .i64 Y9j p1_0.depth, C.imap .i64 Y9k p1_0.before, C.imap .i64 Y9k p1_0.after, C.imap .i64 Y9j p1_0.refused]], Obj.box b01 189 [mt b02], Abs.Obj.pmap b02 Y9l p1_1, Obj.box b03 142 [C.int p1_2.room, C.int p1_2.id]]⟩) (gb [0, 0, 0, 0]) ?_
  rintro x7 _ y21 h
  refine zw ?_
  refine cnd h (fun hb8 h => ?_) fun hb8 h => ?_
  ·
   refine AW.ct hb8 rfl ?_
   refine zw ?_
   refine oi h fun e9 g10 h => ?_
   refine zw ?_
   refine ob' h fun r11 g12 h => ?_
   refine Ops.hd (ns := [0, 0, 0, 0]) rfl rfl (Y6s (cs := [_]) (ds := [_, _, _]) rfl (Zf2 e9 p1_0 p1_1 p1_2 _ g12) rfl rfl) ?_
   refine zw ?_
   refine cnd h (fun hb13 h => ?_) fun hb13 h => ?_
   ·
    refine AW.ct hb13 rfl ?_
    refine zw ?_
    refine AW.ret ?_
    refine lx h fun h => ?_
    rw [← Option.some.inj h]
    exact ⟨[C.int x7], _, Y21.refl _, (.cons (.tmp rfl) .nil), [0, 0, 0, 0], _, _, rfl, ⟨rfl, rfl⟩⟩
   refine AW.cf hb13 rfl ?_
   refine zw ?_
   exact lu h (gb [0, 0, 0, 0])
  refine AW.cf hb8 rfl ?_
  refine AW.exit ?_
  refine lx h fun h => ?_
  exact ⟨(), h, Y21.both (ns := [0, 0, 0, 0]) rfl rfl⟩
 rintro ⟨⟩ h
 replace h : Zf3 = some r := h
 unfold Zf3 at h
 refine zw ?_
 refine AW.ret ?_
 rw [← Option.some.inj h]
 exact ⟨[C.int (-1)], _, Y21.refl _, (.cons (.tmp rfl) .nil), [0, 0, 0, 0], _, _, rfl, ⟨rfl, rfl⟩⟩

def Zf7 (p0 : List Int) (p1_0 : Y94) (p1_1 : List ((Int × Int) × Bool)) (p1_2 : Y8y) : Option Bool := (Zf5 p0 p1_0 p1_1 p1_2).bind fun r1 => some (decide (r1 ≥ 0))
theorem Zf8 {b00 : Nat} {b01 : Nat} {b02 : Nat} {b03 : Nat} (p0 : List Int) (p1_0 : Y94) (p1_1 : List ((Int × Int) × Bool)) (p1_2 : Y8y) (r : Bool) (h : Zf7 p0 p1_0 p1_1 p1_2 = some r) : Ok Tryz.prog 140 [C.im kI64 1 p0, C.clo 141 [pt b00, pt b01, pt b03]] [Obj.box b00 186 [C.ip [C.int p1_0.graph.room, C.im Y96 9 p1_0.graph.events, C.im Y96 9 p1_0.graph.parked, C.imap .i64 Y9j p1_0.depth, C.imap .i64 Y9k p1_0.before, C.imap .i64 Y9k p1_0.after, C.imap .i64 Y9j p1_0.refused]], Obj.box b01 189 [mt b02], Abs.Obj.pmap b02 Y9l p1_1, Obj.box b03 142 [C.int p1_2.room, C.int p1_2.id]] (fun c qs => c = C.bool r ∧ qs = [Obj.box b00 186 [C.ip [C.int p1_0.graph.room, C.im Y96 9 p1_0.graph.events, C.im Y96 9 p1_0.graph.parked, C.imap .i64 Y9j p1_0.depth, C.imap .i64 Y9k p1_0.before, C.imap .i64 Y9k p1_0.after, C.imap .i64 Y9j p1_0.refused]], Obj.box b01 189 [mt b02], Abs.Obj.pmap b02 Y9l p1_1, Obj.box b03 142 [C.int p1_2.room, C.int p1_2.id]]) := by
 refine Ok.of_body (rs := [.tmp 4]) Tryz.func140 rfl rfl rfl rfl rfl fun X => ?_
 unfold Zf7 at h
 refine zw ?_
 refine ob' h fun r1 g2 h => ?_
 refine Ops.hd (ns := [0, 0, 0, 0]) rfl rfl (Y24 (Zf6 p0 p1_0 p1_1 p1_2 _ g2) rfl rfl) ?_
 refine zw ?_
 refine AW.ret ?_
 rw [← Option.some.inj h]
 exact ⟨[C.bool (decide (r1 ≥ 0))], _, Y21.refl _, (.cons (.tmp rfl) .nil), [0, 0, 0, 0], _, _, rfl, ⟨rfl, rfl⟩⟩

def Zf9 (p0 : Y90) (l100 : List Y94) (x101 : Int) : Option (Y95 × Bool) := cond (x101 == (p0.stream.length : Int)) (some ((Y95.mk p0 l100), (x101 == (p0.stream.length : Int)))) (some ((Y95.mk (Y90.mk [] []) []), (x101 == (p0.stream.length : Int))))
def Zfa (m178 : List ((Int × Int) × Bool)) (x179 : Int) (e181 : Y8y) (x252 : Bool) : Option (((List ((Int × Int) × Bool)) × Int) ⊕ ((Y95 × Bool) ⊕ Unit)) := cond x252 (some (.inr (.inl ((Y95.mk (Y90.mk [] []) []), false)))) (some (.inl ((pset m178 (e181.room, e181.id) true), (IntKind.i64.wrap (x179 + 1)))))
def Zfb (m178 : List ((Int × Int) × Bool)) (x179 : Int) (e181 : Y8y) (r189 : Y94) (x196 : Int) (x197 : Int) (x198 : Int) (x199 : Int) (x200 : Int) (x201 : Int) (x202 : ByteArray) (l203 : List Int) (x204 : Int) (x205 : Bool) : Option (((List ((Int × Int) × Bool)) × Int) ⊕ ((Y95 × Bool) ⊕ Unit)) := cond x205 (cond ((Option.getD (mget r189.refused e181.id) 0) != 0) (Zfa m178 x179 e181 true) ((Zf7 l203 r189 m178 e181).bind fun r244 => Zfa m178 x179 e181 r244)) (Zfa m178 x179 e181 true)
def Zfc (p0 : Y90) (l100 : List Y94) (m178 : List ((Int × Int) × Bool)) (x179 : Int) (e181 : Y8y) (x187 : Bool) : Option (((List ((Int × Int) × Bool)) × Int) ⊕ ((Y95 × Bool) ⊕ Unit)) := cond x187 (some (.inr (.inl ((Y95.mk (Y90.mk [] []) []), false)))) ((Zey (Y95.mk p0 l100) e181.room).bind fun r189 => (Zbs r189.graph e181.id).bind fun r192 => Zfb m178 x179 e181 r189 r192.1.id r192.1.room r192.1.author r192.1.kind r192.1.key r192.1.n r192.1.text r192.1.prev r192.1.time r192.2)
def Zfd (p0 : Y90) (l100 : List Y94) (m178 : List ((Int × Int) × Bool)) (x179 : Int) : Option (((List ((Int × Int) × Bool)) × Int) ⊕ ((Y95 × Bool) ⊕ Unit)) := cond (decide (x179 < (p0.stream.length : Int))) ((getI p0.stream x179).bind fun e181 => (Z7p e181.room).bind fun r184 => cond r184 (Zfc p0 l100 m178 x179 e181 (Option.getD (pget m178 (e181.room, e181.id)) false)) (Zfc p0 l100 m178 x179 e181 true)) (some (.inr (.inr ())))
def Zfe (p0 : Y90) (l100 : List Y94) (x101 : Int) : Option (Y95 × Bool) := (iter (fun z255 => Zfd p0 l100 z255.1 z255.2) big (([] : List ((Int × Int) × Bool)), 0)).bind (fun z257 => match z257 with | .inl y256 => some y256 | .inr () => Zf9 p0 l100 x101)
def Zff (l57 : List Y94) (x58 : Int) (x59 : Int) (e61 : Y8z) (x67 : Bool) : Option ((List Y94 × Int × Int) ⊕ ((Y95 × Bool) ⊕ (List Y94 × Int))) := cond x67 (some (.inr (.inl ((Y95.mk (Y90.mk [] []) []), false)))) ((Zer e61).bind fun r83 => (chk (decide ((l57.length + [r83].length) * 8 ≤ 140737488355328))).bind fun u92 => (getI (l57 ++ [r83]) x59).bind fun e95 => (Zew e95).bind fun r97 => some (.inl ((l57 ++ [r83]), (IntKind.i64.wrap (x58 + (r97.length : Int))), (IntKind.i64.wrap (x59 + 1)))))
def Zfg (p0 : Y90) (l57 : List Y94) (x58 : Int) (x59 : Int) : Option ((List Y94 × Int × Int) ⊕ ((Y95 × Bool) ⊕ (List Y94 × Int))) := cond (decide (x59 < (p0.rooms.length : Int))) ((getI p0.rooms x59).bind fun e61 => (Za9 e61).bind fun r64 => cond r64 (Zff l57 x58 x59 e61 (e61.room != (IntKind.i64.wrap (x59 + 1)))) (Zff l57 x58 x59 e61 true)) (some (.inr (.inr (l57, x58))))
def Zfh (p0 : Y90) (x3 : Bool) : Option (Y95 × Bool) := cond x3 (some ((Y95.mk (Y90.mk [] []) []), false)) ((iter (fun z258 => Zfg p0 z258.1 z258.2.1 z258.2.2) big ([], 0, 0)).bind (fun z262 => match z262 with | .inl y259 => some y259 | .inr (y260, y261) => Zfe p0 y260 y261))
def Zfi (p0 : Y90) : Option (Y95 × Bool) := cond ((p0.rooms.length : Int) != 3) (Zfh p0 true) (Zfh p0 (decide ((p0.stream.length : Int) > 120)))
set_option maxHeartbeats 1000000 in
theorem Zfj (p0 : Y90) (r : Y95 × Bool) (h : Zfi p0 = some r) : Ok Tryz.prog 73 [C.agg [C.im Y9b 3 p0.rooms, C.im Y98 2 p0.stream]] [] (fun c qs => (r.2 = true ∧ c = C.tup [C.ip [C.im Y9b 3 r.1.hub.rooms, C.im Y98 2 r.1.hub.stream, C.im Y9m 1 r.1.rooms], C.bool r.2] ∧ qs = []) ∨ (r.2 = false ∧ c = C.tup [C.any, C.bool r.2] ∧ qs = [])) := by
 refine Ok.of_body (rs := [.tmp 2, .tmp 3]) Tryz.func73 rfl rfl rfl rfl rfl fun X => ?_
 unfold Zfi at h
 refine zw ?_
 refine ox fun b1 => ?_
 refine Ops.v rfl (Yr rfl rfl) ?_
 refine Ops.v rfl (Yr rfl rfl) ?_
 refine Ops.nil ?_
 refine AW.seq ?_
 refine AW.seq ?_
 refine AW.cut (τ := Bool) (fun x3 => ⟨[(1, pt b1), (23, C.bool x3)], [Obj.box b1 32 [C.im Y9b 3 p0.rooms, C.im Y98 2 p0.stream]]⟩) (fun x3 => Zfh p0 x3 = some r) go fun x3 h => ?_
 replace h : Zfh p0 x3 = some r := h
 unfold Zfh at h
 refine cnd h (fun hb4 h => ?_) fun hb4 h => ?_
 ·
  refine AW.ct hb4 rfl ?_
  refine zw ?_
  refine AW.ret ?_
  rw [← Option.some.inj h]
  exact ⟨[C.any, C.bool false], _, Y21.imp (t := 2) rfl (Imp.any _), (.cons (.tmp rfl) (.cons (.tmp rfl) .nil)), [], _, _, rfl, .inr ⟨rfl, rfl, rfl⟩⟩
 refine AW.cf hb4 rfl ?_
 refine zw ?_
 refine Ops.v rfl (Y38 (ds := [C.im Y9b 3 p0.rooms, C.im Y98 2 p0.stream, C.val s0]) Yd5 Yd6 (Y42 rfl rfl) (.agg rfl rfl rfl .nil) rfl) ?_
 refine ox fun b5 => ?_
 refine Ops.v rfl (Yr rfl rfl) ?_
 refine Ops.v rfl (Yr rfl rfl) ?_
 refine Ops.nil ?_
 refine AW.seq ?_
 refine AW.cut (τ := List Y94 × Int × Value) (fun (l100, x101, v99) => ⟨[(1, pt b1), (4, pt b5), (5, C.int x101)], [Obj.box b1 32 [C.im Y9b 3 p0.rooms, C.im Y98 2 p0.stream], Obj.box b5 145 [C.im Y9b 3 p0.rooms, C.im Y98 2 p0.stream, C.val v99], Obj.arr v99 186 Y9m 1 l100]⟩) (fun (l100, x101, v99) => Zfe p0 l100 x101 = some r) ?_ ?_
 ·
  refine zw ?_
  refine AW.lp h (fun (l57, x58, x59) (v56 : Value) => ⟨[(1, pt b1), (4, pt b5), (5, C.int x58), (28, C.im Y9b 3 p0.rooms), (29, C.int (p0.rooms.length : Int)), (30, C.int x59)], [Obj.box b1 32 [C.im Y9b 3 p0.rooms, C.im Y98 2 p0.stream], Obj.box b5 145 [C.im Y9b 3 p0.rooms, C.im Y98 2 p0.stream, C.val v56], Obj.arr v56 186 Y9m 1 l57]⟩) ((Y21.nil 186 Y9m 1).trans (Y21.both (ns := [2, 1, 0]) rfl rfl)) ?_
  rintro ⟨l57, x58, x59⟩ v56 y275 h
  refine zw ?_
  refine cnd h (fun hb60 h => ?_) fun hb60 h => ?_
  ·
   refine AW.ct hb60 rfl ?_
   refine zw ?_
   refine oi h fun e61 g62 h => ?_
   refine zw ?_
   refine Ops.h (ns := []) rfl rfl (Y1p (cs := [C.int 0, C.val s0, C.val s0]) Yaq (Y42 rfl rfl) rfl) ?_
   rintro _ _ ⟨b63, rfl, rfl⟩
   refine zw ?_
   refine Ops.hd (ns := [0]) rfl rfl (Y1u (gs := [C.int e61.room, C.im Y96 9 e61.events, C.im Y96 9 e61.parked]) Yaw.h rfl rfl rfl rfl rfl) ?_
   refine Ops.nil ?_
   refine AW.seq ?_
   refine AW.seq ?_
   refine AW.cut (τ := Bool) (fun x67 => ⟨[(1, pt b1), (4, pt b5), (5, C.int x58), (6, C.int x59), (7, pt b63), (28, C.im Y9b 3 p0.rooms), (29, C.int (p0.rooms.length : Int)), (30, C.int x59), (44, C.bool x67)], [Obj.box b1 32 [C.im Y9b 3 p0.rooms, C.im Y98 2 p0.stream], Obj.box b5 145 [C.im Y9b 3 p0.rooms, C.im Y98 2 p0.stream, C.val v56], Obj.arr v56 186 Y9m 1 l57, Obj.box b63 139 [C.int e61.room, C.im Y96 9 e61.events, C.im Y96 9 e61.parked]]⟩) (fun x67 => Zff l57 x58 x59 e61 x67 = some y275) ?_ ?_
   ·
    refine zw ?_
    refine oc h fun r64 g65 h => ?_
    refine zw ?_
    refine cnd h (fun hb66 h => ?_) fun hb66 h => ?_
    ·
     refine zw ?_
     exact ⟨(e61.room != (IntKind.i64.wrap (x59 + 1))), h, Y21.both (ns := [1, 1, 1, 0]) rfl rfl⟩
    refine zw ?_
    exact ⟨true, h, Y21.both (ns := [1, 1, 1, 0]) rfl rfl⟩
   intro x67 h
   replace h : Zff l57 x58 x59 e61 x67 = some y275 := h
   unfold Zff at h
   refine cnd h (fun hb68 h => ?_) fun hb68 h => ?_
   ·
    refine AW.ct hb68 rfl ?_
    refine zw ?_
    refine AW.ret ?_
    refine lx h fun h => ?_
    rw [← Option.some.inj h]
    exact ⟨[C.any, C.bool false], _, Y21.imp (t := 2) rfl (Imp.any _), (.cons (.tmp rfl) (.cons (.tmp rfl) .nil)), [], _, _, rfl, .inr ⟨rfl, rfl, rfl⟩⟩
   refine AW.cf hb68 rfl ?_
   refine zw ?_
   refine AW.regionD (L := [4, 5]) (Lt := [11]) (k := .light 0 false (.light 1 false (.light 2 false (.light 3 false (.light 4 true (.light 5 true (.one 6 (.one 7 (.one 8 (.light 9 false (.light 10 false (.late 11 (.done))))))))))))) (ns := [0, 0, 1]) (by kernel_rfl) (by kernel_rfl) (by kernel_rfl) (by kernel_rfl) rfl ?_
   refine zw ?_
   refine ob' h fun r83 g84 h => ?_
   refine Y3n.h (ns := []) rfl rfl rfl (Y23 (Zes _ _ g84) rfl rfl) ?_
   rintro _ _ ⟨_, ⟨b85, b86, b87, b88, b89, rfl, rfl⟩, rfl⟩
   refine OpsD.one ?_
   refine Y3n.h (ns := [0, 0, 0, 0, 0]) rfl rfl rfl (HOp.frz (t := 51) rfl (Frz.box (FrzL.cons (os := []) (Frz.same _) (FrzL.cons (os := []) (Frz.same _) (FrzL.cons (os := []) (Frz.same _) (FrzL.cons (os := [_]) Frz.map (FrzL.cons (os := [_]) Frz.map (FrzL.cons (os := [_]) Frz.map (FrzL.cons (os := [_]) Frz.map FrzL.nil)))))))) (Y39 (k := Y9m) (ys := [r83]) Yd7 (.one rfl One.ip rfl rfl .nil) rfl rfl rfl)) ?_
   rintro _ _ ⟨b90, rfl, rfl⟩
   refine zw ?_
   refine ob' h fun u92 c91 h => ?_
   refine Y3n.h (ns := [1, 0]) rfl rfl rfl (Y2s Yd7 rfl rfl (of_decide_eq_true (Y3t c91)) (Y3w (by decide) c91) rfl) ?_
   rintro _ _ ⟨v93, rfl, rfl⟩
   refine OpsD.v rfl rfl (Y14 rfl rfl) ?_
   refine OpsD.v rfl rfl (Y1b Yd2.h rfl rfl) ?_
   refine OpsD.learn (Sim.arr_one (p := 3) rfl) fun n94 => ?_
   refine OpsD.late (ns := [1]) rfl rfl rfl (Y1t (gs := [C.im Y9b 3 p0.rooms, C.im Y98 2 p0.stream, C.val v93]) Yd3.h rfl rfl (One.val n94) rfl rfl) ?_
   rintro _ _ ⟨rfl, rfl⟩
   refine zw ?_
   refine ob' h fun e95 g96 h => ?_
   refine Ops.v rfl (Y2x (p := 3) Yd4.h rfl rfl rfl g96 rfl) ?_
   refine Ops.v rfl (Y30 (p := 3) Yct.h rfl rfl (Y29 g96).2.2 rfl rfl) ?_
   exact go
  exact go
 rintro ⟨l100, x101, v99⟩ h
 replace h : Zfe p0 l100 x101 = some r := h
 unfold Zfe at h
 refine zw ?_
 refine Ops.h (ns := []) rfl rfl (Y8k (kc := Y9l) rfl) ?_
 rintro _ _ ⟨b102, rfl, rfl⟩
 refine Ops.h (ns := []) rfl rfl (Y1p (cs := [C.val (.map none)]) Yd8 (Y42 rfl rfl) rfl) ?_
 rintro _ _ ⟨b103, rfl, rfl⟩
 refine Ops.hd (ns := [0]) rfl rfl (Y1t (gs := [mt b102]) Yd9.h rfl rfl (One.val rfl) rfl rfl) ?_
 refine Ops.nil ?_
 refine AW.seq ?_
 refine AW.cut (τ := Unit) (fun (_ : Unit) => ⟨[(1, pt b1), (4, pt b5), (5, C.int x101)], [Obj.box b1 32 [C.im Y9b 3 p0.rooms, C.im Y98 2 p0.stream], Obj.box b5 145 [C.im Y9b 3 p0.rooms, C.im Y98 2 p0.stream, C.val v99], Obj.arr v99 186 Y9m 1 l100]⟩) (fun (_ : Unit) => Zf9 p0 l100 x101 = some r) ?_ ?_
 ·
  refine zw ?_
  refine AW.lp (v := ()) h (fun (m178, x179) (_ : Unit) => ⟨[(1, pt b1), (4, pt b5), (5, C.int x101), (8, pt b103), (70, C.im Y98 2 p0.stream), (71, C.int (p0.stream.length : Int)), (72, C.int x179)], [Obj.box b1 32 [C.im Y9b 3 p0.rooms, C.im Y98 2 p0.stream], Obj.box b5 145 [C.im Y9b 3 p0.rooms, C.im Y98 2 p0.stream, C.val v99], Obj.arr v99 186 Y9m 1 l100, Obj.box b103 189 [mt b102], Abs.Obj.pmap b102 Y9l m178]⟩) (gb [2, 2, 2, 0, 0]) ?_
  rintro ⟨m178, x179⟩ _ y268 h
  refine zw ?_
  refine cnd h (fun hb180 h => ?_) fun hb180 h => ?_
  ·
   refine AW.ct hb180 rfl ?_
   refine zw ?_
   refine oi h fun e181 g182 h => ?_
   refine zw ?_
   refine Ops.h (ns := []) rfl rfl (Y1p (cs := [C.int 0, C.int 0]) Yb0 (Y42 rfl rfl) rfl) ?_
   rintro _ _ ⟨b183, rfl, rfl⟩
   refine Ops.hd (ns := [0]) rfl rfl (Y1u (gs := [C.int e181.room, C.int e181.id]) Yb5.h rfl rfl rfl rfl rfl) ?_
   refine Ops.nil ?_
   refine AW.seq ?_
   refine AW.seq ?_
   refine AW.cut (τ := Bool) (fun x187 => ⟨[(1, pt b1), (4, pt b5), (5, C.int x101), (8, pt b103), (10, pt b183), (70, C.im Y98 2 p0.stream), (71, C.int (p0.stream.length : Int)), (72, C.int x179), (84, C.bool x187)], [Obj.box b1 32 [C.im Y9b 3 p0.rooms, C.im Y98 2 p0.stream], Obj.box b5 145 [C.im Y9b 3 p0.rooms, C.im Y98 2 p0.stream, C.val v99], Obj.arr v99 186 Y9m 1 l100, Obj.box b103 189 [mt b102], Abs.Obj.pmap b102 Y9l m178, Obj.box b183 142 [C.int e181.room, C.int e181.id]]⟩) (fun x187 => Zfc p0 l100 m178 x179 e181 x187 = some y268) ?_ ?_
   ·
    refine zw ?_
    refine oc h fun r184 g185 h => ?_
    refine zw ?_
    refine cnd h (fun hb186 h => ?_) fun hb186 h => ?_
    ·
     refine Ops.gv rfl rfl rfl rfl (Y3u hb186) (Y1k (p := 4) Yd9.h rfl rfl rfl rfl) ?_
     refine zw ?_
     refine Ops.gv rfl rfl rfl rfl (Y3u hb186) (Y8m (p := 5) (j := (e181.room, e181.id)) (kc := Y9l) (z0 := false) Yda zv_4 (fun _ _ => rfl) rfl rfl rfl rfl) ?_
     refine zw ?_
     exact ⟨(Option.getD (pget m178 (e181.room, e181.id)) false), h, Y21.both (ns := [1, 1, 1, 1, 1, 0]) rfl rfl⟩
    refine zw ?_
    exact ⟨true, h, Y21.both (ns := [1, 1, 1, 1, 1, 0]) rfl rfl⟩
   intro x187 h
   replace h : Zfc p0 l100 m178 x179 e181 x187 = some y268 := h
   unfold Zfc at h
   refine cnd h (fun hb188 h => ?_) fun hb188 h => ?_
   ·
    refine AW.ct hb188 rfl ?_
    refine zw ?_
    refine AW.ret ?_
    refine lx h fun h => ?_
    rw [← Option.some.inj h]
    exact ⟨[C.any, C.bool false], _, Y21.imp (t := 2) rfl (Imp.any _), (.cons (.tmp rfl) (.cons (.tmp rfl) .nil)), [], _, _, rfl, .inr ⟨rfl, rfl, rfl⟩⟩
   refine AW.cf hb188 rfl ?_
   refine AW.skip ?_
   refine AW.seq ?_
   refine AW.region ?_
   refine Ops.v rfl (Yq rfl rfl) ?_
   refine Ops.v rfl (Y1b Yb2.h rfl rfl) ?_
   refine Ops.v rfl (Y1k (p := 5) ld_2.h rfl rfl rfl rfl) ?_
   refine ob' h fun r189 g190 h => ?_
   refine Ops.hd (ns := [1, 1]) rfl rfl (Y24 (Zez (Y95.mk p0 l100) e181.room _ g190) rfl rfl) ?_
   refine Ops.h (ns := []) rfl rfl (Y1p (cs := [C.val (.pointer none)]) Ydb (Y42 rfl rfl) rfl) ?_
   rintro _ _ ⟨b191, rfl, rfl⟩
   refine Ops.hd (ns := [0]) rfl rfl (Y1t (gs := [C.ip [C.int r189.graph.room, C.im Y96 9 r189.graph.events, C.im Y96 9 r189.graph.parked, C.imap .i64 Y9j r189.depth, C.imap .i64 Y9k r189.before, C.imap .i64 Y9k r189.after, C.imap .i64 Y9j r189.refused]]) Yct.h rfl rfl One.ip rfl rfl) ?_
   refine Ops.nil ?_
   refine AW.seq ?_
   refine AW.cut (τ := Int × Int × Int × Int × Int × Int × ByteArray × List Int × Int × Bool × Nat) (fun (x196, x197, x198, x199, x200, x201, x202, l203, x204, x205, b195) => ⟨[(1, pt b1), (4, pt b5), (5, C.int x101), (8, pt b103), (10, pt b183), (11, pt b191), (12, pt b195), (13, C.bool x205), (70, C.im Y98 2 p0.stream), (71, C.int (p0.stream.length : Int)), (72, C.int x179)], [Obj.box b1 32 [C.im Y9b 3 p0.rooms, C.im Y98 2 p0.stream], Obj.box b5 145 [C.im Y9b 3 p0.rooms, C.im Y98 2 p0.stream, C.val v99], Obj.arr v99 186 Y9m 1 l100, Obj.box b103 189 [mt b102], Abs.Obj.pmap b102 Y9l m178, Obj.box b183 142 [C.int e181.room, C.int e181.id], Obj.box b191 186 [C.ip [C.int r189.graph.room, C.im Y96 9 r189.graph.events, C.im Y96 9 r189.graph.parked, C.imap .i64 Y9j r189.depth, C.imap .i64 Y9k r189.before, C.imap .i64 Y9k r189.after, C.imap .i64 Y9j r189.refused]], Obj.box b195 136 [C.int x196, C.int x197, C.int x198, C.int x199, C.int x200, C.int x201, C.str x202, C.im kI64 1 l203, C.int x204]]⟩) (fun (x196, x197, x198, x199, x200, x201, x202, l203, x204, x205, b195) => Zfb m178 x179 e181 r189 x196 x197 x198 x199 x200 x201 x202 l203 x204 x205 = some y268) ?_ ?_
   ·
    refine AW.regionD (L := [0, 3, 5]) (Lt := [11]) (k := .light 0 true (.light 1 false (.light 2 false (.light 3 true (.light 4 false (.light 5 true (.two 6 10 (.light 7 false (.light 8 false (.light 9 false (.one 10 (.late 11 (.light 12 false .done)))))) (.one 6 (.light 7 false (.light 8 false (.light 9 false (.late 11 (.light 12 false .done))))))))))))) (ns := [0, 0, 0, 0, 0, 0, 0]) (by kernel_rfl) (by kernel_rfl) (by kernel_rfl) (by kernel_rfl) rfl ?_
    refine OpsD.v rfl rfl (Y1k (p := 0) Yct.h rfl rfl rfl rfl) ?_
    refine OpsD.v rfl rfl (Y15 rfl rfl) ?_
    refine OpsD.v rfl rfl (Y1c Ycu.h rfl rfl rfl) ?_
    refine OpsD.v rfl rfl (Y1i Yaw.h rfl rfl rfl rfl) ?_
    refine OpsD.v rfl rfl (Y1b Yb4.h rfl rfl) ?_
    refine OpsD.v rfl rfl (Y1k (p := 6) ld_2.h rfl rfl rfl rfl) ?_
    refine ob' h fun r192 g193 h => ?_
    refine OpsD.two ?_ ?_
    ·
     refine Y3n.h (ns := []) rfl rfl rfl (Y24 ((Zbt _ _).h _ g193) rfl rfl) ?_
     rintro _ _ ⟨rfl, rfl⟩
     refine OpsD.v rfl rfl (Yq rfl rfl) ?_
     refine OpsD.v rfl rfl (Y13 rfl rfl rfl) ?_
     refine OpsD.v rfl rfl (Y13 rfl rfl rfl) ?_
     refine OpsD.one ?_
     refine Y3n.h (ns := []) rfl rfl rfl (Y1p (cs := [C.int 0, C.int 0, C.int 0, C.int 0, C.int 0, C.int 0, C.str ByteArray.empty, C.val s0, C.int 0]) Ya4 (Y42 rfl rfl) rfl) ?_
     rintro _ _ ⟨b194, rfl, rfl⟩
     refine OpsD.late (ns := [7]) rfl rfl rfl (Y1u (gs := [C.int r192.1.id, C.int r192.1.room, C.int r192.1.author, C.int r192.1.kind, C.int r192.1.key, C.int r192.1.n, C.str r192.1.text, C.im kI64 1 r192.1.prev, C.int r192.1.time]) Yal.h rfl rfl rfl rfl rfl) ?_
     rintro _ _ ⟨rfl, rfl⟩
     refine zw ?_
     exact ⟨(r192.1.id, r192.1.room, r192.1.author, r192.1.kind, r192.1.key, r192.1.n, r192.1.text, r192.1.prev, r192.1.time, r192.2, b194), h, Y21.both (ns := [4, 2, 2, 2, 2, 2, 1, 0]) rfl rfl⟩
    refine Y3n.h (ns := []) rfl rfl rfl (Y1p (cs := [C.int 0, C.int 0, C.int 0, C.int 0, C.int 0, C.int 0, C.str ByteArray.empty, C.val s0, C.int 0]) Ya4 (Y42 rfl rfl) rfl) ?_
    rintro _ _ ⟨b194, rfl, rfl⟩
    refine OpsD.one ?_
    refine Y3n.h (ns := []) rfl rfl rfl (Y24 ((Zbt _ _).h _ g193) rfl rfl) ?_
    rintro _ _ ⟨rfl, rfl⟩
    refine zw ?_
    refine OpsD.late (ns := [7]) rfl rfl rfl (Y1u (gs := [C.int r192.1.id, C.int r192.1.room, C.int r192.1.author, C.int r192.1.kind, C.int r192.1.key, C.int r192.1.n, C.str r192.1.text, C.im kI64 1 r192.1.prev, C.int r192.1.time]) Yal.h rfl rfl rfl rfl rfl) ?_
    rintro _ _ ⟨rfl, rfl⟩
    refine zw ?_
    exact ⟨(r192.1.id, r192.1.room, r192.1.author, r192.1.kind, r192.1.key, r192.1.n, r192.1.text, r192.1.prev, r192.1.time, r192.2, b194), h, Y21.both (ns := [4, 2, 2, 2, 2, 2, 1, 0]) rfl rfl⟩
   rintro ⟨x196, x197, x198, x199, x200, x201, x202, l203, x204, x205, b195⟩ h
   replace h : Zfb m178 x179 e181 r189 x196 x197 x198 x199 x200 x201 x202 l203 x204 x205 = some y268 := h
   unfold Zfb at h
   refine AW.seq ?_
   refine AW.seq ?_
   refine AW.cut (τ := Bool) (fun x252 => ⟨[(1, pt b1), (4, pt b5), (5, C.int x101), (8, pt b103), (10, pt b183), (70, C.im Y98 2 p0.stream), (71, C.int (p0.stream.length : Int)), (72, C.int x179), (116, C.bool x252)], [Obj.box b1 32 [C.im Y9b 3 p0.rooms, C.im Y98 2 p0.stream], Obj.box b5 145 [C.im Y9b 3 p0.rooms, C.im Y98 2 p0.stream, C.val v99], Obj.arr v99 186 Y9m 1 l100, Obj.box b103 189 [mt b102], Abs.Obj.pmap b102 Y9l m178, Obj.box b183 142 [C.int e181.room, C.int e181.id]]⟩) (fun x252 => Zfa m178 x179 e181 x252 = some y268) ?_ ?_
   ·
    refine AW.regionD (L := [3, 6, 8, 9, 14]) (Lt := []) (k := .light 0 false (.light 1 false (.light 2 false (.light 7 false (.two 3 8 (.light 4 false (.light 5 false (.two 6 8 (.one 8 (.one 9 (.light 10 false (.light 11 false (.light 12 false (.light 13 false (.light 15 false (.one 14 (.one 16 (.light 17 false .done)))))))))) (.one 6 (.one 9 (.light 10 false (.light 11 false (.light 12 false (.light 13 false (.light 15 false (.one 14 (.one 16 (.light 17 false .done))))))))))))) (.one 3 (.light 4 false (.light 5 false (.one 6 (.one 9 (.light 10 false (.light 11 false (.light 12 false (.light 13 false (.light 15 false (.one 14 (.one 16 (.light 17 false .done)))))))))))))))))) (ns := [0, 0, 0, 4]) (by kernel_rfl) (by kernel_rfl) (by kernel_rfl) (by kernel_rfl) rfl ?_
    refine zw ?_
    refine cnd h (fun hb242 h => ?_) fun hb242 h => ?_
    ·
     refine zw ?_
     refine OpsD.two ?_ ?_
     ·
      refine Y3n.gv rfl rfl rfl rfl rfl (Y3u hb242) (Y1k (p := 7) Yct.h rfl rfl rfl rfl) ?_
      refine zw ?_
      refine OpsD.two ?_ ?_
      ·
       refine Y3n.gv rfl rfl rfl rfl rfl (Y3u hb242) (Y1h Ycw.h rfl rfl) ?_
       refine OpsD.one ?_
       refine Y3n.gv rfl rfl rfl rfl rfl (Y3u hb242) (Y1k (p := 6) ld_2.h rfl rfl rfl rfl) ?_
       refine OpsD.one ?_
       refine Y3n.gv rfl rfl rfl rfl rfl (Y3u hb242) (Y8a (kc := Y9j) (z0 := 0) Ycx zv_2 (fun _ _ => rfl) rfl rfl rfl) ?_
       refine zw ?_
       refine cnd h (fun hb243 h => ?_) fun hb243 h => ?_
       ·
        refine OpsD.gs rfl rfl rfl rfl (.b rfl hb243) rfl rfl ?_
        refine OpsD.gs rfl rfl rfl rfl (.b rfl hb243) rfl rfl ?_
        refine OpsD.one ?_
        refine Y3n.gs rfl rfl rfl rfl (.b rfl hb243) rfl rfl ?_
        refine OpsD.one ?_
        refine Y3n.gs rfl rfl rfl rfl (.b rfl hb243) rfl rfl ?_
        refine zw ?_
        exact ⟨true, h, Y21.both (ns := [0, 0, 0, 1, 1, 1]) rfl rfl⟩
       refine zw ?_
       refine OpsD.gv rfl rfl rfl rfl rfl hb243 (Y6q rfl rfl) ?_
       refine OpsD.one ?_
       refine Y3n.gv rfl rfl rfl rfl rfl hb243 (Y1k (p := 3) Y9q.h rfl rfl rfl rfl) ?_
       refine zw ?_
       refine ob' h fun r244 g245 h => ?_
       refine Y3n.gh (ns := [3, 0, 0, 0]) rfl rfl rfl rfl rfl hb243 rfl (Y24 (Zf8 l203 r189 m178 e181 _ g245) rfl rfl) ?_
       rintro _ _ ⟨rfl, rfl⟩
       refine zw ?_
       exact ⟨r244, h, Y21.both (ns := [0, 0, 0, 2, 2, 2]) rfl rfl⟩
      refine Y3n.gv rfl rfl rfl rfl rfl (Y3u hb242) (Y1k (p := 6) ld_2.h rfl rfl rfl rfl) ?_
      refine OpsD.one ?_
      refine Y3n.gv rfl rfl rfl rfl rfl (Y3u hb242) (Y1h Ycw.h rfl rfl) ?_
      refine OpsD.one ?_
      refine Y3n.gv rfl rfl rfl rfl rfl (Y3u hb242) (Y8a (kc := Y9j) (z0 := 0) Ycx zv_2 (fun _ _ => rfl) rfl rfl rfl) ?_
      refine zw ?_
      refine cnd h (fun hb246 h => ?_) fun hb246 h => ?_
      ·
       refine OpsD.gs rfl rfl rfl rfl (.b rfl hb246) rfl rfl ?_
       refine OpsD.gs rfl rfl rfl rfl (.b rfl hb246) rfl rfl ?_
       refine OpsD.one ?_
       refine Y3n.gs rfl rfl rfl rfl (.b rfl hb246) rfl rfl ?_
       refine OpsD.one ?_
       refine Y3n.gs rfl rfl rfl rfl (.b rfl hb246) rfl rfl ?_
       refine zw ?_
       exact ⟨true, h, Y21.both (ns := [0, 0, 0, 1, 1, 1]) rfl rfl⟩
      refine zw ?_
      refine OpsD.gv rfl rfl rfl rfl rfl hb246 (Y6q rfl rfl) ?_
      refine OpsD.one ?_
      refine Y3n.gv rfl rfl rfl rfl rfl hb246 (Y1k (p := 3) Y9q.h rfl rfl rfl rfl) ?_
      refine zw ?_
      refine ob' h fun r247 g248 h => ?_
      refine Y3n.gh (ns := [3, 0, 0, 0]) rfl rfl rfl rfl rfl hb246 rfl (Y24 (Zf8 l203 r189 m178 e181 _ g248) rfl rfl) ?_
      rintro _ _ ⟨rfl, rfl⟩
      refine zw ?_
      exact ⟨r247, h, Y21.both (ns := [0, 0, 0, 2, 2, 2]) rfl rfl⟩
     refine Y3n.gv rfl rfl rfl rfl rfl (Y3u hb242) (Y1k (p := 6) ld_2.h rfl rfl rfl rfl) ?_
     refine OpsD.one ?_
     refine Y3n.gv rfl rfl rfl rfl rfl (Y3u hb242) (Y1k (p := 7) Yct.h rfl rfl rfl rfl) ?_
     refine OpsD.gv rfl rfl rfl rfl rfl (Y3u hb242) (Y15 rfl rfl) ?_
     refine OpsD.gv rfl rfl rfl rfl rfl (Y3u hb242) (Y1c Ycz.h rfl rfl rfl) ?_
     refine OpsD.one ?_
     refine Y3n.gv rfl rfl rfl rfl rfl (Y3u hb242) (Y1h Ycw.h rfl rfl) ?_
     refine OpsD.one ?_
     refine Y3n.gv rfl rfl rfl rfl rfl (Y3u hb242) (Y8a (kc := Y9j) (z0 := 0) Ycx zv_2 (fun _ _ => rfl) rfl rfl rfl) ?_
     refine zw ?_
     refine cnd h (fun hb249 h => ?_) fun hb249 h => ?_
     ·
      refine OpsD.gs rfl rfl rfl rfl (.b rfl hb249) rfl rfl ?_
      refine OpsD.gs rfl rfl rfl rfl (.b rfl hb249) rfl rfl ?_
      refine OpsD.one ?_
      refine Y3n.gs rfl rfl rfl rfl (.b rfl hb249) rfl rfl ?_
      refine OpsD.one ?_
      refine Y3n.gs rfl rfl rfl rfl (.b rfl hb249) rfl rfl ?_
      refine zw ?_
      exact ⟨true, h, Y21.both (ns := [0, 0, 0, 1, 1, 1]) rfl rfl⟩
     refine zw ?_
     refine OpsD.gv rfl rfl rfl rfl rfl hb249 (Y6q rfl rfl) ?_
     refine OpsD.one ?_
     refine Y3n.gv rfl rfl rfl rfl rfl hb249 (Y1k (p := 3) Y9q.h rfl rfl rfl rfl) ?_
     refine zw ?_
     refine ob' h fun r250 g251 h => ?_
     refine Y3n.gh (ns := [3, 0, 0, 0]) rfl rfl rfl rfl rfl hb249 rfl (Y24 (Zf8 l203 r189 m178 e181 _ g251) rfl rfl) ?_
     rintro _ _ ⟨rfl, rfl⟩
     refine zw ?_
     exact ⟨r250, h, Y21.both (ns := [0, 0, 0, 2, 2, 2]) rfl rfl⟩
    refine zw ?_
    refine OpsD.two ?_ ?_
    ·
     refine Y3n.gs rfl rfl rfl rfl (.b rfl (Y3v hb242)) rfl rfl ?_
     refine zw ?_
     refine OpsD.two ?_ ?_
     ·
      refine Y3n.gs rfl rfl rfl rfl (.b rfl (Y3v hb242)) rfl rfl ?_
      refine OpsD.one ?_
      refine Y3n.gs rfl rfl rfl rfl (.b rfl (Y3v hb242)) rfl rfl ?_
      refine OpsD.one ?_
      refine Y3n.gs rfl rfl rfl rfl (.b rfl (Y3v hb242)) rfl rfl ?_
      refine OpsD.gs rfl rfl rfl rfl (.b rfl (Y3v hb242)) rfl rfl ?_
      refine OpsD.v rfl rfl (Ys rfl (Y3v hb242) rfl rfl) ?_
      refine OpsD.v rfl rfl (Yq rfl rfl) ?_
      refine OpsD.gs rfl rfl rfl rfl (.b rfl rfl) rfl rfl ?_
      refine OpsD.gs rfl rfl rfl rfl (.b rfl rfl) rfl rfl ?_
      refine OpsD.one ?_
      refine Y3n.gs rfl rfl rfl rfl (.b rfl rfl) rfl rfl ?_
      refine OpsD.one ?_
      refine Y3n.gs rfl rfl rfl rfl (.b rfl rfl) rfl rfl ?_
      refine zw ?_
      exact ⟨true, h, Y21.both (ns := [0, 0, 0, 1, 1, 1]) rfl rfl⟩
     refine Y3n.gs rfl rfl rfl rfl (.b rfl (Y3v hb242)) rfl rfl ?_
     refine OpsD.one ?_
     refine Y3n.gs rfl rfl rfl rfl (.b rfl (Y3v hb242)) rfl rfl ?_
     refine OpsD.one ?_
     refine Y3n.gs rfl rfl rfl rfl (.b rfl (Y3v hb242)) rfl rfl ?_
     refine OpsD.gs rfl rfl rfl rfl (.b rfl (Y3v hb242)) rfl rfl ?_
     refine OpsD.v rfl rfl (Ys rfl (Y3v hb242) rfl rfl) ?_
     refine OpsD.v rfl rfl (Yq rfl rfl) ?_
     refine OpsD.gs rfl rfl rfl rfl (.b rfl rfl) rfl rfl ?_
     refine OpsD.gs rfl rfl rfl rfl (.b rfl rfl) rfl rfl ?_
     refine OpsD.one ?_
     refine Y3n.gs rfl rfl rfl rfl (.b rfl rfl) rfl rfl ?_
     refine OpsD.one ?_
     refine Y3n.gs rfl rfl rfl rfl (.b rfl rfl) rfl rfl ?_
     refine zw ?_
     exact ⟨true, h, Y21.both (ns := [0, 0, 0, 1, 1, 1]) rfl rfl⟩
    refine Y3n.gs rfl rfl rfl rfl (.b rfl (Y3v hb242)) rfl rfl ?_
    refine OpsD.one ?_
    refine Y3n.gs rfl rfl rfl rfl (.b rfl (Y3v hb242)) rfl rfl ?_
    refine OpsD.gs rfl rfl rfl rfl (.b rfl (Y3v hb242)) rfl rfl ?_
    refine OpsD.gs rfl rfl rfl rfl (.b rfl (Y3v hb242)) rfl rfl ?_
    refine OpsD.one ?_
    refine Y3n.gs rfl rfl rfl rfl (.b rfl (Y3v hb242)) rfl rfl ?_
    refine OpsD.one ?_
    refine Y3n.gs rfl rfl rfl rfl (.b rfl (Y3v hb242)) rfl rfl ?_
    refine OpsD.gs rfl rfl rfl rfl (.b rfl (Y3v hb242)) rfl rfl ?_
    refine OpsD.v rfl rfl (Ys rfl (Y3v hb242) rfl rfl) ?_
    refine OpsD.v rfl rfl (Yq rfl rfl) ?_
    refine OpsD.gs rfl rfl rfl rfl (.b rfl rfl) rfl rfl ?_
    refine OpsD.gs rfl rfl rfl rfl (.b rfl rfl) rfl rfl ?_
    refine OpsD.one ?_
    refine Y3n.gs rfl rfl rfl rfl (.b rfl rfl) rfl rfl ?_
    refine OpsD.one ?_
    refine Y3n.gs rfl rfl rfl rfl (.b rfl rfl) rfl rfl ?_
    refine zw ?_
    exact ⟨true, h, Y21.both (ns := [0, 0, 0, 1, 1, 1]) rfl rfl⟩
   intro x252 h
   replace h : Zfa m178 x179 e181 x252 = some y268 := h
   unfold Zfa at h
   refine cnd h (fun hb253 h => ?_) fun hb253 h => ?_
   ·
    refine AW.ct hb253 rfl ?_
    refine zw ?_
    refine AW.ret ?_
    refine lx h fun h => ?_
    rw [← Option.some.inj h]
    exact ⟨[C.any, C.bool false], _, Y21.imp (t := 2) rfl (Imp.any _), (.cons (.tmp rfl) (.cons (.tmp rfl) .nil)), [], _, _, rfl, .inr ⟨rfl, rfl, rfl⟩⟩
   refine AW.cf hb253 rfl ?_
   refine AW.skip ?_
   refine AW.region ?_
   refine Ops.v rfl (Y1k (p := 3) Yd9.h rfl rfl rfl rfl) ?_
   refine Ops.v rfl (Y1l (p := 5) (ds := [C.int e181.room, C.int e181.id]) Yb5.h rfl rfl rfl rfl rfl) ?_
   refine Ops.hd (ns := [4]) rfl rfl (Y8n (j := (e181.room, e181.id)) (kc := Y9l) (v := true) Yda rfl rfl rfl rfl) ?_
   refine zw ?_
   exact lu h (gb [1, 1, 1, 1, 0])
  exact go
 rintro ⟨⟩ h
 replace h : Zf9 p0 l100 x101 = some r := h
 unfold Zf9 at h
 refine zw ?_
 refine AW.regionD (L := [3]) (Lt := []) (k := dec [0,3,6,10,12,15,18,21]) (ns := [0, 0, 0]) (by kernel_rfl) (by kernel_rfl) (by kernel_rfl) (by kernel_rfl) rfl ?_
 refine zw ?_
 refine AW.ret ?_
 refine cnd h (fun hb254 h => ?_) fun hb254 h => ?_
 ·
  rw [← Option.some.inj h]
  exact ⟨[C.ip [C.im Y9b 3 p0.rooms, C.im Y98 2 p0.stream, C.im Y9m 1 l100], C.bool (x101 == (p0.stream.length : Int))], _, Y21.freezeBy (ns := [1, 1]) (t := 2) rfl rfl (Frz.box (FrzL.cons (os := []) (Frz.same _) (FrzL.cons (os := []) (Frz.same _) (FrzL.cons (os := [_]) Frz.arr FrzL.nil)))), (.cons (.tmp rfl) (.cons (.tmp rfl) .nil)), [], _, _, rfl, .inl ⟨hb254, rfl, rfl⟩⟩
 rw [← Option.some.inj h]
 exact ⟨[C.any, C.bool (x101 == (p0.stream.length : Int))], _, Y21.imp (t := 2) rfl (Imp.any _), (.cons (.tmp rfl) (.cons (.tmp rfl) .nil)), [], _, _, rfl, .inr ⟨hb254, rfl, rfl⟩⟩

def Zfk : Option Int := some (-1)
def Zfl (p0 : List Y8y) (p1 : Y8y) (x6 : Int) : Option (Int ⊕ (Int ⊕ Unit)) := cond (decide (x6 < (p0.length : Int))) ((getI p0 x6).bind fun e8 => cond ((p1.room == e8.room) && ((p1.id == e8.id) && true)) (some (.inr (.inl x6))) (some (.inl (IntKind.i64.wrap (x6 + 1))))) (some (.inr (.inr ())))
def Zfm (p0 : List Y8y) (p1 : Y8y) : Option Int := (iter (Zfl p0 p1) big 0).bind (fun z12 => match z12 with | .inl y11 => some y11 | .inr () => Zfk)
set_option maxHeartbeats 1000000 in
instance Zfn (p0 : List Y8y) (p1 : Y8y) : Sp Tryz.prog 166 [C.im Y98 2 p0, C.agg [C.int p1.room, C.int p1.id]] (Zfm p0 p1) C.int := sp Tryz.func166 rfl rfl fun r X h => by
 unfold Zfm at h
 refine zw ?_
 refine ox fun b1 => ?_
 refine zw ?_
 refine AW.lp (v := ()) h (fun x6 (_ : Unit) => ⟨[(0, C.im Y98 2 p0), (3, pt b1), (7, C.int (p0.length : Int)), (8, C.int x6)], [Obj.box b1 142 [C.int p1.room, C.int p1.id]]⟩) (gb [0]) ?_
 rintro x6 _ y18 h
 refine zw ?_
 refine cnd h (fun hb7 h => ?_) fun hb7 h => ?_
 ·
  refine AW.ct hb7 rfl ?_
  refine zw ?_
  refine AW.regionD (L := [0, 4]) (Lt := []) (k := dec [1,3,6,9,13,15]) (ns := [0]) (by kernel_rfl) (by kernel_rfl) (by kernel_rfl) (by kernel_rfl) rfl ?_
  refine zw ?_
  refine di h fun e8 g9 h => ?_
  refine zw ?_
  refine OpsD.v rfl rfl (Y5l [.int .i64 p1.room, .int .i64 p1.id] [.int .i64 e8.room, .int .i64 e8.id] Yci rfl rfl rfl rfl rfl rfl) ?_
  exact go
 exact go

def Zfo (p0 : Y8z) (p1 : List Y91) : Option Int := (Zcm p0 p1 6 0).bind fun r2 => cond r2.2 (some r2.1.n) (some 2)
set_option maxHeartbeats 1000000 in
instance Zfp (p0 : Y8z) (p1 : List Y91) : Sp Tryz.prog 164 [C.agg [C.int p0.room, C.im Y96 9 p0.events, C.im Y96 9 p0.parked], C.im Y9e 3 p1] (Zfo p0 p1) C.int := sp Tryz.func164 rfl rfl fun r X h => by
 unfold Zfo at h
 refine zw ?_
 refine ox fun b1 => ?_
 refine zw ?_
 refine oc h fun r2 g3 h => ?_
 refine zw ?_
 refine Ops.h (ns := []) rfl rfl (Y1p (cs := [C.int 0, C.int 0, C.int 0, C.int 0, C.int 0, C.int 0, C.str ByteArray.empty, C.val s0, C.int 0]) Ya4 (Y42 rfl rfl) rfl) ?_
 rintro _ _ ⟨b4, rfl, rfl⟩
 refine Ops.hd (ns := [0]) rfl rfl (Y1u (gs := [C.int r2.1.id, C.int r2.1.room, C.int r2.1.author, C.int r2.1.kind, C.int r2.1.key, C.int r2.1.n, C.str r2.1.text, C.im kI64 1 r2.1.prev, C.int r2.1.time]) Yal.h rfl rfl rfl rfl rfl) ?_
 exact go

def Zfq (p0 : List Int) : Option (List Int) := some p0
def Zfr (l85 : List Int) (x86 : Int) : Option (Int ⊕ ((List Int) ⊕ Unit)) := (chk (decide ((0 : Int) ≤ x86 ∧ x86 ≤ (l85.length : Int)))).bind fun u88 => (chk (decide ((Int.toNat x86) ≤ l85.length))).bind fun u90 => (chk (decide ((0 : Int) ≤ x86 ∧ x86 ≤ ((List.take (Int.toNat x86) l85 ++ List.replicate (l85.length - (Int.toNat x86)) 0).length : Int)))).bind fun u92 => some (.inr (.inl (List.take (Int.toNat x86) (List.take (Int.toNat x86) l85 ++ List.replicate (l85.length - (Int.toNat x86)) 0))))
def Zfs (x70 : Int) (l83 : List Int) (x84 : Int) : Option ((List Int × Int × Int) ⊕ ((List Int × Int))) := some (.inl (l83, x84, (IntKind.i64.wrap (x70 + 1))))
def Zft (x47 : Int) (l68 : List Int) (x69 : Int) (x70 : Int) : Option ((List Int × Int × Int) ⊕ ((List Int × Int))) := (chk (decide ((Int.toNat x47) ≤ l68.length))).bind fun u72 => cond (decide (x70 < ((List.drop (Int.toNat x47) l68).length : Int))) ((getI (List.drop (Int.toNat x47) l68) x70).bind fun e74 => (getI (List.drop (Int.toNat x47) l68) (IntKind.i64.wrap (x70 - 1))).bind fun e76 => cond (e74 != e76) ((getI (List.drop (Int.toNat x47) l68) x70).bind fun e79 => (getI l68 x69).bind fun e81 => Zfs x70 (List.set l68 (Int.toNat x69) e79) (IntKind.i64.wrap (x69 + 1))) (Zfs x70 l68 x69)) (some (.inr (l68, x69)))
def Zfu (p0 : List Int) (x47 : Int) : Option (Int ⊕ ((List Int) ⊕ Unit)) := cond (decide (x47 < (p0.length : Int))) ((getI p0 x47).bind fun e49 => (getI p0 (IntKind.i64.wrap (x47 - 1))).bind fun e51 => cond (e49 == e51) ((chk (decide ((0 : Int) ≤ x47 ∧ x47 ≤ (p0.length : Int)))).bind fun u55 => (iter (fun z94 => Zft x47 z94.1 z94.2.1 z94.2.2) big (p0, x47, 1)).bind fun (y95, y96) => Zfr y95 y96) (some (.inl (IntKind.i64.wrap (x47 + 1))))) (some (.inr (.inr ())))
def Zfv (p0 : List Int) : Option (List Int) := cond (decide ((p0.length : Int) < 2)) (some p0) ((iter (Zfu p0) big 1).bind (fun z98 => match z98 with | .inl y97 => some y97 | .inr () => Zfq p0))
set_option maxHeartbeats 1000000 in
theorem Zfw {w00 : Value} (p0 : List Int) (r : List Int) (h : Zfv p0 = some r) : Ok Tryz.prog 257 [C.val w00] [Obj.arr w00 2 kI64 1 p0] (fun c qs => ∃ (v93 : Value), c = C.val v93 ∧ qs = [Obj.arr v93 2 kI64 1 r]) := by
 refine Ok.of_body (rs := [.tmp 2]) Tryz.func257 rfl rfl rfl rfl rfl fun X => ?_
 unfold Zfv at h
 refine zw ?_
 refine cnd h (fun hb1 h => ?_) fun hb1 h => ?_
 ·
  refine AW.ct hb1 rfl ?_
  refine zw ?_
  refine AW.ret ?_
  rw [← Option.some.inj h]
  exact ⟨[C.val w00], _, Y21.refl _, (.cons (.tmp rfl) .nil), [0], _, _, rfl, ⟨w00, rfl, rfl⟩⟩
 refine AW.cf hb1 rfl ?_
 refine AW.skip ?_
 refine AW.seq ?_
 refine AW.cut (τ := Unit) (fun (_ : Unit) => ⟨[(0, C.val w00)], [Obj.arr w00 2 kI64 1 p0]⟩) (fun (_ : Unit) => Zfq p0 = some r) ?_ ?_
 ·
  refine zw ?_
  refine AW.lp (v := ()) h (fun x47 (_ : Unit) => ⟨[(0, C.val w00), (3, C.int x47)], [Obj.arr w00 2 kI64 1 p0]⟩) (gb [0]) ?_
  rintro x47 _ y104 h
  refine zw ?_
  refine cnd h (fun hb48 h => ?_) fun hb48 h => ?_
  ·
   refine AW.ct hb48 rfl ?_
   refine zw ?_
   refine AW.regionD (L := [3, 8]) (Lt := []) (k := dec [0,3,6,10,12,15,18,21,25,27]) (ns := [0]) (by kernel_rfl) (by kernel_rfl) (by kernel_rfl) (by kernel_rfl) rfl ?_
   refine zw ?_
   refine di h fun e49 g50 h => ?_
   refine OpsD.v rfl rfl (Y30 (p := 0) ld_2.h rfl rfl (Y29 g50).2.2 rfl rfl) ?_
   refine zw ?_
   refine di h fun e51 g52 h => ?_
   refine OpsD.v rfl rfl (Y30 (p := 0) ld_2.h rfl rfl (Y29 g52).2.2 rfl rfl) ?_
   refine zw ?_
   refine cnd h (fun hb53 h => ?_) fun hb53 h => ?_
   ·
    refine AW.ct hb53 rfl ?_
    refine zw ?_
    refine ob' h fun u55 c54 h => ?_
    refine Ops.v rfl (Y75 (p := 0) (l := (Int.toNat x47)) Y9n.h rfl rfl rfl (of_decide_eq_true (Y3t c54)) rfl rfl) ?_
    refine Ops.v rfl (Yr rfl rfl) ?_
    refine Ops.nil ?_
    refine AW.seq ?_
    refine AW.cut (τ := List Int × Int) (fun (l85, x86) => ⟨[(0, C.val w00), (3, C.int x86)], [Obj.arr w00 2 kI64 1 l85]⟩) (fun (l85, x86) => Zfr l85 x86 = some y104) ?_ ?_
    ·
     refine zw ?_
     refine AW.lp (v := ()) h (fun (l68, x69, x70) (_ : Unit) => ⟨[(0, C.val w00), (3, C.int x69), (4, C.val (Y72 w00 1 (Int.toNat x47))), (5, C.int x70)], [Obj.arr w00 2 kI64 1 l68]⟩) (gb [0]) ?_
     rintro ⟨l68, x69, x70⟩ _ y111 h
     refine zw ?_
     refine ob' h fun u72 c71 h => ?_
     refine Ops.v rfl (Y77 (p := 0) Y9n.h rfl rfl (of_decide_eq_true (Y3t c71)) rfl) ?_
     refine zw ?_
     refine cnd h (fun hb73 h => ?_) fun hb73 h => ?_
     ·
      refine AW.ct hb73 rfl ?_
      refine zw ?_
      refine AW.regionD (L := [3, 8]) (Lt := []) (k := dec [0,3,6,10,12,15,18,21,25,27]) (ns := [0]) (by kernel_rfl) (by kernel_rfl) (by kernel_rfl) (by kernel_rfl) rfl ?_
      refine zw ?_
      refine ob' h fun e74 g75 h => ?_
      refine OpsD.v rfl rfl (Y78 (p := 0) Y9n.h rfl rfl rfl g75 rfl) ?_
      refine OpsD.v rfl rfl (Y30 (p := 0) ld_2.h rfl rfl (Y79 g75) rfl rfl) ?_
      refine zw ?_
      refine ob' h fun e76 g77 h => ?_
      refine OpsD.v rfl rfl (Y78 (p := 0) Y9n.h rfl rfl rfl g77 rfl) ?_
      refine OpsD.v rfl rfl (Y30 (p := 0) ld_2.h rfl rfl (Y79 g77) rfl rfl) ?_
      refine zw ?_
      refine cnd h (fun hb78 h => ?_) fun hb78 h => ?_
      ·
       refine AW.ct hb78 rfl ?_
       refine zw ?_
       refine ob' h fun e79 g80 h => ?_
       refine Ops.v rfl (Y78 (p := 0) Y9n.h rfl rfl rfl g80 rfl) ?_
       refine Ops.v rfl (Y30 (p := 0) ld_2.h rfl rfl (Y79 g80) rfl rfl) ?_
       refine oi h fun e81 g82 h => ?_
       refine Ops.hd (ns := [0]) rfl rfl (Y33 (e' := e79) ld_2.h rfl rfl (One.val rfl) (Y29 g82).2.2 rfl rfl) ?_
       exact go
      exact go
     exact go
    rintro ⟨l85, x86⟩ h
    replace h : Zfr l85 x86 = some y104 := h
    unfold Zfr at h
    refine zw ?_
    refine ob' h fun u88 c87 h => ?_
    refine Ops.v rfl (Y75 (p := 0) (l := (Int.toNat x86)) Y9n.h rfl rfl rfl (of_decide_eq_true (Y3t c87)) rfl rfl) ?_
    refine ob' h fun u90 c89 h => ?_
    refine Ops.hd (ns := [0]) rfl rfl (Y7d (z := 0) Ya3 ze_2 (Y42 rfl rfl) rfl (of_decide_eq_true (Y3t c89))) ?_
    refine zw ?_
    refine ob' h fun u92 c91 h => ?_
    refine Ops.v rfl (Y76 (p := 0) (l := (Int.toNat x86)) Y9n.h rfl rfl rfl (of_decide_eq_true (Y3t c91)) rfl rfl) ?_
    refine zw ?_
    refine AW.ret ?_
    refine lx h fun h => ?_
    rw [← Option.some.inj h]
    exact ⟨[C.val (Y73 w00 (Int.toNat x86))], _, Y21.prefix (p := 0) (h := (Int.toNat x86)) rfl (Int.le_toNat_len c91), (.cons (.tmp rfl) .nil), [0], _, _, rfl, ⟨(Y73 w00 (Int.toNat x86)), rfl, rfl⟩⟩
   exact go
  exact go
 rintro ⟨⟩ h
 replace h : Zfq p0 = some r := h
 unfold Zfq at h
 refine zw ?_
 refine AW.ret ?_
 rw [← Option.some.inj h]
 exact ⟨[C.val w00], _, Y21.refl _, (.cons (.tmp rfl) .nil), [0], _, _, rfl, ⟨w00, rfl, rfl⟩⟩
def Zfx (p0 : List Int) : Option (List Int) := (chk (decide (p0.length < 4611686018427387904))).bind fun u2 => (Zfv (List.mergeSort p0 (fun x y => decide (x ≤ y)))).bind fun r3 => some r3
theorem Zfy {w00 : Value} (p0 : List Int) (r : List Int) (h : Zfx p0 = some r) : Ok Tryz.prog 205 [C.val w00] [Obj.arr w00 2 kI64 1 p0] (fun c qs => ∃ (v6 : Value), c = C.val v6 ∧ qs = [Obj.arr v6 2 kI64 1 r]) := by
 refine Ok.of_body (rs := [.tmp 2]) Tryz.func205 rfl rfl rfl rfl rfl fun X => ?_
 unfold Zfx at h
 refine zw ?_
 refine ob' h fun u2 c1 h => ?_
 refine Ops.hd (ns := [0]) rfl rfl (Y89 Y8v (fun _ => rfl) (of_decide_eq_true (Y3t c1)) rfl rfl) ?_
 refine zw ?_
 refine ob' h fun r3 g4 h => ?_
 refine Ops.h (ns := [0]) rfl rfl (Y23 (Zfw (List.mergeSort p0 (fun x y => decide (x ≤ y))) _ g4) rfl rfl) ?_
 rintro _ _ ⟨_, ⟨v5, rfl, rfl⟩, rfl⟩
 refine zw ?_
 refine AW.ret ?_
 rw [← Option.some.inj h]
 exact ⟨[C.val v5], _, Y21.refl _, (.cons (.tmp rfl) .nil), [0], _, _, rfl, ⟨v5, rfl, rfl⟩⟩
def Zfz (p0 : Int) (q0 : Y8w) : Option Bool := (Z86 q0.prev p0).bind fun r1 => some r1
theorem Zg0 {b00 : Nat} (p0 : Int) (q0 : Y8w) (r : Bool) (h : Zfz p0 q0 = some r) : Ok Tryz.prog 207 [C.int p0, pt b00] [Obj.box b00 136 [C.int q0.id, C.int q0.room, C.int q0.author, C.int q0.kind, C.int q0.key, C.int q0.n, C.str q0.text, C.im kI64 1 q0.prev, C.int q0.time]] (fun c qs => c = C.bool r ∧ qs = [Obj.box b00 136 [C.int q0.id, C.int q0.room, C.int q0.author, C.int q0.kind, C.int q0.key, C.int q0.n, C.str q0.text, C.im kI64 1 q0.prev, C.int q0.time]]) := by
 refine Ok.of_body (rs := [.tmp 3]) Tryz.func207 rfl rfl rfl rfl rfl fun X => ?_
 unfold Zfz at h
 refine zw ?_
 refine oc h fun r1 g2 h => ?_
 refine zw ?_
 refine AW.ret ?_
 rw [← Option.some.inj h]
 exact ⟨[C.bool r1], _, Y21.refl _, (.cons (.tmp rfl) .nil), [0], _, _, rfl, ⟨rfl, rfl⟩⟩

def Zg1 : Option Int := some (-1)
def Zg2 (p0 : List Int) (p1_0 : Y8w) (x7 : Int) : Option (Int ⊕ (Int ⊕ Unit)) := cond (decide (x7 < (p0.length : Int))) ((getI p0 x7).bind fun e9 => (Zfz e9 p1_0).bind fun r11 => cond r11 (some (.inr (.inl x7))) (some (.inl (IntKind.i64.wrap (x7 + 1))))) (some (.inr (.inr ())))
def Zg3 (p0 : List Int) (p1_0 : Y8w) : Option Int := (iter (Zg2 p0 p1_0) big 0).bind (fun z15 => match z15 with | .inl y14 => some y14 | .inr () => Zg1)
set_option maxHeartbeats 1000000 in
theorem Zg4 {w00 : Value} {b01 : Nat} (p0 : List Int) (p1_0 : Y8w) (r : Int) (h : Zg3 p0 p1_0 = some r) : Ok Tryz.prog 194 [C.val w00, C.clo 207 [pt b01]] [Obj.arr w00 2 kI64 1 p0, Obj.box b01 136 [C.int p1_0.id, C.int p1_0.room, C.int p1_0.author, C.int p1_0.kind, C.int p1_0.key, C.int p1_0.n, C.str p1_0.text, C.im kI64 1 p1_0.prev, C.int p1_0.time]] (fun c qs => c = C.int r ∧ qs = [Obj.arr w00 2 kI64 1 p0, Obj.box b01 136 [C.int p1_0.id, C.int p1_0.room, C.int p1_0.author, C.int p1_0.kind, C.int p1_0.key, C.int p1_0.n, C.str p1_0.text, C.im kI64 1 p1_0.prev, C.int p1_0.time]]) := by
 refine Ok.of_body (rs := [.tmp 4]) Tryz.func194 rfl rfl rfl rfl rfl fun X => ?_
 unfold Zg3 at h
 refine AW.seq ?_
 refine AW.region ?_
 refine Ops.v rfl (Yr rfl rfl) ?_
 refine Ops.nil ?_
 refine AW.seq ?_
 refine AW.cut (τ := Unit) (fun (_ : Unit) => ⟨[], [Obj.arr w00 2 kI64 1 p0, Obj.box b01 136 [C.int p1_0.id, C.int p1_0.room, C.int p1_0.author, C.int p1_0.kind, C.int p1_0.key, C.int p1_0.n, C.str p1_0.text, C.im kI64 1 p1_0.prev, C.int p1_0.time]]⟩) (fun (_ : Unit) => Zg1 = some r) ?_ ?_
 ·
  refine zw ?_
  refine AW.lp (v := ()) h (fun x7 (_ : Unit) => ⟨[(0, C.val w00), (1, C.clo 207 [pt b01]), (7, C.int (p0.length : Int)), (8, C.int x7)], [Obj.arr w00 2 kI64 1 p0, Obj.box b01 136 [C.int p1_0.id, C.int p1_0.room, C.int p1_0.author, C.int p1_0.kind, C.int p1_0.key, C.int p1_0.n, C.str p1_0.text, C.im kI64 1 p1_0.prev, C.int p1_0.time]]⟩) (gb [0, 0]) ?_
  rintro x7 _ y21 h
  refine zw ?_
  refine cnd h (fun hb8 h => ?_) fun hb8 h => ?_
  ·
   refine AW.ct hb8 rfl ?_
   refine zw ?_
   refine oi h fun e9 g10 h => ?_
   refine Ops.v rfl (Y30 (p := 0) ld_2.h rfl rfl (Y29 g10).2.2 rfl rfl) ?_
   refine ob' h fun r11 g12 h => ?_
   refine Ops.hd (ns := [1]) rfl rfl (Y6s (cs := [_]) (ds := [_]) rfl (Zg0 e9 p1_0 _ g12) rfl rfl) ?_
   refine zw ?_
   refine cnd h (fun hb13 h => ?_) fun hb13 h => ?_
   ·
    refine AW.ct hb13 rfl ?_
    refine zw ?_
    refine AW.ret ?_
    refine lx h fun h => ?_
    rw [← Option.some.inj h]
    exact ⟨[C.int x7], _, Y21.refl _, (.cons (.tmp rfl) .nil), [1, 0], _, _, rfl, ⟨rfl, rfl⟩⟩
   exact go
  exact go
 rintro ⟨⟩ h
 replace h : Zg1 = some r := h
 unfold Zg1 at h
 refine zw ?_
 refine AW.ret ?_
 rw [← Option.some.inj h]
 exact ⟨[C.int (-1)], _, Y21.refl _, (.cons (.tmp rfl) .nil), [0, 0], _, _, rfl, ⟨rfl, rfl⟩⟩

def Zg5 (l27 : List Int) (x28 : Int) : Option (List Int) := (chk (decide ((0 : Int) ≤ x28 ∧ x28 ≤ (l27.length : Int)))).bind fun u30 => (chk (decide ((Int.toNat x28) ≤ l27.length))).bind fun u32 => (chk (decide ((0 : Int) ≤ x28 ∧ x28 ≤ ((List.take (Int.toNat x28) l27 ++ List.replicate (l27.length - (Int.toNat x28)) 0).length : Int)))).bind fun u34 => some (List.take (Int.toNat x28) (List.take (Int.toNat x28) l27 ++ List.replicate (l27.length - (Int.toNat x28)) 0))
def Zg6 (x16 : Int) (l25 : List Int) (x26 : Int) : Option ((List Int × Int × Int) ⊕ ((List Int × Int))) := some (.inl (l25, x26, (IntKind.i64.wrap (x16 + 1))))
def Zg7 (p1_0 : Y8w) (l14 : List Int) (x15 : Int) (x16 : Int) : Option ((List Int × Int × Int) ⊕ ((List Int × Int))) := cond (decide (x16 < (l14.length : Int))) ((getI l14 x16).bind fun e18 => (Zfz e18 p1_0).bind fun r20 => cond r20 (Zg6 x16 l14 x15) ((getI l14 x15).bind fun e23 => Zg6 x16 (List.set l14 (Int.toNat x15) e18) (IntKind.i64.wrap (x15 + 1)))) (some (.inr (l14, x15)))
def Zg8 (p0 : List Int) (p1_0 : Y8w) : Option (List Int) := (Zg3 p0 p1_0).bind fun r1 => cond (r1 == (-1)) (some p0) ((iter (fun z36 => Zg7 p1_0 z36.1 z36.2.1 z36.2.2) big (p0, r1, (IntKind.i64.wrap (r1 + 1)))).bind fun (y37, y38) => Zg5 y37 y38)
set_option maxHeartbeats 1000000 in
theorem Zg9 {w00 : Value} {b01 : Nat} (p0 : List Int) (p1_0 : Y8w) (r : List Int) (h : Zg8 p0 p1_0 = some r) : Ok Tryz.prog 206 [C.val w00, C.clo 207 [pt b01]] [Obj.arr w00 2 kI64 1 p0, Obj.box b01 136 [C.int p1_0.id, C.int p1_0.room, C.int p1_0.author, C.int p1_0.kind, C.int p1_0.key, C.int p1_0.n, C.str p1_0.text, C.im kI64 1 p1_0.prev, C.int p1_0.time]] (fun c qs => ∃ (v35 : Value), c = C.val v35 ∧ qs = [Obj.arr v35 2 kI64 1 r, Obj.box b01 136 [C.int p1_0.id, C.int p1_0.room, C.int p1_0.author, C.int p1_0.kind, C.int p1_0.key, C.int p1_0.n, C.str p1_0.text, C.im kI64 1 p1_0.prev, C.int p1_0.time]]) := by
 refine Ok.of_body (rs := [.tmp 4]) Tryz.func206 rfl rfl rfl rfl rfl fun X => ?_
 unfold Zg8 at h
 refine zw ?_
 refine ob' h fun r1 g2 h => ?_
 refine Ops.hd (ns := [0, 0]) rfl rfl (Y24 (Zg4 p0 p1_0 _ g2) rfl rfl) ?_
 refine zw ?_
 refine cnd h (fun hb3 h => ?_) fun hb3 h => ?_
 ·
  refine AW.ct hb3 rfl ?_
  refine zw ?_
  refine AW.ret ?_
  rw [← Option.some.inj h]
  exact ⟨[C.val w00], _, Y21.refl _, (.cons (.tmp rfl) .nil), [0, 0], _, _, rfl, ⟨w00, rfl, rfl⟩⟩
 refine AW.cf hb3 rfl ?_
 refine AW.skip ?_
 refine AW.seq ?_
 refine AW.cut (τ := List Int × Int) (fun (l27, x28) => ⟨[(0, C.val w00), (5, C.int x28)], [Obj.arr w00 2 kI64 1 l27, Obj.box b01 136 [C.int p1_0.id, C.int p1_0.room, C.int p1_0.author, C.int p1_0.kind, C.int p1_0.key, C.int p1_0.n, C.str p1_0.text, C.im kI64 1 p1_0.prev, C.int p1_0.time]]⟩) (fun (l27, x28) => Zg5 l27 x28 = some r) ?_ ?_
 ·
  refine zw ?_
  refine AW.lp (v := ()) h (fun (l14, x15, x16) (_ : Unit) => ⟨[(0, C.val w00), (1, C.clo 207 [pt b01]), (5, C.int x15), (6, C.int x16)], [Obj.arr w00 2 kI64 1 l14, Obj.box b01 136 [C.int p1_0.id, C.int p1_0.room, C.int p1_0.author, C.int p1_0.kind, C.int p1_0.key, C.int p1_0.n, C.str p1_0.text, C.im kI64 1 p1_0.prev, C.int p1_0.time]]⟩) (gb [0, 0]) ?_
  rintro ⟨l14, x15, x16⟩ _ y44 h
  refine zw ?_
  refine cnd h (fun hb17 h => ?_) fun hb17 h => ?_
  ·
   refine AW.ct hb17 rfl ?_
   refine zw ?_
   refine oi h fun e18 g19 h => ?_
   refine Ops.v rfl (Y30 (p := 0) ld_2.h rfl rfl (Y29 g19).2.2 rfl rfl) ?_
   refine zw ?_
   refine ob' h fun r20 g21 h => ?_
   refine Ops.hd (ns := [1]) rfl rfl (Y6s (cs := [_]) (ds := [_]) rfl (Zg0 e18 p1_0 _ g21) rfl rfl) ?_
   refine zw ?_
   refine cnd h (fun hb22 h => go) fun hb22 h => ?_
   refine AW.cond rfl (fun _ => ?_) (fun hn => absurd ((Y3v hb22).symm.trans hn) (by decide))
   refine zw ?_
   refine ob' h fun e23 g24 h => ?_
   refine Ops.v rfl (Y2x (p := 1) Y9n.h rfl rfl rfl g24 rfl) ?_
   refine Ops.hd (ns := [1]) rfl rfl (Y33 (e' := e18) ld_2.h rfl rfl (One.val rfl) (Y29 g24).2.2 rfl rfl) ?_
   exact go
  exact go
 rintro ⟨l27, x28⟩ h
 replace h : Zg5 l27 x28 = some r := h
 unfold Zg5 at h
 refine zw ?_
 refine ob' h fun u30 c29 h => ?_
 refine Ops.v rfl (Y75 (p := 0) (l := (Int.toNat x28)) Y9n.h rfl rfl rfl (of_decide_eq_true (Y3t c29)) rfl rfl) ?_
 refine ob' h fun u32 c31 h => ?_
 refine Ops.hd (ns := [0]) rfl rfl (Y7d (z := 0) Ya3 ze_2 (Y42 rfl rfl) rfl (of_decide_eq_true (Y3t c31))) ?_
 refine zw ?_
 refine ob' h fun u34 c33 h => ?_
 refine Ops.v rfl (Y76 (p := 0) (l := (Int.toNat x28)) Y9n.h rfl rfl rfl (of_decide_eq_true (Y3t c33)) rfl rfl) ?_
 refine zw ?_
 refine AW.ret ?_
 rw [← Option.some.inj h]
 exact ⟨[C.val (Y73 w00 (Int.toNat x28))], _, Y21.prefix (p := 0) (h := (Int.toNat x28)) rfl (Int.le_toNat_len c33), (.cons (.tmp rfl) .nil), [0, 0], _, _, rfl, ⟨(Y73 w00 (Int.toNat x28)), rfl, rfl⟩⟩

def Zga (l29 : List Int) : Option (List Int) := some l29
def Zgb (p0 : Y94) (p1 : List Int) (l17 : List Int) (x18 : Int) : Option ((List Int × Int) ⊕ ((List Int))) := cond (decide (x18 < (p1.length : Int))) ((getI p1 x18).bind fun e20 => (Zbs p0.graph e20).bind fun r22 => (Zg8 l17 r22.1).bind fun r25 => some (.inl (r25, (IntKind.i64.wrap (x18 + 1))))) (some (.inr l17))
def Zgc (p0 : Y94) (p1 : List Int) : Option (List Int) := (Zeb p1).bind fun r1 => (Zfx r1).bind fun r4 => (iter (fun z31 => Zgb p0 p1 z31.1 z31.2) big (r4, 0)).bind fun y32 => Zga y32
set_option maxHeartbeats 1000000 in
theorem Zgd (p0 : Y94) (p1 : List Int) (r : List Int) (h : Zgc p0 p1 = some r) : Ok Tryz.prog 144 [C.ip [C.int p0.graph.room, C.im Y96 9 p0.graph.events, C.im Y96 9 p0.graph.parked, C.imap .i64 Y9j p0.depth, C.imap .i64 Y9k p0.before, C.imap .i64 Y9k p0.after, C.imap .i64 Y9j p0.refused], C.im kI64 1 p1] [] (fun c qs => ∃ (v30 : Value), c = C.val v30 ∧ qs = [Obj.arr v30 2 kI64 1 r]) := by
 refine Ok.of_body (rs := [.tmp 4]) Tryz.func144 rfl rfl rfl rfl rfl fun X => ?_
 unfold Zgc at h
 refine zw ?_
 refine ob' h fun r1 g2 h => ?_
 refine Ops.h (ns := []) rfl rfl (Y23 (Zec _ _ g2) rfl rfl) ?_
 rintro _ _ ⟨_, ⟨v3, rfl, rfl⟩, rfl⟩
 refine ob' h fun r4 g5 h => ?_
 refine Ops.h (ns := [0]) rfl rfl (Y23 (Zfy r1 _ g5) rfl rfl) ?_
 rintro _ _ ⟨_, ⟨v6, rfl, rfl⟩, rfl⟩
 refine Ops.v rfl (Yr rfl rfl) ?_
 refine Ops.nil ?_
 refine AW.seq ?_
 refine AW.cut (τ := List Int × Value) (fun (l29, v28) => ⟨[(5, C.val v28)], [Obj.arr v28 2 kI64 1 l29]⟩) (fun (l29, v28) => Zga l29 = some r) ?_ ?_
 ·
  refine zw ?_
  refine AW.lp h (fun (l17, x18) (v16 : Value) => ⟨[(0, C.ip [C.int p0.graph.room, C.im Y96 9 p0.graph.events, C.im Y96 9 p0.graph.parked, C.imap .i64 Y9j p0.depth, C.imap .i64 Y9k p0.before, C.imap .i64 Y9k p0.after, C.imap .i64 Y9j p0.refused]), (5, C.val v16), (13, C.im kI64 1 p1), (14, C.int (p1.length : Int)), (15, C.int x18)], [Obj.arr v16 2 kI64 1 l17]⟩) (gb [0]) ?_
  rintro ⟨l17, x18⟩ v16 y38 h
  refine zw ?_
  refine cnd h (fun hb19 h => ?_) fun hb19 h => ?_
  ·
   refine AW.ct hb19 rfl ?_
   refine zw ?_
   refine oi h fun e20 g21 h => ?_
   refine zw ?_
   refine oc h fun r22 g23 h => ?_
   refine zw ?_
   refine Ops.h (ns := []) rfl rfl (Y1p (cs := [C.int 0, C.int 0, C.int 0, C.int 0, C.int 0, C.int 0, C.str ByteArray.empty, C.val s0, C.int 0]) Ya4 (Y42 rfl rfl) rfl) ?_
   rintro _ _ ⟨b24, rfl, rfl⟩
   refine Ops.hd (ns := [0]) rfl rfl (Y1u (gs := [C.int r22.1.id, C.int r22.1.room, C.int r22.1.author, C.int r22.1.kind, C.int r22.1.key, C.int r22.1.n, C.str r22.1.text, C.im kI64 1 r22.1.prev, C.int r22.1.time]) Yal.h rfl rfl rfl rfl rfl) ?_
   refine zw ?_
   refine Ops.v rfl (Y6q rfl rfl) ?_
   refine ob' h fun r25 g26 h => ?_
   refine Ops.h (ns := [1, 0]) rfl rfl (Y23 (Zg9 l17 r22.1 _ g26) rfl rfl) ?_
   rintro _ _ ⟨_, ⟨v27, rfl, rfl⟩, rfl⟩
   exact go
  exact go
 rintro ⟨l29, v28⟩ h
 replace h : Zga l29 = some r := h
 unfold Zga at h
 refine zw ?_
 refine AW.ret ?_
 rw [← Option.some.inj h]
 exact ⟨[C.val v28], _, Y21.refl _, (.cons (.tmp rfl) .nil), [0], _, _, rfl, ⟨v28, rfl, rfl⟩⟩
instance Zgd' (p0 : Y94) (p1 : List Int) : Sp Tryz.prog 144 [C.ip [C.int p0.graph.room, C.im Y96 9 p0.graph.events, C.im Y96 9 p0.graph.parked, C.imap .i64 Y9j p0.depth, C.imap .i64 Y9k p0.before, C.imap .i64 Y9k p0.after, C.imap .i64 Y9j p0.refused], C.im kI64 1 p1] (Zgc p0 p1) (fun r => C.im kI64 1 r) := ⟨fun r h => Ok.freeze (Zgd p0 p1 r h) (by rintro c qs ⟨v30, rfl, rfl⟩; exact Frz.arr)⟩

def Zge (p0 : Y94) : Option (List Int) := (Zew p0).bind fun r1 => (Zgc p0 r1).bind fun r3 => some r3
instance Zgf (p0 : Y94) : Sp Tryz.prog 265 [C.ip [C.int p0.graph.room, C.im Y96 9 p0.graph.events, C.im Y96 9 p0.graph.parked, C.imap .i64 Y9j p0.depth, C.imap .i64 Y9k p0.before, C.imap .i64 Y9k p0.after, C.imap .i64 Y9j p0.refused]] (Zge p0) (fun r => C.im kI64 1 r) := sp Tryz.func265 rfl rfl fun r X h => go

def Zgg (l20 : List (List Y91)) : Option (List (List Y91)) := some l20
def Zgh (p0 : Y94) (p1 : List Int) (l10 : List (List Y91)) (x11 : Int) : Option ((List (List Y91) × Int) ⊕ ((List (List Y91)))) := cond (decide (x11 < (p1.length : Int))) ((getI p1 x11).bind fun e13 => (chk (decide ((l10.length + [(Option.getD (mget p0.after e13) ([] : List Y91))].length) * 24 ≤ 140737488355328))).bind fun u17 => some (.inl ((l10 ++ [(Option.getD (mget p0.after e13) ([] : List Y91))]), (IntKind.i64.wrap (x11 + 1))))) (some (.inr l10))
def Zgi (p0 : Y94) (p1 : List Int) : Option (List (List Y91)) := (iter (fun z22 => Zgh p0 p1 z22.1 z22.2) big (([] : List (List Y91)), 0)).bind fun y23 => Zgg y23
set_option maxHeartbeats 1000000 in
theorem Zgj (p0 : Y94) (p1 : List Int) (r : List (List Y91)) (h : Zgi p0 p1 = some r) : Ok Tryz.prog 143 [C.ip [C.int p0.graph.room, C.im Y96 9 p0.graph.events, C.im Y96 9 p0.graph.parked, C.imap .i64 Y9j p0.depth, C.imap .i64 Y9k p0.before, C.imap .i64 Y9k p0.after, C.imap .i64 Y9j p0.refused], C.im kI64 1 p1] [] (fun c qs => ∃ (v21 : Value), c = C.val v21 ∧ qs = [Obj.arr v21 27 Y9f 1 r]) := by
 refine Ok.of_body (rs := [.tmp 4]) Tryz.func143 rfl rfl rfl rfl rfl fun X => ?_
 unfold Zgi at h
 refine zw ?_
 refine Ops.h (ns := []) rfl rfl (Y39 (k := Y9f) (ys := ([] : List (List Y91))) Ybw .nil rfl rfl rfl) ?_
 rintro _ _ ⟨b1, rfl, rfl⟩
 refine Ops.v rfl (Yr rfl rfl) ?_
 refine Ops.nil ?_
 refine AW.seq ?_
 refine AW.cut (τ := List (List Y91) × Value) (fun (l20, v19) => ⟨[(5, C.val v19)], [Obj.arr v19 27 Y9f 1 l20]⟩) (fun (l20, v19) => Zgg l20 = some r) ?_ ?_
 ·
  refine zw ?_
  refine AW.lp h (fun (l10, x11) (v9 : Value) => ⟨[(0, C.ip [C.int p0.graph.room, C.im Y96 9 p0.graph.events, C.im Y96 9 p0.graph.parked, C.imap .i64 Y9j p0.depth, C.imap .i64 Y9k p0.before, C.imap .i64 Y9k p0.after, C.imap .i64 Y9j p0.refused]), (5, C.val v9), (9, C.im kI64 1 p1), (10, C.int (p1.length : Int)), (11, C.int x11)], [Obj.arr v9 27 Y9f 1 l10]⟩) (gb [0]) ?_
  rintro ⟨l10, x11⟩ v9 y29 h
  refine zw ?_
  refine cnd h (fun hb12 h => ?_) fun hb12 h => ?_
  ·
   refine AW.ct hb12 rfl ?_
   refine zw ?_
   refine oi h fun e13 g14 h => ?_
   refine zw ?_
   refine Ops.v rfl (Y8a (kc := Y9k) (z0 := ([] : List Y91)) Ycp Ycq (fun w F => Imp.nil Y9e 3 w F _ rfl) rfl rfl rfl) ?_
   refine Ops.h (ns := []) rfl rfl (Y39 (k := Y9f) (ys := [(Option.getD (mget p0.after e13) ([] : List Y91))]) Ybw (.one rfl One.im rfl rfl .nil) rfl rfl rfl) ?_
   rintro _ _ ⟨b15, rfl, rfl⟩
   refine ob' h fun u17 c16 h => ?_
   refine Ops.h (ns := [1, 0]) rfl rfl (Y2s Ybw rfl rfl (of_decide_eq_true (Y3t c16)) (Y3w (by decide) c16) rfl) ?_
   rintro _ _ ⟨v18, rfl, rfl⟩
   exact go
  exact go
 rintro ⟨l20, v19⟩ h
 replace h : Zgg l20 = some r := h
 unfold Zgg at h
 refine zw ?_
 refine AW.ret ?_
 rw [← Option.some.inj h]
 exact ⟨[C.val v19], _, Y21.refl _, (.cons (.tmp rfl) .nil), [0], _, _, rfl, ⟨v19, rfl, rfl⟩⟩
instance Zgj' (p0 : Y94) (p1 : List Int) : Sp Tryz.prog 143 [C.ip [C.int p0.graph.room, C.im Y96 9 p0.graph.events, C.im Y96 9 p0.graph.parked, C.imap .i64 Y9j p0.depth, C.imap .i64 Y9k p0.before, C.imap .i64 Y9k p0.after, C.imap .i64 Y9j p0.refused], C.im kI64 1 p1] (Zgi p0 p1) (fun r => C.im Y9f 1 r) := ⟨fun r h => Ok.freeze (Zgj p0 p1 r h) (by rintro c qs ⟨v21, rfl, rfl⟩; exact Frz.arr)⟩

def Zgk (l205 : List Y91) : Option (List Y91) := some l205
def Zgl (x194 : Int) (l204 : List Y91) : Option ((List Y91 × Int) ⊕ ((List Y91))) := some (.inl (l204, (IntKind.i64.wrap (x194 + 1))))
def Zgm (p0 : Y94) (r176 : List Y8w) (l193 : List Y91) (x194 : Int) : Option ((List Y91 × Int) ⊕ ((List Y91))) := cond (decide (x194 < (r176.length : Int))) ((getI r176 x194).bind fun e196 => (Zda p0.graph l193 e196).bind fun r199 => cond (r199 == 0) ((Zdj l193 (Y91.mk e196.kind e196.key e196.id)).bind fun r202 => Zgl x194 r202) (Zgl x194 l193)) (some (.inr l193))
def Zgn (p0 : Y94) (l37 : List Y91) (l175 : List Y8w) : Option (List Y91) := (Y7w (fun z1 z2 => Zdt z1 z2 p0) l175).bind fun r176 => (iter (fun z206 => Zgm p0 r176 z206.1 z206.2) big (l37, 0)).bind fun y207 => Zgk y207
def Zgo (x113 : Int) (l172 : List Y8w) (m173 : List (Int × Bool)) : Option ((List Y8w × (List (Int × Bool)) × Int) ⊕ ((List Y8w))) := some (.inl (l172, m173, (IntKind.i64.wrap (x113 + 1))))
def Zgp (x145 : Int) (l169 : List Y8w) (m170 : List (Int × Bool)) : Option ((List Y8w × (List (Int × Bool)) × Int) ⊕ ((List Y8w × (List (Int × Bool))))) := some (.inl (l169, m170, (IntKind.i64.wrap (x145 + 1))))
def Zgq (l143 : List Y8w) (m144 : List (Int × Bool)) (x145 : Int) (e147 : Y91) (x155 : Int) (x156 : Int) (x157 : Int) (x158 : Int) (x159 : Int) (x160 : Int) (x161 : ByteArray) (l162 : List Int) (x163 : Int) : Option ((List Y8w × (List (Int × Bool)) × Int) ⊕ ((List Y8w × (List (Int × Bool))))) := (chk (decide ((l143.length + [(Y8w.mk x155 x156 x157 x158 x159 x160 x161 l162 x163)].length) * 96 ≤ 140737488355328))).bind fun u166 => Zgp x145 (l143 ++ [(Y8w.mk x155 x156 x157 x158 x159 x160 x161 l162 x163)]) (mset m144 e147.id true)
def Zgr (p0 : Y94) (e115 : List Y91) (l143 : List Y8w) (m144 : List (Int × Bool)) (x145 : Int) : Option ((List Y8w × (List (Int × Bool)) × Int) ⊕ ((List Y8w × (List (Int × Bool))))) := cond (decide (x145 < (e115.length : Int))) ((getI e115 x145).bind fun e147 => cond (Option.getD (mget m144 e147.id) false) (Zgp x145 l143 m144) ((Zbs p0.graph e147.id).bind fun r151 => Zgq l143 m144 x145 e147 r151.1.id r151.1.room r151.1.author r151.1.kind r151.1.key r151.1.n r151.1.text r151.1.prev r151.1.time)) (some (.inr (l143, m144)))
def Zgs (p0 : Y94) (p1 : List (List Y91)) (l111 : List Y8w) (m112 : List (Int × Bool)) (x113 : Int) : Option ((List Y8w × (List (Int × Bool)) × Int) ⊕ ((List Y8w))) := cond (decide (x113 < (p1.length : Int))) ((getI p1 x113).bind fun e115 => (iter (fun z208 => Zgr p0 e115 z208.1 z208.2.1 z208.2.2) big (l111, m112, 0)).bind fun (y209, y210) => Zgo x113 y209 y210) (some (.inr l111))
def Zgt (p0 : Y94) (p1 : List (List Y91)) (l37 : List Y91) (m49 : List (Int × Bool)) : Option (List Y91) := (iter (fun z211 => Zgs p0 p1 z211.1 z211.2.1 z211.2.2) big (([] : List Y8w), m49, 0)).bind fun y212 => Zgn p0 l37 y212
def Zgu (l37 : List Y91) (m43 : List (Int × Bool)) (x44 : Int) : Option (((List (Int × Bool)) × Int) ⊕ ((List (Int × Bool)))) := cond (decide (x44 < (l37.length : Int))) ((getI l37 x44).bind fun e46 => some (.inl ((mset m43 e46.id true), (IntKind.i64.wrap (x44 + 1))))) (some (.inr m43))
def Zgv (p0 : Y94) (p1 : List (List Y91)) (l37 : List Y91) : Option (List Y91) := (iter (fun z213 => Zgu l37 z213.1 z213.2) big (([] : List (Int × Bool)), 0)).bind fun y214 => Zgt p0 p1 l37 y214
def Zgw (x22 : Int) (l35 : List Y91) : Option ((List Y91 × Int) ⊕ ((List Y91))) := some (.inl (l35, (IntKind.i64.wrap (x22 + 1))))
def Zgx (p1 : List (List Y91)) (e5 : List Y91) (l21 : List Y91) (x22 : Int) : Option ((List Y91 × Int) ⊕ ((List Y91))) := cond (decide (x22 < (e5.length : Int))) ((getI e5 x22).bind fun e24 => (Zdr p1 e24).bind fun r27 => cond r27 (Zgw x22 l21) ((chk (decide ((l21.length + [e24].length) * 24 ≤ 140737488355328))).bind fun u32 => Zgw x22 (l21 ++ [e24]))) (some (.inr l21))
def Zgy (p0 : Y94) (p1 : List (List Y91)) : Option (List Y91) := cond (decide ((p1.length : Int) > 0)) ((getI p1 0).bind fun e5 => (iter (fun z215 => Zgx p1 e5 z215.1 z215.2) big (([] : List Y91), 0)).bind fun y216 => Zgv p0 p1 y216) (Zgv p0 p1 ([] : List Y91))
set_option maxHeartbeats 1000000 in
instance Zgz (p0 : Y94) (p1 : List (List Y91)) : Sp Tryz.prog 142 [C.ip [C.int p0.graph.room, C.im Y96 9 p0.graph.events, C.im Y96 9 p0.graph.parked, C.imap .i64 Y9j p0.depth, C.imap .i64 Y9k p0.before, C.imap .i64 Y9k p0.after, C.imap .i64 Y9j p0.refused], C.im Y9f 1 p1] (Zgy p0 p1) (fun r => C.im Y9e 3 r) := sp Tryz.func142 rfl rfl fun r X h => by
 unfold Zgy at h
 refine zw ?_
 refine Ops.h (ns := []) rfl rfl (Y1q rfl One.ip rfl) ?_
 rintro _ _ ⟨b1, rfl, rfl⟩
 refine zw ?_
 refine Ops.h (ns := []) rfl rfl (Y39 (k := Y9e) (ys := ([] : List Y91)) Ybl .nil rfl rfl rfl) ?_
 rintro _ _ ⟨b2, rfl, rfl⟩
 refine Ops.h (ns := []) rfl rfl (Y39 (k := Y96) (ys := ([] : List Y8w)) Yam .nil rfl rfl rfl) ?_
 rintro _ _ ⟨b3, rfl, rfl⟩
 refine Ops.v rfl (Yr rfl rfl) ?_
 refine Ops.v rfl (Yr rfl rfl) ?_
 refine Ops.nil ?_
 refine AW.seq ?_
 refine AW.cut (τ := List Y91 × Value) (fun (l37, v36) => ⟨[(1, C.im Y9f 1 p1), (2, pt b1), (5, C.val v36), (6, C.val (sv b3 0 0))], [Obj.box b1 186 [C.ip [C.int p0.graph.room, C.im Y96 9 p0.graph.events, C.im Y96 9 p0.graph.parked, C.imap .i64 Y9j p0.depth, C.imap .i64 Y9k p0.before, C.imap .i64 Y9k p0.after, C.imap .i64 Y9j p0.refused]], Obj.arr v36 106 Y9e 3 l37, Obj.arr (sv b3 0 0) 136 Y96 9 ([] : List Y8w)]⟩) (fun (l37, v36) => Zgv p0 p1 l37 = some r) ?_ ?_
 ·
  refine zw ?_
  refine cnd h (fun hb4 h => ?_) fun hb4 h => ?_
  ·
   refine AW.ct hb4 rfl ?_
   refine zw ?_
   refine oi h fun e5 g6 h => ?_
   refine zw ?_
   refine AW.lp h (fun (l21, x22) (v20 : Value) => ⟨[(1, C.im Y9f 1 p1), (2, pt b1), (5, C.val v20), (6, C.val (sv b3 0 0)), (27, C.im Y9e 3 e5), (28, C.int (e5.length : Int)), (29, C.int x22)], [Obj.box b1 186 [C.ip [C.int p0.graph.room, C.im Y96 9 p0.graph.events, C.im Y96 9 p0.graph.parked, C.imap .i64 Y9j p0.depth, C.imap .i64 Y9k p0.before, C.imap .i64 Y9k p0.after, C.imap .i64 Y9j p0.refused]], Obj.arr v20 106 Y9e 3 l21, Obj.arr (sv b3 0 0) 136 Y96 9 ([] : List Y8w)]⟩) (gb [2, 1, 0]) ?_
   rintro ⟨l21, x22⟩ v20 y250 h
   refine zw ?_
   refine cnd h (fun hb23 h => ?_) fun hb23 h => ?_
   ·
    refine AW.ct hb23 rfl ?_
    refine zw ?_
    refine oi h fun e24 g25 h => ?_
    refine zw ?_
    refine Ops.h (ns := []) rfl rfl (Y1p (cs := [C.int 0, C.int 0, C.int 0]) Ybs (Y42 rfl rfl) rfl) ?_
    rintro _ _ ⟨b26, rfl, rfl⟩
    refine Ops.hd (ns := [0]) rfl rfl (Y1u (gs := [C.int e24.kind, C.int e24.key, C.int e24.id]) Ybm.h rfl rfl rfl rfl rfl) ?_
    refine zw ?_
    refine Ops.v rfl (Y6q rfl rfl) ?_
    refine ob' h fun r27 g28 h => ?_
    refine Ops.hd (ns := [0]) rfl rfl (Y24 (Zds p1 e24 _ g28) rfl rfl) ?_
    refine zw ?_
    refine cnd h (fun hb29 h => go) fun hb29 h => ?_
    refine AW.cond rfl (fun _ => ?_) (fun hn => absurd ((Y3v hb29).symm.trans hn) (by decide))
    refine zw ?_
    refine Ops.h (ns := []) rfl rfl (Y39 (k := Y9e) (ys := [e24]) Ybl (.agg rfl rfl .nil) rfl rfl rfl) ?_
    rintro _ _ ⟨b30, rfl, rfl⟩
    refine ob' h fun u32 c31 h => ?_
    refine Ops.h (ns := [3, 0]) rfl rfl (Y2s Ybl rfl rfl (of_decide_eq_true (Y3t c31)) (Y3w (by decide) c31) rfl) ?_
    rintro _ _ ⟨v33, rfl, rfl⟩
    exact go
   exact go
  refine AW.cf hb4 rfl ?_
  refine zw ?_
  exact ⟨(([] : List Y91), (sv b2 0 0)), h, Y21.both (ns := [2, 1, 0]) rfl rfl⟩
 rintro ⟨l37, v36⟩ h
 replace h : Zgv p0 p1 l37 = some r := h
 unfold Zgv at h
 refine zw ?_
 refine Ops.h (ns := []) rfl rfl (Y6j (kd := .i64) (kc := Y9l) rfl) ?_
 rintro _ _ ⟨b38, rfl, rfl⟩
 refine Ops.v rfl (Yr rfl rfl) ?_
 refine Ops.nil ?_
 refine AW.seq ?_
 refine AW.cut (τ := (List (Int × Bool))) (fun m49 => ⟨[(1, C.im Y9f 1 p1), (2, pt b1), (5, C.val v36), (6, C.val (sv b3 0 0)), (9, mt b38)], [Obj.box b1 186 [C.ip [C.int p0.graph.room, C.im Y96 9 p0.graph.events, C.im Y96 9 p0.graph.parked, C.imap .i64 Y9j p0.depth, C.imap .i64 Y9k p0.before, C.imap .i64 Y9k p0.after, C.imap .i64 Y9j p0.refused]], Obj.arr v36 106 Y9e 3 l37, Obj.arr (sv b3 0 0) 136 Y96 9 ([] : List Y8w), Abs.Obj.map b38 .i64 Y9l m49]⟩) (fun m49 => Zgt p0 p1 l37 m49 = some r) ?_ ?_
 ·
  refine AW.seq ?_
  refine AW.region ?_
  refine Ops.v rfl (Yq rfl rfl) ?_
  refine Ops.v rfl (Y2u (p := 2) Ybf.h rfl rfl rfl) ?_
  refine zw ?_
  refine AW.lp (v := ()) h (fun (m43, x44) (_ : Unit) => ⟨[(1, C.im Y9f 1 p1), (2, pt b1), (5, C.val v36), (6, C.val (sv b3 0 0)), (9, mt b38), (43, C.val v36), (44, C.int (l37.length : Int)), (45, C.int x44)], [Obj.box b1 186 [C.ip [C.int p0.graph.room, C.im Y96 9 p0.graph.events, C.im Y96 9 p0.graph.parked, C.imap .i64 Y9j p0.depth, C.imap .i64 Y9k p0.before, C.imap .i64 Y9k p0.after, C.imap .i64 Y9j p0.refused]], Obj.arr v36 106 Y9e 3 l37, Obj.arr (sv b3 0 0) 136 Y96 9 ([] : List Y8w), Abs.Obj.map b38 .i64 Y9l m43]⟩) (gb [1, 1, 1, 0]) ?_
  rintro ⟨m43, x44⟩ _ y243 h
  refine zw ?_
  refine cnd h (fun hb45 h => ?_) fun hb45 h => ?_
  ·
   refine AW.ct hb45 rfl ?_
   refine zw ?_
   refine ob' h fun e46 g47 h => ?_
   refine Ops.v rfl (Y2x (p := 1) Ybf.h rfl rfl rfl g47 rfl) ?_
   refine Ops.v rfl (Y31 (p := 1) Ybm.h rfl rfl (Y29 g47).2.2 rfl rfl rfl) ?_
   refine Ops.h (ns := []) rfl rfl (Y1p (cs := [C.int 0, C.int 0, C.int 0]) Ybs (Y42 rfl rfl) rfl) ?_
   rintro _ _ ⟨b48, rfl, rfl⟩
   refine Ops.hd (ns := [0]) rfl rfl (Y1u (gs := [C.int e46.kind, C.int e46.key, C.int e46.id]) Ybm.h rfl rfl rfl rfl rfl) ?_
   refine zw ?_
   refine Ops.hd (ns := [4]) rfl rfl (Y6m (kc := Y9l) (v := true) Ycs rfl rfl rfl rfl) ?_
   refine zw ?_
   exact lu h (gb [2, 2, 2, 0])
  refine AW.cf hb45 rfl ?_
  refine AW.exit ?_
  refine lx h fun h => ?_
  exact ⟨m43, h, Y21.both (ns := [0, 0, 0, 0]) rfl rfl⟩
 intro m49 h
 replace h : Zgt p0 p1 l37 m49 = some r := h
 unfold Zgt at h
 refine AW.seq ?_
 refine AW.cut (τ := List Y8w × Value) (fun (l175, v174) => ⟨[(2, pt b1), (5, C.val v36), (6, C.val v174)], [Obj.box b1 186 [C.ip [C.int p0.graph.room, C.im Y96 9 p0.graph.events, C.im Y96 9 p0.graph.parked, C.imap .i64 Y9j p0.depth, C.imap .i64 Y9k p0.before, C.imap .i64 Y9k p0.after, C.imap .i64 Y9j p0.refused]], Obj.arr v36 106 Y9e 3 l37, Obj.arr v174 136 Y96 9 l175]⟩) (fun (l175, v174) => Zgn p0 l37 l175 = some r) ?_ ?_
 ·
  refine zw ?_
  refine AW.lp h (fun (l111, m112, x113) (v110 : Value) => ⟨[(2, pt b1), (5, C.val v36), (6, C.val v110), (9, mt b38), (53, C.im Y9f 1 p1), (54, C.int (p1.length : Int)), (55, C.int x113)], [Obj.box b1 186 [C.ip [C.int p0.graph.room, C.im Y96 9 p0.graph.events, C.im Y96 9 p0.graph.parked, C.imap .i64 Y9j p0.depth, C.imap .i64 Y9k p0.before, C.imap .i64 Y9k p0.after, C.imap .i64 Y9j p0.refused]], Obj.arr v36 106 Y9e 3 l37, Obj.arr v110 136 Y96 9 l111, Abs.Obj.map b38 .i64 Y9l m112]⟩) (gb [0, 0, 0, 0]) ?_
  rintro ⟨l111, m112, x113⟩ v110 y229 h
  refine zw ?_
  refine cnd h (fun hb114 h => ?_) fun hb114 h => ?_
  ·
   refine AW.ct hb114 rfl ?_
   refine AW.skip ?_
   refine AW.seq ?_
   refine AW.cut (τ := List Y8w × (List (Int × Bool)) × Value) (fun (l172, m173, v171) => ⟨[(2, pt b1), (5, C.val v36), (6, C.val v171), (9, mt b38), (53, C.im Y9f 1 p1), (54, C.int (p1.length : Int)), (55, C.int x113)], [Obj.box b1 186 [C.ip [C.int p0.graph.room, C.im Y96 9 p0.graph.events, C.im Y96 9 p0.graph.parked, C.imap .i64 Y9j p0.depth, C.imap .i64 Y9k p0.before, C.imap .i64 Y9k p0.after, C.imap .i64 Y9j p0.refused]], Obj.arr v36 106 Y9e 3 l37, Obj.arr v171 136 Y96 9 l172, Abs.Obj.map b38 .i64 Y9l m173]⟩) (fun (l172, m173, v171) => Zgo x113 l172 m173 = some y229) ?_ ?_
   ·
    refine zw ?_
    refine oi h fun e115 g116 h => ?_
    refine zw ?_
    refine AW.lp h (fun (l143, m144, x145) (v142 : Value) => ⟨[(2, pt b1), (5, C.val v36), (6, C.val v142), (9, mt b38), (53, C.im Y9f 1 p1), (54, C.int (p1.length : Int)), (55, C.int x113), (59, C.im Y9e 3 e115), (60, C.int (e115.length : Int)), (61, C.int x145)], [Obj.box b1 186 [C.ip [C.int p0.graph.room, C.im Y96 9 p0.graph.events, C.im Y96 9 p0.graph.parked, C.imap .i64 Y9j p0.depth, C.imap .i64 Y9k p0.before, C.imap .i64 Y9k p0.after, C.imap .i64 Y9j p0.refused]], Obj.arr v36 106 Y9e 3 l37, Obj.arr v142 136 Y96 9 l143, Abs.Obj.map b38 .i64 Y9l m144]⟩) (gb [0, 0, 0, 0]) ?_
    rintro ⟨l143, m144, x145⟩ v142 y236 h
    refine zw ?_
    refine cnd h (fun hb146 h => ?_) fun hb146 h => ?_
    ·
     refine AW.ct hb146 rfl ?_
     refine AW.skip ?_
     refine AW.seq ?_
     refine AW.cut (τ := List Y8w × (List (Int × Bool)) × Value) (fun (l169, m170, v168) => ⟨[(2, pt b1), (5, C.val v36), (6, C.val v168), (9, mt b38), (53, C.im Y9f 1 p1), (54, C.int (p1.length : Int)), (55, C.int x113), (59, C.im Y9e 3 e115), (60, C.int (e115.length : Int)), (61, C.int x145)], [Obj.box b1 186 [C.ip [C.int p0.graph.room, C.im Y96 9 p0.graph.events, C.im Y96 9 p0.graph.parked, C.imap .i64 Y9j p0.depth, C.imap .i64 Y9k p0.before, C.imap .i64 Y9k p0.after, C.imap .i64 Y9j p0.refused]], Obj.arr v36 106 Y9e 3 l37, Obj.arr v168 136 Y96 9 l169, Abs.Obj.map b38 .i64 Y9l m170]⟩) (fun (l169, m170, v168) => Zgp x145 l169 m170 = some y236) ?_ ?_
     ·
      refine zw ?_
      refine oi h fun e147 g148 h => ?_
      refine zw ?_
      refine Ops.h (ns := []) rfl rfl (Y1p (cs := [C.int 0, C.int 0, C.int 0]) Ybs (Y42 rfl rfl) rfl) ?_
      rintro _ _ ⟨b149, rfl, rfl⟩
      refine Ops.hd (ns := [0]) rfl rfl (Y1u (gs := [C.int e147.kind, C.int e147.key, C.int e147.id]) Ybm.h rfl rfl rfl rfl rfl) ?_
      refine zw ?_
      refine Ops.v rfl (Y6l (p := 4) (kc := Y9l) (z0 := false) Ycs zv_4 (fun _ _ => rfl) rfl rfl rfl rfl) ?_
      refine zw ?_
      refine cnd h (fun hb150 h => ?_) fun hb150 h => ?_
      ·
       refine AW.cond rfl (fun hn => absurd ((Y3u hb150).symm.trans hn) (by decide)) (fun _ => ?_)
       refine zw ?_
       exact ⟨(l143, m144, v142), h, Y21.both (ns := [1, 1, 1, 1]) rfl rfl⟩
      refine AW.cond rfl (fun _ => ?_) (fun hn => absurd ((Y3v hb150).symm.trans hn) (by decide))
      refine zw ?_
      refine Ops.hd (ns := [4]) rfl rfl (Y6m (kc := Y9l) (v := true) Ycs rfl rfl rfl rfl) ?_
      refine Ops.nil ?_
      refine AW.seq ?_
      refine AW.cut (τ := Int × Int × Int × Int × Int × Int × ByteArray × List Int × Int × Nat) (fun (x155, x156, x157, x158, x159, x160, x161, l162, x163, b154) => ⟨[(2, pt b1), (5, C.val v36), (6, C.val v142), (9, mt b38), (16, pt b154), (53, C.im Y9f 1 p1), (54, C.int (p1.length : Int)), (55, C.int x113), (59, C.im Y9e 3 e115), (60, C.int (e115.length : Int)), (61, C.int x145)], [Obj.box b1 186 [C.ip [C.int p0.graph.room, C.im Y96 9 p0.graph.events, C.im Y96 9 p0.graph.parked, C.imap .i64 Y9j p0.depth, C.imap .i64 Y9k p0.before, C.imap .i64 Y9k p0.after, C.imap .i64 Y9j p0.refused]], Obj.arr v36 106 Y9e 3 l37, Obj.arr v142 136 Y96 9 l143, Abs.Obj.map b38 .i64 Y9l (mset m144 e147.id true), Obj.box b154 136 [C.int x155, C.int x156, C.int x157, C.int x158, C.int x159, C.int x160, C.str x161, C.im kI64 1 l162, C.int x163]]⟩) (fun (x155, x156, x157, x158, x159, x160, x161, l162, x163, b154) => Zgq l143 m144 x145 e147 x155 x156 x157 x158 x159 x160 x161 l162 x163 = some y236) ?_ ?_
      ·
       refine AW.regionD (L := [0, 3, 5]) (Lt := [11]) (k := .light 0 true (.light 1 false (.light 2 false (.light 3 true (.light 4 false (.light 5 true (.two 6 10 (.light 7 false (.light 8 false (.light 9 false (.one 10 (.late 11 (.light 12 false .done)))))) (.one 6 (.light 7 false (.light 8 false (.light 9 false (.late 11 (.light 12 false .done))))))))))))) (ns := [0, 0, 0, 0, 0]) (by kernel_rfl) (by kernel_rfl) (by kernel_rfl) (by kernel_rfl) rfl ?_
       refine zw ?_
       refine ob' h fun r151 g152 h => ?_
       refine OpsD.two ?_ ?_
       ·
        refine Y3n.h (ns := []) rfl rfl rfl (Y24 ((Zbt _ _).h _ g152) rfl rfl) ?_
        rintro _ _ ⟨rfl, rfl⟩
        refine OpsD.v rfl rfl (Yq rfl rfl) ?_
        refine OpsD.v rfl rfl (Y13 rfl rfl rfl) ?_
        refine OpsD.v rfl rfl (Y13 rfl rfl rfl) ?_
        refine OpsD.one ?_
        refine Y3n.h (ns := []) rfl rfl rfl (Y1p (cs := [C.int 0, C.int 0, C.int 0, C.int 0, C.int 0, C.int 0, C.str ByteArray.empty, C.val s0, C.int 0]) Ya4 (Y42 rfl rfl) rfl) ?_
        rintro _ _ ⟨b153, rfl, rfl⟩
        refine OpsD.late (ns := [5]) rfl rfl rfl (Y1u (gs := [C.int r151.1.id, C.int r151.1.room, C.int r151.1.author, C.int r151.1.kind, C.int r151.1.key, C.int r151.1.n, C.str r151.1.text, C.im kI64 1 r151.1.prev, C.int r151.1.time]) Yal.h rfl rfl rfl rfl rfl) ?_
        rintro _ _ ⟨rfl, rfl⟩
        refine zw ?_
        exact ⟨(r151.1.id, r151.1.room, r151.1.author, r151.1.kind, r151.1.key, r151.1.n, r151.1.text, r151.1.prev, r151.1.time, b153), h, Y21.both (ns := [3, 3, 3, 1, 0]) rfl rfl⟩
       refine Y3n.h (ns := []) rfl rfl rfl (Y1p (cs := [C.int 0, C.int 0, C.int 0, C.int 0, C.int 0, C.int 0, C.str ByteArray.empty, C.val s0, C.int 0]) Ya4 (Y42 rfl rfl) rfl) ?_
       rintro _ _ ⟨b153, rfl, rfl⟩
       refine OpsD.one ?_
       refine Y3n.h (ns := []) rfl rfl rfl (Y24 ((Zbt _ _).h _ g152) rfl rfl) ?_
       rintro _ _ ⟨rfl, rfl⟩
       refine zw ?_
       refine OpsD.late (ns := [5]) rfl rfl rfl (Y1u (gs := [C.int r151.1.id, C.int r151.1.room, C.int r151.1.author, C.int r151.1.kind, C.int r151.1.key, C.int r151.1.n, C.str r151.1.text, C.im kI64 1 r151.1.prev, C.int r151.1.time]) Yal.h rfl rfl rfl rfl rfl) ?_
       rintro _ _ ⟨rfl, rfl⟩
       refine zw ?_
       exact ⟨(r151.1.id, r151.1.room, r151.1.author, r151.1.kind, r151.1.key, r151.1.n, r151.1.text, r151.1.prev, r151.1.time, b153), h, Y21.both (ns := [3, 3, 3, 1, 0]) rfl rfl⟩
      rintro ⟨x155, x156, x157, x158, x159, x160, x161, l162, x163, b154⟩ h
      replace h : Zgq l143 m144 x145 e147 x155 x156 x157 x158 x159 x160 x161 l162 x163 = some y236 := h
      unfold Zgq at h
      refine AW.region ?_
      refine Ops.v rfl (Yq rfl rfl) ?_
      refine Ops.v rfl (Y1l (p := 4) (ds := [C.int x155, C.int x156, C.int x157, C.int x158, C.int x159, C.int x160, C.str x161, C.im kI64 1 l162, C.int x163]) Yal.h rfl rfl rfl rfl rfl) ?_
      refine Ops.h (ns := []) rfl rfl (Y39 (k := Y96) (ys := [(Y8w.mk x155 x156 x157 x158 x159 x160 x161 l162 x163)]) Yam (.agg rfl rfl .nil) rfl rfl rfl) ?_
      rintro _ _ ⟨b164, rfl, rfl⟩
      refine ob' h fun u166 c165 h => ?_
      refine Ops.h (ns := [3, 0]) rfl rfl (Y2s Yam rfl rfl (of_decide_eq_true (Y3t c165)) (Y3w (by decide) c165) rfl) ?_
      rintro _ _ ⟨v167, rfl, rfl⟩
      refine zw ?_
      exact ⟨((l143 ++ [(Y8w.mk x155 x156 x157 x158 x159 x160 x161 l162 x163)]), (mset m144 e147.id true), v167), h, Y21.both (ns := [1, 1, 0, 0]) rfl rfl⟩
     rintro ⟨l169, m170, v168⟩ h
     replace h : Zgp x145 l169 m170 = some y236 := h
     unfold Zgp at h
     refine zw ?_
     exact le h (gb [0, 0, 0, 0])
    refine AW.cf hb146 rfl ?_
    refine AW.exit ?_
    refine lx h fun h => ?_
    exact ⟨(l143, m144, v142), h, Y21.both (ns := [0, 0, 0, 0]) rfl rfl⟩
   rintro ⟨l172, m173, v171⟩ h
   replace h : Zgo x113 l172 m173 = some y229 := h
   unfold Zgo at h
   refine zw ?_
   exact le h (gb [0, 0, 0, 0])
  exact go
 rintro ⟨l175, v174⟩ h
 replace h : Zgn p0 l37 l175 = some r := h
 unfold Zgn at h
 refine zw ?_
 refine Ops.v rfl (Y6q rfl rfl) ?_
 refine ob' h fun r176 g177 h => ?_
 refine Ops.hd (ns := [2, 0]) rfl rfl (Y87 (k := Y96) Y8u rfl rfl (Y86.clo rfl) (FrzT.cons (os := [_]) (Frz.box (FrzL.cons (os := []) (Frz.same _) FrzL.nil)) FrzT.nil) (fun z1 z2 r_ h_ => (Zdu z1 z2 p0).h r_ h_) g177 rfl) ?_
 refine zw ?_
 refine AW.lp (v := ()) h (fun (l193, x194) (_ : Unit) => ⟨[(2, pt b1), (5, C.im Y9e 3 l193), (92, C.val v174), (93, C.int (r176.length : Int)), (94, C.int x194)], [Obj.box b1 186 [C.ip [C.int p0.graph.room, C.im Y96 9 p0.graph.events, C.im Y96 9 p0.graph.parked, C.imap .i64 Y9j p0.depth, C.imap .i64 Y9k p0.before, C.imap .i64 Y9k p0.after, C.imap .i64 Y9j p0.refused]], Obj.arr v174 136 Y96 9 r176]⟩) ((Y21.freeze (p := 2) (t := 5) rfl rfl).trans (Y21.both (ns := [1, 0]) rfl rfl)) ?_
 rintro ⟨l193, x194⟩ _ y222 h
 refine zw ?_
 refine cnd h (fun hb195 h => ?_) fun hb195 h => ?_
 ·
  refine AW.ct hb195 rfl ?_
  refine zw ?_
  refine ob' h fun e196 g197 h => ?_
  refine Ops.v rfl (Y2x (p := 1) Yap.h rfl rfl rfl g197 rfl) ?_
  refine Ops.v rfl (Y31 (p := 1) Yal.h rfl rfl (Y29 g197).2.2 rfl rfl rfl) ?_
  refine Ops.h (ns := []) rfl rfl (Y1p (cs := [C.int 0, C.int 0, C.int 0, C.int 0, C.int 0, C.int 0, C.str ByteArray.empty, C.val s0, C.int 0]) Ya4 (Y42 rfl rfl) rfl) ?_
  rintro _ _ ⟨b198, rfl, rfl⟩
  refine Ops.hd (ns := [0]) rfl rfl (Y1u (gs := [C.int e196.id, C.int e196.room, C.int e196.author, C.int e196.kind, C.int e196.key, C.int e196.n, C.str e196.text, C.im kI64 1 e196.prev, C.int e196.time]) Yal.h rfl rfl rfl rfl rfl) ?_
  refine zw ?_
  refine AW.regionD (L := [0, 3, 5]) (Lt := []) (k := dec [1,3,6,10,12,16,20,21]) (ns := [0, 0, 0]) (by kernel_rfl) (by kernel_rfl) (by kernel_rfl) (by kernel_rfl) rfl ?_
  refine zw ?_
  refine dc h fun r199 g200 h => ?_
  refine zw ?_
  refine cnd h (fun hb201 h => ?_) fun hb201 h => ?_
  ·
   refine AW.ct hb201 rfl ?_
   refine zw ?_
   refine Ops.v rfl (Y38 (ds := [C.int e196.kind, C.int e196.key, C.int e196.id]) Ybr Ybs (Y42 rfl rfl) (.one rfl (One.val rfl) rfl rfl (.one rfl (One.val rfl) rfl rfl (.one rfl (One.val rfl) rfl rfl .nil))) rfl) ?_
   exact go
  exact go
 exact go

def Zh0 (p0 : Y94) : Option (List Y91) := (Zge p0).bind fun r1 => (Zgi p0 r1).bind fun r3 => (Zgy p0 r3).bind fun r5 => some r5
instance Zh1 (p0 : Y94) : Sp Tryz.prog 223 [C.ip [C.int p0.graph.room, C.im Y96 9 p0.graph.events, C.im Y96 9 p0.graph.parked, C.imap .i64 Y9j p0.depth, C.imap .i64 Y9k p0.before, C.imap .i64 Y9k p0.after, C.imap .i64 Y9j p0.refused]] (Zh0 p0) (fun r => C.im Y9e 3 r) := sp Tryz.func223 rfl rfl fun r X h => go

def Zh2 (p0 : Y95) (p1 : Int) (p2 : Int) : Option Int := (Zfm p0.hub.stream (Y8y.mk p1 p2)).bind fun r1 => some (IntKind.i64.wrap (r1 + 1))
instance Zh3 (p0 : Y95) (p1 : Int) (p2 : Int) : Sp Tryz.prog 111 [C.ip [C.im Y9b 3 p0.hub.rooms, C.im Y98 2 p0.hub.stream, C.im Y9m 1 p0.rooms], C.int p1, C.int p2] (Zh2 p0 p1 p2) C.int := sp Tryz.func111 rfl rfl fun r X h => by
 unfold Zh2 at h
 refine zw ?_
 refine Ops.v rfl (Y38 (ds := [C.int p1, C.int p2]) Ydc Yb0 (Y42 rfl rfl) (.one rfl (One.val rfl) rfl rfl (.one rfl (One.val rfl) rfl rfl .nil)) rfl) ?_
 exact go

def Zh4 (p0 : Y95) (p1 : Int) : Option Y94 := (getI p0.rooms (IntKind.i64.wrap (p1 - 1))).bind fun e1 => some e1
instance Zh5 (p0 : Y95) (p1 : Int) : Sp Tryz.prog 138 [C.ip [C.im Y9b 3 p0.hub.rooms, C.im Y98 2 p0.hub.stream, C.im Y9m 1 p0.rooms], C.int p1] (Zh4 p0 p1) (fun r => C.ip [C.int r.graph.room, C.im Y96 9 r.graph.events, C.im Y96 9 r.graph.parked, C.imap .i64 Y9j r.depth, C.imap .i64 Y9k r.before, C.imap .i64 Y9k r.after, C.imap .i64 Y9j r.refused]) := sp Tryz.func138 rfl rfl fun r X h => go

def Zh6 (p0 : Y95) (p1 : Int) (p2 : Int) : Option Bool := (Zh4 p0 p2).bind fun r1 => (Zh0 r1).bind fun r3 => (Zco r1.graph r3 p1).bind fun r5 => some (r5 == 1)
instance Zh7 (p0 : Y95) (p1 : Int) (p2 : Int) : Sp Tryz.prog 165 [C.ip [C.im Y9b 3 p0.hub.rooms, C.im Y98 2 p0.hub.stream, C.im Y9m 1 p0.rooms], C.int p1, C.int p2] (Zh6 p0 p1 p2) C.bool := sp Tryz.func165 rfl rfl fun r X h => by
 unfold Zh6 at h
 refine zw ?_
 refine oc h fun r1 g2 h => ?_
 refine zw ?_
 refine AW.regionD (L := [3]) (Lt := []) (k := dec [0,3,6,10,12,18,17,23,24,27]) (ns := []) (by kernel_rfl) (by kernel_rfl) (by kernel_rfl) (by kernel_rfl) rfl ?_
 exact go

def Zh8 (x23 : Bool) : Option Bool := some x23
def Zh9 (p0 : Y95) (p1 : Int) (p2 : Int) (p3 : Int) (r4 : Y94) (x16 : Bool) : Option Bool := cond x16 (some true) ((Zfo r4.graph (Option.getD (mget r4.after p3) ([] : List Y91))).bind fun r18 => cond (r18 == 2) ((Zh6 p0 p1 p2).bind fun r21 => Zh8 r21) (Zh8 false))
def Zha (p0 : Y95) (p1 : Int) (p2 : Int) (p3 : Int) : Option Bool := (Zh2 p0 p2 p3).bind fun r1 => cond (r1 == 0) (some false) ((Zh4 p0 p2).bind fun r4 => (Zbs r4.graph p3).bind fun r6 => (Zco r4.graph (Option.getD (mget r4.after p3) ([] : List Y91)) p1).bind fun r9 => cond (r9 == 1) (Zh9 p0 p1 p2 p3 r4 true) ((Zfo r4.graph (Option.getD (mget r4.after p3) ([] : List Y91))).bind fun r12 => cond (r12 == 1) (Zh9 p0 p1 p2 p3 r4 true) (cond (r6.1.kind == 2) (Zh9 p0 p1 p2 p3 r4 (r6.1.key == p1)) (Zh9 p0 p1 p2 p3 r4 false))))
set_option maxHeartbeats 1000000 in
instance Zhb (p0 : Y95) (p1 : Int) (p2 : Int) (p3 : Int) : Sp Tryz.prog 109 [C.ip [C.im Y9b 3 p0.hub.rooms, C.im Y98 2 p0.hub.stream, C.im Y9m 1 p0.rooms], C.int p1, C.int p2, C.int p3] (Zha p0 p1 p2 p3) C.bool := sp Tryz.func109 rfl rfl fun r X h => by
 unfold Zha at h
 refine zw ?_
 refine oc h fun r1 g2 h => ?_
 refine zw ?_
 refine cnd h (fun hb3 h => go) fun hb3 h => ?_
 refine AW.cf hb3 rfl ?_
 refine zw ?_
 refine oc h fun r4 g5 h => ?_
 refine zw ?_
 refine oc h fun r6 g7 h => ?_
 refine zw ?_
 refine Ops.h (ns := []) rfl rfl (Y1p (cs := [C.int 0, C.int 0, C.int 0, C.int 0, C.int 0, C.int 0, C.str ByteArray.empty, C.val s0, C.int 0]) Ya4 (Y42 rfl rfl) rfl) ?_
 rintro _ _ ⟨b8, rfl, rfl⟩
 refine Ops.hd (ns := [0]) rfl rfl (Y1u (gs := [C.int r6.1.id, C.int r6.1.room, C.int r6.1.author, C.int r6.1.kind, C.int r6.1.key, C.int r6.1.n, C.str r6.1.text, C.im kI64 1 r6.1.prev, C.int r6.1.time]) Yal.h rfl rfl rfl rfl rfl) ?_
 refine zw ?_
 refine Ops.v rfl (Y8a (kc := Y9k) (z0 := ([] : List Y91)) Ycp Ycq (fun w F => Imp.nil Y9e 3 w F _ rfl) rfl rfl rfl) ?_
 refine Ops.v rfl (Yr rfl rfl) ?_
 refine Ops.nil ?_
 refine AW.seq ?_
 refine AW.block ?_
 refine AW.seq ?_
 refine AW.cut (τ := Bool) (fun x16 => ⟨[(0, C.ip [C.im Y9b 3 p0.hub.rooms, C.im Y98 2 p0.hub.stream, C.im Y9m 1 p0.rooms]), (1, C.int p1), (2, C.int p2), (9, C.ip [C.int r4.graph.room, C.im Y96 9 r4.graph.events, C.im Y96 9 r4.graph.parked, C.imap .i64 Y9j r4.depth, C.imap .i64 Y9k r4.before, C.imap .i64 Y9k r4.after, C.imap .i64 Y9j r4.refused]), (12, C.im Y9e 3 (Option.getD (mget r4.after p3) ([] : List Y91))), (36, C.bool x16)], []⟩) (fun x16 => Zh9 p0 p1 p2 p3 r4 x16 = some r) ?_ ?_
 ·
  refine zw ?_
  refine oc h fun r9 g10 h => ?_
  refine zw ?_
  refine cnd h (fun hb11 h => go) fun hb11 h => ?_
  refine zw ?_
  refine ob' h fun r12 g13 h => ?_
  refine Ops.ghd (ns := []) rfl rfl rfl rfl hb11 rfl (Y24 ((Zfp _ _).h _ g13) rfl rfl) ?_
  exact go
 intro x16 h
 replace h : Zh9 p0 p1 p2 p3 r4 x16 = some r := h
 unfold Zh9 at h
 refine cnd h (fun hb17 h => go) fun hb17 h => ?_
 refine AW.cf hb17 rfl ?_
 refine zw ?_
 refine oc h fun r18 g19 h => ?_
 refine zw ?_
 refine cnd h (fun hb20 h => ?_) fun hb20 h => ?_
 ·
  refine zw ?_
  refine ob' h fun r21 g22 h => ?_
  refine Ops.ghd (ns := []) rfl rfl rfl rfl hb20 rfl (Y24 ((Zh7 _ _ _).h _ g22) rfl rfl) ?_
  exact go
 exact go

def Zhc (l42 : List Int) : Option (List Int) := some l42
def Zhd (x22 : Int) (l40 : List Int) : Option ((List Int × Int) ⊕ ((List Int))) := some (.inl (l40, (IntKind.i64.wrap (x22 + 1))))
def Zhe (l21 : List Int) (x22 : Int) (x33 : Bool) : Option ((List Int × Int) ⊕ ((List Int))) := cond x33 ((chk (decide ((l21.length + [(IntKind.i64.wrap (x22 + 1))].length) * 8 ≤ 140737488355328))).bind fun u37 => Zhd x22 (l21 ++ [(IntKind.i64.wrap (x22 + 1))])) (Zhd x22 l21)
def Zhf (p0 : Y95) (p1 : Int) (p2 : Int) (p3 : Int) (p4 : Int) (l21 : List Int) (x22 : Int) : Option ((List Int × Int) ⊕ ((List Int))) := cond (decide (x22 < (p0.hub.stream.length : Int))) ((getI p0.hub.stream x22).bind fun e24 => (Z7n (IntKind.i64.wrap (x22 + 1)) p3 p4).bind fun r27 => cond r27 (cond (e24.room == p2) ((Zha p0 p1 p2 e24.id).bind fun r31 => Zhe l21 x22 r31) (Zhe l21 x22 false)) (Zhe l21 x22 false)) (some (.inr l21))
def Zhg (p0 : Y95) (p1 : Int) (p2 : Int) (p3 : Int) (p4 : Int) : Option (List Int) := (iter (fun z44 => Zhf p0 p1 p2 p3 p4 z44.1 z44.2) big (([] : List Int), 0)).bind fun y45 => Zhc y45
set_option maxHeartbeats 1000000 in
theorem Zhh (p0 : Y95) (p1 : Int) (p2 : Int) (p3 : Int) (p4 : Int) (r : List Int) (h : Zhg p0 p1 p2 p3 p4 = some r) : Ok Tryz.prog 100 [C.ip [C.im Y9b 3 p0.hub.rooms, C.im Y98 2 p0.hub.stream, C.im Y9m 1 p0.rooms], C.int p1, C.int p2, C.int p3, C.int p4] [] (fun c qs => ∃ (v43 : Value), c = C.val v43 ∧ qs = [Obj.arr v43 2 kI64 1 r]) := by
 refine Ok.of_body (rs := [.tmp 10]) Tryz.func100 rfl rfl rfl rfl rfl fun X => ?_
 unfold Zhg at h
 refine zw ?_
 refine Ops.h (ns := []) rfl rfl (Y39 (k := kI64) (ys := ([] : List Int)) Ya3 .nil rfl rfl rfl) ?_
 rintro _ _ ⟨b1, rfl, rfl⟩
 refine Ops.v rfl (Yr rfl rfl) ?_
 refine Ops.nil ?_
 refine AW.seq ?_
 refine AW.cut (τ := List Int × Value) (fun (l42, v41) => ⟨[(11, C.val v41)], [Obj.arr v41 2 kI64 1 l42]⟩) (fun (l42, v41) => Zhc l42 = some r) ?_ ?_
 ·
  refine zw ?_
  refine AW.lp h (fun (l21, x22) (v20 : Value) => ⟨[(0, C.ip [C.im Y9b 3 p0.hub.rooms, C.im Y98 2 p0.hub.stream, C.im Y9m 1 p0.rooms]), (1, C.int p1), (2, C.int p2), (3, C.int p3), (4, C.int p4), (11, C.val v20), (20, C.im Y98 2 p0.hub.stream), (21, C.int (p0.hub.stream.length : Int)), (22, C.int x22)], [Obj.arr v20 2 kI64 1 l21]⟩) (gb [0]) ?_
  rintro ⟨l21, x22⟩ v20 y51 h
  refine zw ?_
  refine cnd h (fun hb23 h => ?_) fun hb23 h => ?_
  ·
   refine AW.ct hb23 rfl ?_
   refine zw ?_
   refine oi h fun e24 g25 h => ?_
   refine zw ?_
   refine Ops.h (ns := []) rfl rfl (Y1p (cs := [C.int 0, C.int 0]) Yb0 (Y42 rfl rfl) rfl) ?_
   rintro _ _ ⟨b26, rfl, rfl⟩
   refine zw ?_
   refine Ops.hd (ns := [0]) rfl rfl (Y1u (gs := [C.int e24.room, C.int e24.id]) Yb5.h rfl rfl rfl rfl rfl) ?_
   refine Ops.nil ?_
   refine AW.seq ?_
   refine AW.region ?_
   refine Ops.v rfl (Yq rfl rfl) ?_
   refine Ops.v rfl (Yv rfl rfl rfl rfl) ?_
   refine Ops.v rfl (Yr rfl rfl) ?_
   refine Ops.nil ?_
   refine AW.seq ?_
   refine AW.cut (τ := Bool) (fun x33 => ⟨[(0, C.ip [C.im Y9b 3 p0.hub.rooms, C.im Y98 2 p0.hub.stream, C.im Y9m 1 p0.rooms]), (1, C.int p1), (2, C.int p2), (3, C.int p3), (4, C.int p4), (11, C.val v20), (14, C.int (IntKind.i64.wrap (x22 + 1))), (20, C.im Y98 2 p0.hub.stream), (21, C.int (p0.hub.stream.length : Int)), (22, C.int x22), (46, C.bool x33)], [Obj.arr v20 2 kI64 1 l21]⟩) (fun x33 => Zhe l21 x22 x33 = some y51) ?_ ?_
   ·
    refine zw ?_
    refine oc h fun r27 g28 h => ?_
    refine zw ?_
    refine cnd h (fun hb29 h => ?_) fun hb29 h => ?_
    ·
     refine zw ?_
     refine cnd h (fun hb30 h => ?_) fun hb30 h => ?_
     ·
      refine zw ?_
      refine ob' h fun r31 g32 h => ?_
      refine Ops.ghd (ns := []) rfl rfl rfl rfl hb30 rfl (Y24 ((Zhb _ _ _ _).h _ g32) rfl rfl) ?_
      exact go
     exact go
    exact go
   intro x33 h
   replace h : Zhe l21 x22 x33 = some y51 := h
   unfold Zhe at h
   refine cnd h (fun hb34 h => ?_) fun hb34 h => ?_
   ·
    refine AW.ct hb34 rfl ?_
    refine zw ?_
    refine Ops.h (ns := []) rfl rfl (Y39 (k := kI64) (ys := [(IntKind.i64.wrap (x22 + 1))]) Ya3 (.one rfl (One.val rfl) rfl rfl .nil) rfl rfl rfl) ?_
    rintro _ _ ⟨b35, rfl, rfl⟩
    refine ob' h fun u37 c36 h => ?_
    refine Ops.h (ns := [1, 0]) rfl rfl (Y2s Ya3 rfl rfl (of_decide_eq_true (Y3t c36)) (Y3w (by decide) c36) rfl) ?_
    rintro _ _ ⟨v38, rfl, rfl⟩
    exact go
   exact go
  exact go
 rintro ⟨l42, v41⟩ h
 replace h : Zhc l42 = some r := h
 unfold Zhc at h
 refine zw ?_
 refine AW.ret ?_
 rw [← Option.some.inj h]
 exact ⟨[C.val v41], _, Y21.refl _, (.cons (.tmp rfl) .nil), [0], _, _, rfl, ⟨v41, rfl, rfl⟩⟩
instance Zhh' (p0 : Y95) (p1 : Int) (p2 : Int) (p3 : Int) (p4 : Int) : Sp Tryz.prog 100 [C.ip [C.im Y9b 3 p0.hub.rooms, C.im Y98 2 p0.hub.stream, C.im Y9m 1 p0.rooms], C.int p1, C.int p2, C.int p3, C.int p4] (Zhg p0 p1 p2 p3 p4) (fun r => C.im kI64 1 r) := ⟨fun r h => Ok.freeze (Zhh p0 p1 p2 p3 p4 r h) (by rintro c qs ⟨v43, rfl, rfl⟩; exact Frz.arr)⟩

end Go.Proofs.YtbgichfjcnibpaaGreat
